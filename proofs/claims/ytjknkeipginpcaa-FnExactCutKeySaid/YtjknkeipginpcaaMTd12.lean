/- Several texts in one: what the claim's last text rests on. No conditions. -/
import Derived.Test.YtjknkeipginpcaaMTd5
import Derived.Test.YtjknkeipginpcaaMTd11
import Derived.Test.YtjknkeipginpcaaMTd9
import Derived.Test.YtjknkeipginpcaaMTd7
import Derived.Test.YtjknkeipginpcaaMTd6
section
-- Written by a program of this session (pprint.py) out of the translation's print; Lean checks it.
namespace Go.Proofs.Ytjknkeipginpcaa.PQ
open Go.RowKit Go.Proofs.YtjknkeipginpcaaW.PrintWords Go.Proofs.YtjknkeipginpcaaW.PrintLast Go.Proofs.YtjknkeipginpcaaW.PrintMore
attribute [local go_sem] max2_int min2_int max_two min_two max_three min_three max_four min_four   -- for this text's walks alone
set_option linter.unusedVariables false
set_option linter.unusedSimpArgs false

/-! ### spec_CutKey: function 33 -/
def spec_CutKey.f (k : Nat) (l0_0 : List (S71)) (a1 : ByteArray) : Option ((List (S71)) × Bool) := (spec_l7Of.f k l0_0).bind fun bt589 => ((spec_l7At.f k bt589.1 a1).bind fun bt593 => (if bt589.2 = true then (if bt593.2 = true then ((some (([] : List (S74)) : List (S74))).bind fun y595 => (if 0 ≤ bt593.1 then (if bt593.1 ≤ (bt589.1.length : Int) then ((some (bt589.1.take (bt593.1 : Int).toNat : List (S74))).bind fun y598 => (if y595.length + y598.length < 4398046511104 then ((some (y595 ++ y598 : List (S74))).bind fun y602 => (if 0 ≤ (wrap64 (bt593.1 + 1)) then (if (wrap64 (bt593.1 + 1)) ≤ (bt589.1.length : Int) then ((some (bt589.1.drop ((wrap64 (bt593.1 + 1)) : Int).toNat : List (S74))).bind fun y605 => (if y602.length + y605.length < 4398046511104 then ((spec_l7Treap.f (y602 ++ y605)).bind fun t612 => (some (t612, true))) else (none))) else (none)) else (none))) else (none))) else (none)) else (none))) else (some (([] : List (S71)), false))) else (some (([] : List (S71)), false))))
theorem spec_CutKey.mono : ∀ a0 a1 k, LeO (spec_CutKey.f k a0 a1) (spec_CutKey.f (k + 1) a0 a1) := by
 intro a0 a1 k
 unfold spec_CutKey.f
 repeat' first
   | (with_reducible exact spec_l7At.mono _ _ _)
   | (with_reducible exact spec_l7Of.mono _ _)
   | (with_reducible exact LeO.refl _)
   | (with_reducible exact LeO.none _)
   | (with_reducible refine LeO.ite ?_ ?_)
   | (with_reducible refine LeO.bind ?_ (fun _ => ?_))
   | exact spec_l7At.mono _ _ _
   | exact spec_l7Of.mono _ _
   | exact LeO.none _
   | refine LeO.ite ?_ ?_
   | refine LeO.bind ?_ (fun _ => ?_)
def spec_CutKey.T5 : Bool × List (List Nat × List Nat) := (true, [([], []), ([], []), ([], []), ([1, 2], [1, 2]), ([0, 3], [0, 3]), ([], []), ([], []), ([6], [6]), ([5, 7], [5, 7]), ([4, 8, 4], [4, 8]), ([9, 9], [9]), ([10, 10, 0, 1, 2, 3, 4, 5, 6, 7, 8, 9, 10], [10]), ([11, 0, 1, 2, 3, 4, 5, 6, 7, 8, 9, 10, 11], [])])
def spec_CutKey.B5 : List Nat := [0, 0, 0, 6, 15, 0, 0, 64, 224, 511, 1023, 2047, 4095]
theorem spec_CutKey.tab5 : rtab .any (opsOf Try.f33 5) = spec_CutKey.T5 := by kernel_rfl
theorem spec_CutKey.bits5 : waitsOk spec_CutKey.T5.2 spec_CutKey.B5 = true := by kernel_rfl
set_option maxHeartbeats 8000000 in
set_option maxRecDepth 100000 in
theorem spec_CutKey.calls (k : Nat) (A0_0 : Option Addr) (c0_0 : Nat) (l0_0 : List (S71)) (a1 : ByteArray) (r1 : List (S71)) (r2 : Bool) (w : World) (hr0_0 : Kd.C k71 w A0_0 l0_0.length l0_0) (hc0_0 : l0_0.length ≤ c0_0) (h : spec_CutKey.f k l0_0 a1 = some (r1, r2)) :
  Calls Try.prog 33 #[.agg #[.slice A0_0 l0_0.length c0_0], .string a1] w fun e w' => ∃ v0_ : Value, e = .returned (.tuple #[.agg #[v0_], .bool r2]) ∧ Kd.R k71 71 w' w.heap.size (fun _ => True) v0_ r1 ∧ Below w.heap.size w w' := by
 have hu29 := Try.underlying29
 have HR0_0 := Aside0.mk hr0_0
 have HC0_0 := Aside0.mk hc0_0
 clear hr0_0 hc0_0
 have HB := Aside0.mk (Below.refl w.heap.size w)
 have H : ((spec_l7Of.f k l0_0).bind fun bt589 => ((spec_l7At.f k bt589.1 a1).bind fun bt593 => (if bt589.2 = true then (if bt593.2 = true then ((some (([] : List (S74)) : List (S74))).bind fun y595 => (if 0 ≤ bt593.1 then (if bt593.1 ≤ (bt589.1.length : Int) then ((some (bt589.1.take (bt593.1 : Int).toNat : List (S74))).bind fun y598 => (if y595.length + y598.length < 4398046511104 then ((some (y595 ++ y598 : List (S74))).bind fun y602 => (if 0 ≤ (wrap64 (bt593.1 + 1)) then (if (wrap64 (bt593.1 + 1)) ≤ (bt589.1.length : Int) then ((some (bt589.1.drop ((wrap64 (bt593.1 + 1)) : Int).toNat : List (S74))).bind fun y605 => (if y602.length + y605.length < 4398046511104 then ((spec_l7Treap.f (y602 ++ y605)).bind fun t612 => (some (t612, true))) else (none))) else (none)) else (none))) else (none))) else (none)) else (none))) else (some (([] : List (S71)), false))) else (some (([] : List (S71)), false))))) = some (r1, r2) := h
 clear h
 replace H := Option.bind_eq_some_iff.mp H
 obtain ⟨⟨t589, t592⟩, A30, H⟩ := H
 replace H : ((spec_l7At.f k t589 a1).bind fun bt593 => (if t592 = true then (if bt593.2 = true then ((some (([] : List (S74)) : List (S74))).bind fun y595 => (if 0 ≤ bt593.1 then (if bt593.1 ≤ (t589.length : Int) then ((some (t589.take (bt593.1 : Int).toNat : List (S74))).bind fun y598 => (if y595.length + y598.length < 4398046511104 then ((some (y595 ++ y598 : List (S74))).bind fun y602 => (if 0 ≤ (wrap64 (bt593.1 + 1)) then (if (wrap64 (bt593.1 + 1)) ≤ (t589.length : Int) then ((some (t589.drop ((wrap64 (bt593.1 + 1)) : Int).toNat : List (S74))).bind fun y605 => (if y602.length + y605.length < 4398046511104 then ((spec_l7Treap.f (y602 ++ y605)).bind fun t612 => (some (t612, true))) else (none))) else (none)) else (none))) else (none))) else (none)) else (none))) else (some (([] : List (S71)), false))) else (some (([] : List (S71)), false)))) = some (r1, r2) := H
 have A3 := Aside0.mk A30
 clear A30
 replace H := Option.bind_eq_some_iff.mp H
 obtain ⟨⟨t593, t594⟩, A40, H⟩ := H
 replace H : (if t592 = true then (if t594 = true then ((some (([] : List (S74)) : List (S74))).bind fun y595 => (if 0 ≤ t593 then (if t593 ≤ (t589.length : Int) then ((some (t589.take (t593 : Int).toNat : List (S74))).bind fun y598 => (if y595.length + y598.length < 4398046511104 then ((some (y595 ++ y598 : List (S74))).bind fun y602 => (if 0 ≤ (wrap64 (t593 + 1)) then (if (wrap64 (t593 + 1)) ≤ (t589.length : Int) then ((some (t589.drop ((wrap64 (t593 + 1)) : Int).toNat : List (S74))).bind fun y605 => (if y602.length + y605.length < 4398046511104 then ((spec_l7Treap.f (y602 ++ y605)).bind fun t612 => (some (t612, true))) else (none))) else (none)) else (none))) else (none))) else (none)) else (none))) else (some (([] : List (S71)), false))) else (some (([] : List (S71)), false))) = some (r1, r2) := H
 have A4 := Aside0.mk A40
 clear A40
 by_cases c5 : t592 = true
 ·
  subst c5
  have H1 : (if t594 = true then ((some (([] : List (S74)) : List (S74))).bind fun y595 => (if 0 ≤ t593 then (if t593 ≤ (t589.length : Int) then ((some (t589.take (t593 : Int).toNat : List (S74))).bind fun y598 => (if y595.length + y598.length < 4398046511104 then ((some (y595 ++ y598 : List (S74))).bind fun y602 => (if 0 ≤ (wrap64 (t593 + 1)) then (if (wrap64 (t593 + 1)) ≤ (t589.length : Int) then ((some (t589.drop ((wrap64 (t593 + 1)) : Int).toNat : List (S74))).bind fun y605 => (if y602.length + y605.length < 4398046511104 then ((spec_l7Treap.f (y602 ++ y605)).bind fun t612 => (some (t612, true))) else (none))) else (none)) else (none))) else (none))) else (none)) else (none))) else (some (([] : List (S71)), false))) = some (r1, r2) := by rw [if_pos rfl] at H; exact H
  clear H
  have H := H1
  clear H1
  by_cases c6 : t594 = true
  ·
   subst c6
   have H1 : ((some (([] : List (S74)) : List (S74))).bind fun y595 => (if 0 ≤ t593 then (if t593 ≤ (t589.length : Int) then ((some (t589.take (t593 : Int).toNat : List (S74))).bind fun y598 => (if y595.length + y598.length < 4398046511104 then ((some (y595 ++ y598 : List (S74))).bind fun y602 => (if 0 ≤ (wrap64 (t593 + 1)) then (if (wrap64 (t593 + 1)) ≤ (t589.length : Int) then ((some (t589.drop ((wrap64 (t593 + 1)) : Int).toNat : List (S74))).bind fun y605 => (if y602.length + y605.length < 4398046511104 then ((spec_l7Treap.f (y602 ++ y605)).bind fun t612 => (some (t612, true))) else (none))) else (none)) else (none))) else (none))) else (none)) else (none))) = some (r1, r2) := by rw [if_pos rfl] at H; exact H
   clear H
   have H := H1
   clear H1
   obtain ⟨y595, hy595⟩ : ∃ y_ : List (S74), y_ = (([] : List (S74))) := ⟨_, rfl⟩
   replace H : (if 0 ≤ t593 then (if t593 ≤ (t589.length : Int) then ((some (t589.take (t593 : Int).toNat : List (S74))).bind fun y598 => (if y595.length + y598.length < 4398046511104 then ((some (y595 ++ y598 : List (S74))).bind fun y602 => (if 0 ≤ (wrap64 (t593 + 1)) then (if (wrap64 (t593 + 1)) ≤ (t589.length : Int) then ((some (t589.drop ((wrap64 (t593 + 1)) : Int).toNat : List (S74))).bind fun y605 => (if y602.length + y605.length < 4398046511104 then ((spec_l7Treap.f (y602 ++ y605)).bind fun t612 => (some (t612, true))) else (none))) else (none)) else (none))) else (none))) else (none)) else (none)) = some (r1, r2) := by first | (rw [hy595]; with_reducible exact H) | (have H2_ := (Option.bind_some _ _).symm.trans H; rw [hy595]; with_reducible exact H2_) | (have H2_ := (Option.bind_some _ _).symm.trans H; with_reducible exact H2_) | with_reducible exact H | (rw [hy595]; exact H) | exact H
   have Ny595 := Aside0.mk hy595
   clear hy595
   by_cases c7 : 0 ≤ t593
   ·
    rw [if_pos c7] at H
    have c7b0 := eq_true c7
    have c7b1 : decide (0 ≤ t593) = true := decide_eq_true c7
    clear c7
    by_cases c8 : t593 ≤ (t589.length : Int)
    ·
     rw [if_pos c8] at H
     have c8b0 := eq_true c8
     have c8b1 : decide (t593 ≤ (t589.length : Int)) = true := decide_eq_true c8
     clear c8
     obtain ⟨y598, hy598⟩ : ∃ y_ : List (S74), y_ = (t589.take (t593 : Int).toNat) := ⟨_, rfl⟩
     replace H : (if y595.length + y598.length < 4398046511104 then ((some (y595 ++ y598 : List (S74))).bind fun y602 => (if 0 ≤ (wrap64 (t593 + 1)) then (if (wrap64 (t593 + 1)) ≤ (t589.length : Int) then ((some (t589.drop ((wrap64 (t593 + 1)) : Int).toNat : List (S74))).bind fun y605 => (if y602.length + y605.length < 4398046511104 then ((spec_l7Treap.f (y602 ++ y605)).bind fun t612 => (some (t612, true))) else (none))) else (none)) else (none))) else (none)) = some (r1, r2) := by first | (rw [hy598]; with_reducible exact H) | (have H2_ := (Option.bind_some _ _).symm.trans H; rw [hy598]; with_reducible exact H2_) | (have H2_ := (Option.bind_some _ _).symm.trans H; with_reducible exact H2_) | with_reducible exact H | (rw [hy598]; exact H) | exact H
     have Ny598 := Aside0.mk hy598
     clear hy598
     by_cases c9 : y595.length + y598.length < 4398046511104
     ·
      rw [if_pos c9] at H
      have LMc9 := Aside0.mk c9
      clear c9
      obtain ⟨y602, hy602⟩ : ∃ y_ : List (S74), y_ = (y595 ++ y598) := ⟨_, rfl⟩
      replace H : (if 0 ≤ (wrap64 (t593 + 1)) then (if (wrap64 (t593 + 1)) ≤ (t589.length : Int) then ((some (t589.drop ((wrap64 (t593 + 1)) : Int).toNat : List (S74))).bind fun y605 => (if y602.length + y605.length < 4398046511104 then ((spec_l7Treap.f (y602 ++ y605)).bind fun t612 => (some (t612, true))) else (none))) else (none)) else (none)) = some (r1, r2) := by first | (rw [hy602]; with_reducible exact H) | (have H2_ := (Option.bind_some _ _).symm.trans H; rw [hy602]; with_reducible exact H2_) | (have H2_ := (Option.bind_some _ _).symm.trans H; with_reducible exact H2_) | with_reducible exact H | (rw [hy602]; exact H) | exact H
      have Ny602 := Aside0.mk hy602
      clear hy602
      obtain ⟨ji10, hji10⟩ : ∃ j_ : Int, (wrap64 (t593 + 1)) = j_ := ⟨_, rfl⟩
      replace H : (if 0 ≤ (ji10) then (if (ji10) ≤ (t589.length : Int) then ((some (t589.drop ((ji10) : Int).toNat : List (S74))).bind fun y605 => (if y602.length + y605.length < 4398046511104 then ((spec_l7Treap.f (y602 ++ y605)).bind fun t612 => (some (t612, true))) else (none))) else (none)) else (none)) = some (r1, r2) := by first | (rw [hji10] at H; exact H) | (simp only [hji10] at H ⊢; exact H)
      (try rw [hji10] at A3)
      (try rw [hji10] at A4)
      have hji10w : (IntKind.i64.wrap (t593 + 1)) = ji10 := (i64_w _).trans hji10
      by_cases c11 : 0 ≤ (ji10)
      ·
       rw [if_pos c11] at H
       have c11b0 := eq_true c11
       have c11b1 : decide (0 ≤ (ji10)) = true := decide_eq_true c11
       clear c11
       by_cases c12 : (ji10) ≤ (t589.length : Int)
       ·
        rw [if_pos c12] at H
        have c12b0 := eq_true c12
        have c12b1 : decide ((ji10) ≤ (t589.length : Int)) = true := decide_eq_true c12
        clear c12
        obtain ⟨y605, hy605⟩ : ∃ y_ : List (S74), y_ = (t589.drop ((ji10) : Int).toNat) := ⟨_, rfl⟩
        replace H : (if y602.length + y605.length < 4398046511104 then ((spec_l7Treap.f (y602 ++ y605)).bind fun t612 => (some (t612, true))) else (none)) = some (r1, r2) := by first | (rw [hy605]; with_reducible exact H) | (have H2_ := (Option.bind_some _ _).symm.trans H; rw [hy605]; with_reducible exact H2_) | (have H2_ := (Option.bind_some _ _).symm.trans H; with_reducible exact H2_) | with_reducible exact H | (rw [hy605]; exact H) | exact H
        have Ny605 := Aside0.mk hy605
        clear hy605
        by_cases c13 : y602.length + y605.length < 4398046511104
        ·
         rw [if_pos c13] at H
         have LMc13 := Aside0.mk c13
         clear c13
         obtain ⟨y609, hy609⟩ : ∃ y_ : List (S74), y_ = (y602 ++ y605) := ⟨_, rfl⟩
         replace H : ((spec_l7Treap.f y609).bind fun t612 => (some (t612, true))) = some (r1, r2) := by first | (rw [hy609]; with_reducible exact H) | (have H2_ := (Option.bind_some _ _).symm.trans H; rw [hy609]; with_reducible exact H2_) | (have H2_ := (Option.bind_some _ _).symm.trans H; with_reducible exact H2_) | with_reducible exact H | (rw [hy609]; exact H) | exact H
         have Ny609 := Aside0.mk hy609
         clear hy609
         replace H := Option.bind_eq_some_iff.mp H
         obtain ⟨t612, A140, H⟩ := H
         replace H : (some (t612, true)) = some (r1, r2) := H
         have A14 := Aside0.mk A140
         clear A140
         simp only [Option.some.injEq, Prod.mk.injEq] at H
         obtain ⟨rfl, rfl⟩ := H
         go_enter Try.func33, Try.ntmps33
         try go_wp2_with (first | ((with_reducible refine gate_dst (N := 2) rfl ?_); refine box_event ?hg (N := 2) ?hd (cs := #[.slice A0_0 l0_0.length c0_0]) (t := 29) ?hr ?_; (case hd => rfl); (case hg => rfl); (case hr => first | (go_simp; done) | (go_simp; rfl)); intro gb587 hg w15 hbox hb; have n0_ := Aside0.mk (below_step (by repeat (first | (with_reducible first | exact HB.out | apply below_alloc | apply pw_below_drewN | apply below_drew1) | exact HB.out)) hb); have n1_ := Aside0.mk (hbox); have n2_ := Aside0.mk ((by rw [hg]; exact (below_size (by repeat (first | (with_reducible first | exact HB.out | apply below_alloc | apply pw_below_drewN | apply below_drew1) | exact HB.out))) : w.heap.size ≤ gb587)); have n3_ := Aside0.mk ((by rw [hg]; exact (below_size (by repeat (first | (with_reducible first | exact HB.out | apply below_alloc | apply pw_below_drewN | apply below_drew1) | exact HB.out))) : w.heap.size ≤ gb587)); clear HB; have HB := n0_; have BK587 := n1_; have GW587 := n2_; have GE587 := n3_; clear n0_ n1_ n2_ n3_; clear hb hbox hg) | ((with_reducible refine gate_dst (N := 4) rfl ?_); refine box_event ?hg (N := 4) ?hd (cs := #[.slice none 0 0]) (t := 29) ?hr ?_; (case hd => rfl); (case hg => rfl); (case hr => first | (go_simp; done) | (go_simp; rfl)); intro gb588 hg w16 hbox hb; have n0_ := Aside0.mk (blk_below (g := gb587) (o := .cells #[.slice A0_0 l0_0.length c0_0] 29 (0, 0)) (by (with_reducible repeat (first | refine blk_drewN ?_ _ | refine blk_drew ?_ | refine blk_alloc ?_ _)); exact BK587.out) hb); have n1_ := Aside0.mk (below_step (by repeat (first | (with_reducible first | exact HB.out | apply below_alloc | apply pw_below_drewN | apply below_drew1 | refine below_set ?_ GE587.out) | exact HB.out)) hb); have n2_ := Aside0.mk (hbox); have n3_ := Aside0.mk ((by rw [hg]; exact (below_size (by repeat (first | (with_reducible first | exact HB.out | apply below_alloc | apply pw_below_drewN | apply below_drew1 | refine below_set ?_ GE587.out) | exact HB.out))) : w.heap.size ≤ gb588)); have n4_ := Aside0.mk ((by rw [hg]; exact (below_size (by repeat (first | (with_reducible first | exact HB.out | apply below_alloc | apply pw_below_drewN | apply below_drew1 | refine below_set ?_ GE587.out) | exact HB.out))) : w.heap.size ≤ gb588)); have n5_ := Aside0.mk ((by rw [hg]; exact Nat.ne_of_lt (blk_lt (g := gb587) (o := .cells #[.slice A0_0 l0_0.length c0_0] 29 (0, 0)) (by (with_reducible repeat (first | refine blk_drewN ?_ _ | refine blk_drew ?_ | refine blk_alloc ?_ _)); exact BK587.out)) : gb587 ≠ gb588)); have n6_ := Aside0.mk ((by rw [hg]; exact Nat.ne_of_gt (blk_lt (g := gb587) (o := .cells #[.slice A0_0 l0_0.length c0_0] 29 (0, 0)) (by (with_reducible repeat (first | refine blk_drewN ?_ _ | refine blk_drew ?_ | refine blk_alloc ?_ _)); exact BK587.out)) : gb588 ≠ gb587)); clear BK587; clear HB; have BK587 := n0_; have HB := n1_; have BK588 := n2_; have GW588 := n3_; have GE588 := n4_; have NB587_588 := n5_; have NB588_587 := n6_; clear n0_ n1_ n2_ n3_ n4_ n5_ n6_; clear hb hbox hg; have hnb17 := NB587_588.out; have hnc17 := NB588_587.out; have hcz18_0 : w16.cell? ⟨gb587, 0, none⟩ = some (.slice A0_0 l0_0.length c0_0) := (blk_cell BK587.out 0).trans rfl; have hfz18_0 := blk_frozen BK587.out 0) | ((with_reducible refine gate_callee (f := 47) rfl ?_); refine goesL_ (some 12) rfl rfl Try.func47 (by kernel_rfl) rfl #[.agg #[.slice A0_0 l0_0.length c0_0]] rfl (by (try simp only [List.map_toArray, List.map_cons, List.map_nil]); first | done | rfl | (simp only [List.length_drop, List.length_take]; rfl)) ?_; (with_reducible refine (spec_l7Of.calls k _ _ l0_0 t589 true _ ?side1 ?side2 A3.out).mono ?_); (case side1 => repeat (first | exact (Kd.C_below HR0_0.out HB.out) | (with_reducible refine Kd.C_alloc ?_ _) | (with_reducible refine Kd.C_drewN ?_ _) | (with_reducible refine Kd.C_drew ?_))); (case side2 => exact HC0_0.out); rintro e w19 ⟨v590, rfl, ho0, hb⟩; refine ⟨_, rfl, ?_⟩; have n0_ := Aside0.mk (Kd.R_lower ho0 (below_size (by repeat (first | (with_reducible first | exact HB.out | apply below_alloc | apply pw_below_drewN | apply below_drew1 | refine below_set ?_ GE587.out | refine below_set ?_ GE588.out) | exact HB.out)))); have n1_ := Aside0.mk (blk_below (g := gb587) (o := .cells #[.slice A0_0 l0_0.length c0_0] 29 (0, 0)) (by (with_reducible repeat (first | refine blk_drewN ?_ _ | refine blk_drew ?_ | refine blk_alloc ?_ _)); exact BK587.out) hb); have n2_ := Aside0.mk (blk_below (g := gb588) (o := .cells #[.slice none 0 0] 29 (0, 0)) (by (with_reducible repeat (first | refine blk_drewN ?_ _ | refine blk_drew ?_ | refine blk_alloc ?_ _)); exact BK588.out) hb); have n3_ := Aside0.mk (below_step (by repeat (first | (with_reducible first | exact HB.out | apply below_alloc | apply pw_below_drewN | apply below_drew1 | refine below_set ?_ GE587.out | refine below_set ?_ GE588.out) | exact HB.out)) hb); clear BK587; clear BK588; clear HB; have HO591 := n0_; have BK587 := n1_; have BK588 := n2_; have HB := n3_; clear n0_ n1_ n2_ n3_; (try clear hb); (try clear hb2); (try clear hk); (try clear hi); (try clear ho0); obtain ⟨Ao20, co20, eo20⟩ := Kd.R_slice HO591.out; subst eo20) | ((with_reducible refine gate_callee (f := 60) rfl ?_); refine goesL_ (some 18) rfl rfl Try.func60 (by kernel_rfl) rfl #[.slice Ao20 t589.length co20, .string a1] rfl (by (try simp only [List.map_toArray, List.map_cons, List.map_nil]); first | done | rfl | (simp only [List.length_drop, List.length_take]; rfl)) ?_; (with_reducible refine (spec_l7At.calls k _ _ t589 a1 t593 true _ ?side1 ?side2 A4.out).mono ?_); (case side1 => repeat (first | exact (Kd.R_reads' HO591.out).2.2 | (with_reducible refine Kd.C_alloc ?_ _) | (with_reducible refine Kd.C_drewN ?_ _) | (with_reducible refine Kd.C_drew ?_))); (case side2 => exact (Kd.R_reads' HO591.out).2.1); rintro e w' ⟨rfl, ⟨nd, rfl⟩⟩; refine ⟨_, rfl, ?_⟩; (try (rw [drewN_self w19]; generalize hq_ : World.drewN w19 _ = w19; have n0_ : Aside0 (Kd.R k74 74 w19 w.heap.size (fun _ => True) (.slice Ao20 t589.length co20) t589) := ⟨by rw [← hq_]; exact (by (with_reducible repeat (first | apply Kd.R_alloc | apply Kd.R_drewN | apply Kd.R_drew)); exact HO591.out)⟩; have n1_ : Aside0 (w19.heap[gb587]? = some (.cells #[.slice A0_0 l0_0.length c0_0] 29 (0, 0))) := ⟨by rw [← hq_]; exact (by (with_reducible repeat (first | refine blk_drewN ?_ _ | refine blk_drew ?_ | refine blk_alloc ?_ _)); exact BK587.out)⟩; have n2_ : Aside0 (w19.heap[gb588]? = some (.cells #[.slice none 0 0] 29 (0, 0))) := ⟨by rw [← hq_]; exact (by (with_reducible repeat (first | refine blk_drewN ?_ _ | refine blk_drew ?_ | refine blk_alloc ?_ _)); exact BK588.out)⟩; have n3_ : Aside0 (Below w.heap.size w w19) := ⟨by rw [← hq_]; exact (by repeat (first | (with_reducible first | exact HB.out | apply below_alloc | apply pw_below_drewN | apply below_drew1 | refine below_set ?_ GE587.out | refine below_set ?_ GE588.out) | exact HB.out))⟩; clear HO591 BK587 BK588 HB hq_; have HO591 := n0_; have BK587 := n1_; have BK588 := n2_; have HB := n3_; clear n0_ n1_ n2_ n3_))))
         have n0_ := Aside0.mk (Kd.R_drew HO591.out)
         have n1_ := Aside0.mk (blk_drew BK587.out)
         have n2_ := Aside0.mk (blk_drew BK588.out)
         have n3_ := Aside0.mk (below_drew1 HB.out)
         clear HO591
         clear BK587
         clear BK588
         clear HB
         have HO591 := n0_
         have BK587 := n1_
         have BK588 := n2_
         have HB := n3_
         clear n0_ n1_ n2_ n3_
         have q22 : (t593 : Int) ≤ ((t589.length : Int) : Int) := of_decide_eq_true (by first | (with_reducible assumption) | assumption)
         obtain ⟨i022, hi022, _, hsz22, _⟩ := info_parts info74
         have hroom22 : t589.length ≤ co20 := (Kd.R_reads' HO591.out).2.1
         have hC22 : Kd.C k74 _ Ao20 t589.length t589 := (Kd.R_reads' HO591.out).2.2
         have hcut22 := cut_to (P := Try.prog) 62 74 .i64 Try.underlying62 hi022 Ao20 t589.length co20 t593 (of_decide_eq_true (by first | (with_reducible assumption) | assumption)) q22 hroom22
         have hr22 := Kd.C_take (m := (t593 : Int).toNat) hC22 (by omega)
         have hy22 : y598.length = (t593 : Int).toNat := (by rw [Ny598.out, List.length_take]; omega)
         rw [← Ny598.out] at hr22
         rw [← hy22] at hcut22
         have HR601 := Aside0.mk hr22
         have HC601 := Aside0.mk (show y598.length ≤ co20 from by omega)
         clear hr22 hC22 hroom22 hi022 hsz22
         have KY22 := Aside0.mk hy22
         clear hy22
         have KL22 := Aside0.mk (show (t593 : Int).toNat ≤ t589.length from by omega)
         replace q22 := eq_true q22
         have q23 : ((ji10) : Int) ≤ ((t589.length : Int) : Int) := of_decide_eq_true (by first | (with_reducible assumption) | assumption)
         obtain ⟨i023, hi023, _, hsz23, _⟩ := info_parts info74
         have hroom23 : t589.length ≤ co20 := (Kd.R_reads' HO591.out).2.1
         have hC23 : Kd.C k74 _ Ao20 t589.length t589 := (Kd.R_reads' HO591.out).2.2
         have q023 : (0 : Int) ≤ ((ji10) : Int) := of_decide_eq_true (by first | (with_reducible assumption) | assumption)
         have hcut23 := cut_from (P := Try.prog) 62 74 .i64 Try.underlying62 hi023 2 hsz23 Ao20 t589.length co20 (ji10) q023 q23
         have hr23 := Kd.C_drop (m := ((ji10) : Int).toNat) (c := co20) hC23 (by omega) hroom23
         obtain ⟨A23, hA23⟩ : ∃ A1, A1 = (if co20 = ((ji10) : Int).toNat then Ao20 else (Ao20 : Option Addr).map (·.add (((ji10) : Int).toNat * 2))) := ⟨_, rfl⟩
         obtain ⟨c23, hc23⟩ : ∃ c1, c1 = co20 - ((ji10) : Int).toNat := ⟨_, rfl⟩
         have hy23 : y605.length = t589.length - ((ji10) : Int).toNat := (by rw [Ny605.out, List.length_drop] <;> omega)
         rw [show (t589).drop ((ji10) : Int).toNat = y605 from Ny605.out.symm] at hr23
         replace hr23 : Kd.C k74 _ A23 y605.length y605 := (by rw [hA23]; exact hr23)
         rw [← hy23, ← hA23, ← hc23] at hcut23
         have HR608 := Aside0.mk hr23
         have HC608 := Aside0.mk (show y605.length ≤ c23 from by rw [hy23, hc23]; exact Nat.sub_le_sub_right hroom23 _)
         clear hr23 hC23 hroom23 hi023 hsz23 hc23
         have KY23 := Aside0.mk hy23
         have KA23 := Aside0.mk hA23
         clear hy23 hA23
         have KL23 := Aside0.mk (show ((ji10) : Int).toNat ≤ t589.length from by omega)
         replace q23 := eq_true q23
         refine start_ (n := 13) (S := fun w' => True) (ds := []) #[false, false, false, false, false, false, false, false, false, false, false, false, false] (by kernel_rfl) rfl rfl trivial (fun hHeld => ?_); refine with_tabW spec_CutKey.tab5 spec_CutKey.bits5 (fun HT_ HW_ => ?_)
         generalize w19.drew = w21 at HO591 BK587 BK588 HB HR601 HR608 hHeld ⊢
         refine pure_ (i := 1) (N := some 29) (v := ?_) (a' := ?_) #[false, true, false, false, false, false, false, false, false, false, false, false, false] rfl rfl (any_of HT_.out (by kernel_rfl)) (fun _ _ _ h => h) (Or.inl ⟨by rfl, ?_⟩) ?_ ?_
         rotate_left
         ·
          intro w'
          go_simp
          with_reducible rfl
         rotate_left
         ·
          simp only [Act.put, List.setIfInBounds_toArray, List.set_cons_zero, List.set_cons_succ, i64_w, i32_w]
          rfl
         refine pure_ (i := 2) (N := some 30) (v := ?_) (a' := ?_) #[false, true, true, false, false, false, false, false, false, false, false, false, false] rfl rfl (any_of HT_.out (by kernel_rfl)) (fun _ _ _ h => h) (Or.inl ⟨by rfl, ?_⟩) ?_ ?_
         rotate_left
         ·
          intro w'
          go_simp
          with_reducible rfl
         rotate_left
         ·
          simp only [Act.put, List.setIfInBounds_toArray, List.set_cons_zero, List.set_cons_succ, i64_w, i32_w]
          rfl
         refine pure_ (i := 3) (N := some 31) (v := ?_) (a' := ?_) #[false, true, true, true, false, false, false, false, false, false, false, false, false] rfl rfl (any_of HT_.out (by kernel_rfl)) (fun _ _ _ h => h) (Or.inl ⟨by rfl, ?_⟩) ?_ ?_
         rotate_left
         ·
          intro w'
          go_simp
          with_reducible rfl
         rotate_left
         ·
          simp only [Act.put, List.setIfInBounds_toArray, List.set_cons_zero, List.set_cons_succ, i64_w, i32_w]
          rfl
         refine pure_ (i := 5) (N := some 33) (v := ?_) (a' := ?_) #[false, true, true, true, false, true, false, false, false, false, false, false, false] rfl rfl (any_of HT_.out (by kernel_rfl)) (fun _ _ _ h => h) (Or.inl ⟨by rfl, ?_⟩) ?_ ?_
         rotate_left
         ·
          intro w'
          go_simp
          with_reducible rfl
         rotate_left
         ·
          simp only [Act.put, List.setIfInBounds_toArray, List.set_cons_zero, List.set_cons_succ, i64_w, i32_w]
          rfl
         refine pure_ (i := 6) (N := some 34) (v := ?_) (a' := ?_) #[false, true, true, true, false, true, true, false, false, false, false, false, false] rfl rfl (any_of HT_.out (by kernel_rfl)) (fun _ _ _ h => h) (Or.inl ⟨by rfl, ?_⟩) ?_ ?_
         rotate_left
         ·
          intro w'
          go_simp
          with_reducible rfl
         rotate_left
         ·
          simp only [Act.put, List.setIfInBounds_toArray, List.set_cons_zero, List.set_cons_succ, i64_w, i32_w]
          rfl
         refine pure_ (i := 7) (N := some 35) (v := ?_) (a' := ?_) #[false, true, true, true, false, true, true, true, false, false, false, false, false] rfl rfl (any_of HT_.out (by kernel_rfl)) (fun _ _ _ h => h) (Or.inl ⟨by rfl, ?_⟩) ?_ ?_
         rotate_left
         ·
          intro w'
          go_simp
          with_reducible rfl
         rotate_left
         ·
          simp only [Act.put, List.setIfInBounds_toArray, List.set_cons_zero, List.set_cons_succ, i64_w, i32_w]
          rfl
         refine pure_ (i := 8) (N := some 36) (v := ?_) (a' := ?_) #[false, true, true, true, false, true, true, true, true, false, false, false, false] rfl rfl (any_of HT_.out (by kernel_rfl)) (fun _ _ _ h => h) (Or.inl ⟨by rfl, ?_⟩) ?_ ?_
         rotate_left
         ·
          intro w'
          go_simp
          with_reducible rfl
         rotate_left
         ·
          simp only [Act.put, List.setIfInBounds_toArray, List.set_cons_zero, List.set_cons_succ, i64_w, i32_w]
          rfl
         refine one_ (i := 0) (N := some 28) #[true, true, true, true, false, true, true, true, true, false, false, false, false] rfl rfl (one_of HT_.out (by kernel_rfl)) (by decide) (fun K hK => ?_)
         refine Kd.R_lit_step k74 _ 74 ?hg (N := 28) ?hd (xs := ([] : List (S74))) (inner := []) (ok := fun _ => True) (okp := fun _ => True) ?hr ?hp (fun _ hk => hk) trivial (Below.refl _ _) (Nat.le_refl _) (by simp) ?_; (case hd => rfl); (case hg => rfl); (case hr => first | (go_simp; done) | (go_simp; rfl)); (case hp => exact (Reps.none _ _))
         intro v596 w24 ho25 hb hg_ hnew_
         clear hg_ hnew_
         (first | rw [← Ny595.out] at ho25 | (simp only [Int.reduceToNat] at ho25; rw [← Ny595.out] at ho25))
         have n0_ := Aside0.mk (Kd.R_elder' (by (with_reducible repeat (first | apply Kd.R_alloc | apply Kd.R_drewN | apply Kd.R_drew)); exact HO591.out) (Kd.R_base ho25) hb)
         have n1_ := Aside0.mk (Kd.R_lower (Kd.R_new' ho25 (Kd.R_lt (by (with_reducible repeat (first | apply Kd.R_alloc | apply Kd.R_drewN | apply Kd.R_drew)); exact HO591.out))) (below_size (by repeat (first | (with_reducible first | exact HB.out | apply below_alloc | apply pw_below_drewN | apply below_drew1 | refine below_set ?_ GE587.out | refine below_set ?_ GE588.out) | exact HB.out))))
         have n2_ := Aside0.mk (blk_below (g := gb587) (o := .cells #[.slice A0_0 l0_0.length c0_0] 29 (0, 0)) (by (with_reducible repeat (first | refine blk_drewN ?_ _ | refine blk_drew ?_ | refine blk_alloc ?_ _)); exact BK587.out) hb)
         have n3_ := Aside0.mk (blk_below (g := gb588) (o := .cells #[.slice none 0 0] 29 (0, 0)) (by (with_reducible repeat (first | refine blk_drewN ?_ _ | refine blk_drew ?_ | refine blk_alloc ?_ _)); exact BK588.out) hb)
         have n4_ := Aside0.mk (Kd.C_below (by repeat (first | (with_reducible exact HR601.out) | (with_reducible refine Kd.C_alloc ?_ _) | (with_reducible refine Kd.C_drewN ?_ _) | (with_reducible refine Kd.C_drew ?_) | exact HR601.out)) hb)
         have n5_ := Aside0.mk (Kd.C_below (by repeat (first | (with_reducible exact HR608.out) | (with_reducible refine Kd.C_alloc ?_ _) | (with_reducible refine Kd.C_drewN ?_ _) | (with_reducible refine Kd.C_drew ?_) | exact HR608.out)) hb)
         have n6_ := Aside0.mk (below_step (by repeat (first | (with_reducible first | exact HB.out | apply below_alloc | apply pw_below_drewN | apply below_drew1 | refine below_set ?_ GE587.out | refine below_set ?_ GE588.out) | exact HB.out)) hb)
         clear HO591
         clear BK587
         clear BK588
         clear HR601
         clear HR608
         clear HB
         have HO591 := n0_
         have HO597 := n1_
         have BK587 := n2_
         have BK588 := n3_
         have HR601 := n4_
         have HR608 := n5_
         have HB := n6_
         clear n0_ n1_ n2_ n3_ n4_ n5_ n6_
         clear hb ho25
         refine hK.out _ _ trivial (fun hHeld => ?_)
         clear hK K
         refine norm_ (a' := ?_) ?_ ?_
         rotate_left
         ·
          show Act.put _ (some 28) _ = _
          simp only [Act.put, List.setIfInBounds_toArray, List.set_cons_zero, List.set_cons_succ, i64_w, i32_w]
          rfl
         refine one_ (i := 4) (N := some 32) #[true, true, true, true, true, true, true, true, true, false, false, false, false] rfl rfl (one_of HT_.out (by kernel_rfl)) (by decide) (fun K hK => ?_)
         refine Kd.R_append_rows_step k74 (w0 := w) w.heap.size (by rfl) (.tmp 28) (.tmp 31) 62 74 (.agg #[(.string ⟨#[]⟩), (.string ⟨#[]⟩)]) 32 rfl Try.underlying62 info74 rfl (by decide) (by omega) v596 y595 y598 _ _ _ (fun k_ => some k_ ≠ (.slice Ao20 t589.length co20 : Value).ownBlock) (fun _ => False) rfl rfl ?aO ?aR (fun _ _ h => h) (fun _ h => h.elim) ?aF ?aB ?aS ?aL ?_
         (case aR => repeat (first | exact (by repeat (first | (with_reducible exact HR601.out) | (with_reducible refine Kd.C_alloc ?_ _) | (with_reducible refine Kd.C_drewN ?_ _) | (with_reducible refine Kd.C_drew ?_) | exact HR601.out)) | (with_reducible refine Kd.C_alloc ?_ _) | (with_reducible refine Kd.C_drewN ?_ _) | (with_reducible refine Kd.C_drew ?_)))
         (case aB => exact (by repeat (first | (with_reducible first | exact HB.out | apply below_alloc | apply pw_below_drewN | apply below_drew1 | refine below_set ?_ GE587.out | refine below_set ?_ GE588.out) | exact HB.out)))
         (case aF => exact (fun k_ hk => Kd.fresh' (Kd.R_lt (by (with_reducible repeat (first | apply Kd.R_alloc | apply Kd.R_drewN | apply Kd.R_drew)); exact HO591.out)) k_ hk))
         (case aO => exact (by (with_reducible repeat (first | apply Kd.R_alloc | apply Kd.R_drewN | apply Kd.R_drew)); exact Kd.R_mono HO597.out (fun _ hk => hk.2)))
         (case aS => exact (below_size (by repeat (first | (with_reducible first | exact HB.out | apply below_alloc | apply pw_below_drewN | apply below_drew1 | refine below_set ?_ GE587.out | refine below_set ?_ GE588.out) | exact HB.out))))
         (case aL => have := LMc9.out; omega)
         intro v603 w26 ho hb hg hat
         rw [← Ny602.out] at ho
         have n0_ := Aside0.mk (blk_grown (g := gb587) (o := .cells #[.slice A0_0 l0_0.length c0_0] 29 (0, 0)) (by (with_reducible repeat (first | refine blk_drewN ?_ _ | refine blk_drew ?_ | refine blk_alloc ?_ _)); exact BK587.out) hg (Kd.R_ne HO597.out BK587.out (by decide)))
         have n1_ := Aside0.mk (blk_grown (g := gb588) (o := .cells #[.slice none 0 0] 29 (0, 0)) (by (with_reducible repeat (first | refine blk_drewN ?_ _ | refine blk_drew ?_ | refine blk_alloc ?_ _)); exact BK588.out) hg (Kd.R_ne HO597.out BK588.out (by decide)))
         have n2_ := Aside0.mk (Kd.R_after (ok := (fun _ => True)) (by (with_reducible repeat (first | apply Kd.R_alloc | apply Kd.R_drewN | apply Kd.R_drew)); exact HO591.out) hg hat)
         have n3_ := Aside0.mk (hb)
         have n4_ := Aside0.mk ((show Kd.C k74 w26 Ao20 y598.length y598 from by rw [Ny598.out]; exact Kd.C_take (m := (t593 : Int).toNat) ((Kd.R_reads' (Kd.R_after (ok := (fun _ => True)) (by (with_reducible repeat (first | apply Kd.R_alloc | apply Kd.R_drewN | apply Kd.R_drew)); exact HO591.out) hg hat)).2.2) KL22.out))
         have n5_ := Aside0.mk ((show Kd.C k74 w26 A23 y605.length y605 from by rw [Ny605.out, KA23.out]; exact Kd.C_drop (m := ((ji10) : Int).toNat) (c := co20) ((Kd.R_reads' (Kd.R_after (ok := (fun _ => True)) (by (with_reducible repeat (first | apply Kd.R_alloc | apply Kd.R_drewN | apply Kd.R_drew)); exact HO591.out) hg hat)).2.2) KL23.out ((Kd.R_reads' (Kd.R_after (ok := (fun _ => True)) (by (with_reducible repeat (first | apply Kd.R_alloc | apply Kd.R_drewN | apply Kd.R_drew)); exact HO591.out) hg hat)).2.1)))
         have n6_ := Aside0.mk (ho)
         clear BK587
         clear BK588
         clear HO591
         clear HB
         clear HR601
         clear HR608
         clear HO597
         have BK587 := n0_
         have BK588 := n1_
         have HO591 := n2_
         have HB := n3_
         have HR601 := n4_
         have HR608 := n5_
         have HO604 := n6_
         clear n0_ n1_ n2_ n3_ n4_ n5_ n6_
         clear ho hb hg hat
         refine hK.out _ _ trivial (fun hHeld => ?_)
         clear hK K
         refine norm_ (a' := ?_) ?_ ?_
         rotate_left
         ·
          show Act.put _ (some 32) _ = _
          simp only [Act.put, List.setIfInBounds_toArray, List.set_cons_zero, List.set_cons_succ, i64_w, i32_w]
          rfl
         refine one_ (i := 9) (N := some 37) #[true, true, true, true, true, true, true, true, true, true, false, false, false] rfl rfl (one_of HT_.out (by kernel_rfl)) (by decide) (fun K hK => ?_)
         refine Kd.R_append_rows_step k74 (w0 := w) w.heap.size (by rfl) (.tmp 32) (.tmp 36) 62 74 (.agg #[(.string ⟨#[]⟩), (.string ⟨#[]⟩)]) 32 rfl Try.underlying62 info74 rfl (by decide) (by omega) v603 y602 y605 _ _ _ (fun k_ => some k_ ≠ (.slice Ao20 t589.length co20 : Value).ownBlock) (fun _ => False) rfl rfl ?aO ?aR (fun _ _ h => h) (fun _ h => h.elim) ?aF ?aB ?aS ?aL ?_
         (case aR => repeat (first | exact (by repeat (first | (with_reducible exact HR608.out) | (with_reducible refine Kd.C_alloc ?_ _) | (with_reducible refine Kd.C_drewN ?_ _) | (with_reducible refine Kd.C_drew ?_) | exact HR608.out)) | (with_reducible refine Kd.C_alloc ?_ _) | (with_reducible refine Kd.C_drewN ?_ _) | (with_reducible refine Kd.C_drew ?_)))
         (case aB => exact (by repeat (first | (with_reducible first | exact HB.out | apply below_alloc | apply pw_below_drewN | apply below_drew1 | refine below_set ?_ GE587.out | refine below_set ?_ GE588.out) | exact HB.out)))
         (case aF => exact (fun k_ hk => Kd.fresh' (Kd.R_lt (by (with_reducible repeat (first | apply Kd.R_alloc | apply Kd.R_drewN | apply Kd.R_drew)); exact HO591.out)) k_ hk))
         (case aO => exact (by (with_reducible repeat (first | apply Kd.R_alloc | apply Kd.R_drewN | apply Kd.R_drew)); exact HO604.out))
         (case aS => exact (below_size (by repeat (first | (with_reducible first | exact HB.out | apply below_alloc | apply pw_below_drewN | apply below_drew1 | refine below_set ?_ GE587.out | refine below_set ?_ GE588.out) | exact HB.out))))
         (case aL => have := LMc13.out; omega)
         intro v610 w27 ho hb hg hat
         rw [← Ny609.out] at ho
         have n0_ := Aside0.mk (blk_grown (g := gb587) (o := .cells #[.slice A0_0 l0_0.length c0_0] 29 (0, 0)) (by (with_reducible repeat (first | refine blk_drewN ?_ _ | refine blk_drew ?_ | refine blk_alloc ?_ _)); exact BK587.out) hg (Kd.R_ne HO604.out BK587.out (by decide)))
         have n1_ := Aside0.mk (blk_grown (g := gb588) (o := .cells #[.slice none 0 0] 29 (0, 0)) (by (with_reducible repeat (first | refine blk_drewN ?_ _ | refine blk_drew ?_ | refine blk_alloc ?_ _)); exact BK588.out) hg (Kd.R_ne HO604.out BK588.out (by decide)))
         have n2_ := Aside0.mk (Kd.R_after (ok := (fun _ => True)) (by (with_reducible repeat (first | apply Kd.R_alloc | apply Kd.R_drewN | apply Kd.R_drew)); exact HO591.out) hg hat)
         have n3_ := Aside0.mk (hb)
         have n4_ := Aside0.mk ((show Kd.C k74 w27 Ao20 y598.length y598 from by rw [Ny598.out]; exact Kd.C_take (m := (t593 : Int).toNat) ((Kd.R_reads' (Kd.R_after (ok := (fun _ => True)) (by (with_reducible repeat (first | apply Kd.R_alloc | apply Kd.R_drewN | apply Kd.R_drew)); exact HO591.out) hg hat)).2.2) KL22.out))
         have n5_ := Aside0.mk ((show Kd.C k74 w27 A23 y605.length y605 from by rw [Ny605.out, KA23.out]; exact Kd.C_drop (m := ((ji10) : Int).toNat) (c := co20) ((Kd.R_reads' (Kd.R_after (ok := (fun _ => True)) (by (with_reducible repeat (first | apply Kd.R_alloc | apply Kd.R_drewN | apply Kd.R_drew)); exact HO591.out) hg hat)).2.2) KL23.out ((Kd.R_reads' (Kd.R_after (ok := (fun _ => True)) (by (with_reducible repeat (first | apply Kd.R_alloc | apply Kd.R_drewN | apply Kd.R_drew)); exact HO591.out) hg hat)).2.1)))
         have n6_ := Aside0.mk (ho)
         clear BK587
         clear BK588
         clear HO591
         clear HB
         clear HR601
         clear HR608
         clear HO604
         have BK587 := n0_
         have BK588 := n1_
         have HO591 := n2_
         have HB := n3_
         have HR601 := n4_
         have HR608 := n5_
         have HO611 := n6_
         clear n0_ n1_ n2_ n3_ n4_ n5_ n6_
         clear ho hb hg hat
         obtain ⟨Ao28, co28, eo28⟩ := Kd.R_slice HO611.out
         (first | subst eo28 | (injection eo28 with f1_ f2_ f3_; have f4_ := f1_.symm; have f5_ := f3_.symm; clear f1_ f2_ f3_; subst f4_; subst f5_))
         refine hK.out _ _ trivial (fun hHeld => ?_)
         clear hK K
         refine norm_ (a' := ?_) ?_ ?_
         rotate_left
         ·
          show Act.put _ (some 37) _ = _
          simp only [Act.put, List.setIfInBounds_toArray, List.set_cons_zero, List.set_cons_succ, i64_w, i32_w]
          rfl
         refine one_ (i := 10) (N := some 38) #[true, true, true, true, true, true, true, true, true, true, true, false, false] rfl rfl (one_of HT_.out (by kernel_rfl)) (by decide) (fun K hK => ?_)
         refine goes_ Try.func56 (by kernel_rfl) rfl #[.slice Ao28 y609.length co28] (by rfl) rfl rfl (by (try simp only [List.map_toArray, List.map_cons, List.map_nil]); first | done | rfl | (simp only [List.length_drop, List.length_take]; rfl)) ?_
         with_reducible refine (spec_l7Treap.calls _ _ y609 t612 _ ?side1 ?side2 A14.out).mono ?_
         (case side1 => repeat (first | exact (Kd.R_reads' HO611.out).2.2 | (with_reducible refine Kd.C_alloc ?_ _) | (with_reducible refine Kd.C_drewN ?_ _) | (with_reducible refine Kd.C_drew ?_)))
         (case side2 => exact (Kd.R_reads' HO611.out).2.1)
         rintro e w29 ⟨v613, rfl, ho0, hb⟩
         refine ⟨_, rfl, ?_⟩
         have n0_ := Aside0.mk (Kd.R_below (by (with_reducible repeat (first | apply Kd.R_alloc | apply Kd.R_drewN | apply Kd.R_drew)); exact HO591.out) hb)
         have n1_ := Aside0.mk (Kd.R_below (by (with_reducible repeat (first | apply Kd.R_alloc | apply Kd.R_drewN | apply Kd.R_drew)); exact HO611.out) hb)
         have n2_ := Aside0.mk (Kd.R_lower ho0 (below_size (by repeat (first | (with_reducible first | exact HB.out | apply below_alloc | apply pw_below_drewN | apply below_drew1 | refine below_set ?_ GE587.out | refine below_set ?_ GE588.out) | exact HB.out))))
         have n3_ := Aside0.mk (blk_below (g := gb587) (o := .cells #[.slice A0_0 l0_0.length c0_0] 29 (0, 0)) (by (with_reducible repeat (first | refine blk_drewN ?_ _ | refine blk_drew ?_ | refine blk_alloc ?_ _)); exact BK587.out) hb)
         have n4_ := Aside0.mk (blk_below (g := gb588) (o := .cells #[.slice none 0 0] 29 (0, 0)) (by (with_reducible repeat (first | refine blk_drewN ?_ _ | refine blk_drew ?_ | refine blk_alloc ?_ _)); exact BK588.out) hb)
         have n5_ := Aside0.mk (Kd.C_below (by repeat (first | (with_reducible exact HR601.out) | (with_reducible refine Kd.C_alloc ?_ _) | (with_reducible refine Kd.C_drewN ?_ _) | (with_reducible refine Kd.C_drew ?_) | exact HR601.out)) hb)
         have n6_ := Aside0.mk (Kd.C_below (by repeat (first | (with_reducible exact HR608.out) | (with_reducible refine Kd.C_alloc ?_ _) | (with_reducible refine Kd.C_drewN ?_ _) | (with_reducible refine Kd.C_drew ?_) | exact HR608.out)) hb)
         have n7_ := Aside0.mk (below_step (by repeat (first | (with_reducible first | exact HB.out | apply below_alloc | apply pw_below_drewN | apply below_drew1 | refine below_set ?_ GE587.out | refine below_set ?_ GE588.out) | exact HB.out)) hb)
         clear HO591
         clear HO611
         clear BK587
         clear BK588
         clear HR601
         clear HR608
         clear HB
         have HO591 := n0_
         have HO611 := n1_
         have HO614 := n2_
         have BK587 := n3_
         have BK588 := n4_
         have HR601 := n5_
         have HR608 := n6_
         have HB := n7_
         clear n0_ n1_ n2_ n3_ n4_ n5_ n6_ n7_
         (try clear hb)
         (try clear hb2)
         (try clear hk)
         (try clear hi)
         (try clear ho0)
         obtain ⟨Ao30, co30, eo30⟩ := Kd.R_slice HO614.out
         (first | subst eo30 | (injection eo30 with f1_ f2_ f3_; have f4_ := f1_.symm; have f5_ := f3_.symm; clear f1_ f2_ f3_; subst f4_; subst f5_))
         refine hK.out _ _ trivial (fun hHeld => ?_)
         clear hK K
         refine norm_ (a' := ?_) ?_ ?_
         rotate_left
         ·
          show Act.put _ (some 38) _ = _
          simp only [Act.put, List.setIfInBounds_toArray, List.set_cons_zero, List.set_cons_succ, i64_w, i32_w]
          rfl
         refine one_ (i := 11) (N := none) #[true, true, true, true, true, true, true, true, true, true, true, true, false] rfl rfl (one_of HT_.out (by kernel_rfl)) (by decide) (fun K hK => ?_)
         have hs31 : w29.cell? ⟨gb588, 0, none⟩ = some (.slice none 0 0) := (blk_cell BK588.out 0).trans rfl
         have hfs31 := blk_frozen BK588.out 0
         have hns31_0 := NB587_588.out
         have hms31_0 := NB588_587.out
         refine skip_ (w1 := ?_) (by rfl) rfl ?_ ?_
         rotate_left
         ·
          go_simp
          rfl
         refine hK.out _ _ trivial (fun hHeld => ?_)
         clear hK K
         refine pure_ (i := 12) (N := some 5) (v := ?_) (a' := ?_) #[true, true, true, true, true, true, true, true, true, true, true, true, true] rfl rfl (any_of HT_.out (by kernel_rfl)) (fun _ _ _ h => h) (Or.inl ⟨by rfl, ?_⟩) ?_ ?_
         rotate_left
         ·
          intro w'
          go_simp
          with_reducible rfl
         rotate_left
         ·
          simp only [Act.put, List.setIfInBounds_toArray, List.set_cons_zero, List.set_cons_succ, i64_w, i32_w]
          rfl
         refine done_ (done_of HT_.out (by kernel_rfl)) ?_
         try go_wp2
         refine bodyPost_ret (results_ct rfl _ _ gb588 29 #[.slice Ao30 t612.length co30] (0, 0) _ rfl (by (with_reducible repeat (first | refine blk_drewN ?_ _ | refine blk_drew ?_ | refine blk_alloc ?_ _)); refine blk_put (cs := #[.slice none 0 0]) ?_ 0 _ rfl; (with_reducible repeat (first | refine blk_drewN ?_ _ | refine blk_drew ?_ | refine blk_alloc ?_ _)); exact BK588.out) Try.underlying29 rfl (by kernel_rfl)) rfl ?_
         exact ⟨_, by first | rfl | (simp [errW_none, errW_some] <;> rfl) | (simp only [← hji10]; first | rfl | (simp [errW_none, errW_some] <;> rfl)) | (simp [*, errW_none, errW_some] <;> rfl), by (with_reducible repeat (first | apply Kd.R_alloc | apply Kd.R_drewN | apply Kd.R_drew)); exact Kd.R_mono (Kd.R_far (p := ⟨gb588, 0, none⟩) (Kd.R_types HO614.out BK588.out (by decide)) (fun _ hk => hk.2) (.slice Ao30 t612.length co30)) (fun _ hk => trivial), by repeat (first | (with_reducible first | exact HB.out | apply below_alloc | apply pw_below_drewN | apply below_drew1 | refine below_set ?_ GE587.out | refine below_set ?_ GE588.out) | exact HB.out)⟩
        ·
         rw [if_neg c13] at H
         exact absurd H (by simp)
       ·
        rw [if_neg c12] at H
        exact absurd H (by simp)
      ·
       rw [if_neg c11] at H
       exact absurd H (by simp)
     ·
      rw [if_neg c9] at H
      exact absurd H (by simp)
    ·
     rw [if_neg c8] at H
     exact absurd H (by simp)
   ·
    rw [if_neg c7] at H
    exact absurd H (by simp)
  ·
   replace c6 := Bool.eq_false_iff.mpr c6
   subst c6
   have H1 : (some (([] : List (S71)), false)) = some (r1, r2) := by rw [if_neg (show ¬ (false = true) by decide)] at H; exact H
   clear H
   have H := H1
   clear H1
   simp only [Option.some.injEq, Prod.mk.injEq] at H
   obtain ⟨rfl, rfl⟩ := H
   go_enter Try.func33, Try.ntmps33
   go_wp2_with (first | ((with_reducible refine gate_dst (N := 2) rfl ?_); refine box_event ?hg (N := 2) ?hd (cs := #[.slice A0_0 l0_0.length c0_0]) (t := 29) ?hr ?_; (case hd => rfl); (case hg => rfl); (case hr => first | (go_simp; done) | (go_simp; rfl)); intro gb587 hg w32 hbox hb; have n0_ := Aside0.mk (below_step (by repeat (first | (with_reducible first | exact HB.out | apply below_alloc | apply pw_below_drewN | apply below_drew1) | exact HB.out)) hb); have n1_ := Aside0.mk (hbox); have n2_ := Aside0.mk ((by rw [hg]; exact (below_size (by repeat (first | (with_reducible first | exact HB.out | apply below_alloc | apply pw_below_drewN | apply below_drew1) | exact HB.out))) : w.heap.size ≤ gb587)); have n3_ := Aside0.mk ((by rw [hg]; exact (below_size (by repeat (first | (with_reducible first | exact HB.out | apply below_alloc | apply pw_below_drewN | apply below_drew1) | exact HB.out))) : w.heap.size ≤ gb587)); clear HB; have HB := n0_; have BK587 := n1_; have GW587 := n2_; have GE587 := n3_; clear n0_ n1_ n2_ n3_; clear hb hbox hg) | ((with_reducible refine gate_dst (N := 4) rfl ?_); refine box_event ?hg (N := 4) ?hd (cs := #[.slice none 0 0]) (t := 29) ?hr ?_; (case hd => rfl); (case hg => rfl); (case hr => first | (go_simp; done) | (go_simp; rfl)); intro gb588 hg w33 hbox hb; have n0_ := Aside0.mk (blk_below (g := gb587) (o := .cells #[.slice A0_0 l0_0.length c0_0] 29 (0, 0)) (by (with_reducible repeat (first | refine blk_drewN ?_ _ | refine blk_drew ?_ | refine blk_alloc ?_ _)); exact BK587.out) hb); have n1_ := Aside0.mk (below_step (by repeat (first | (with_reducible first | exact HB.out | apply below_alloc | apply pw_below_drewN | apply below_drew1 | refine below_set ?_ GE587.out) | exact HB.out)) hb); have n2_ := Aside0.mk (hbox); have n3_ := Aside0.mk ((by rw [hg]; exact (below_size (by repeat (first | (with_reducible first | exact HB.out | apply below_alloc | apply pw_below_drewN | apply below_drew1 | refine below_set ?_ GE587.out) | exact HB.out))) : w.heap.size ≤ gb588)); have n4_ := Aside0.mk ((by rw [hg]; exact (below_size (by repeat (first | (with_reducible first | exact HB.out | apply below_alloc | apply pw_below_drewN | apply below_drew1 | refine below_set ?_ GE587.out) | exact HB.out))) : w.heap.size ≤ gb588)); have n5_ := Aside0.mk ((by rw [hg]; exact Nat.ne_of_lt (blk_lt (g := gb587) (o := .cells #[.slice A0_0 l0_0.length c0_0] 29 (0, 0)) (by (with_reducible repeat (first | refine blk_drewN ?_ _ | refine blk_drew ?_ | refine blk_alloc ?_ _)); exact BK587.out)) : gb587 ≠ gb588)); have n6_ := Aside0.mk ((by rw [hg]; exact Nat.ne_of_gt (blk_lt (g := gb587) (o := .cells #[.slice A0_0 l0_0.length c0_0] 29 (0, 0)) (by (with_reducible repeat (first | refine blk_drewN ?_ _ | refine blk_drew ?_ | refine blk_alloc ?_ _)); exact BK587.out)) : gb588 ≠ gb587)); clear BK587; clear HB; have BK587 := n0_; have HB := n1_; have BK588 := n2_; have GW588 := n3_; have GE588 := n4_; have NB587_588 := n5_; have NB588_587 := n6_; clear n0_ n1_ n2_ n3_ n4_ n5_ n6_; clear hb hbox hg; have hnb34 := NB587_588.out; have hnc34 := NB588_587.out; have hcz35_0 : w33.cell? ⟨gb587, 0, none⟩ = some (.slice A0_0 l0_0.length c0_0) := (blk_cell BK587.out 0).trans rfl; have hfz35_0 := blk_frozen BK587.out 0) | ((with_reducible refine gate_callee (f := 47) rfl ?_); refine goesL_ (some 12) rfl rfl Try.func47 (by kernel_rfl) rfl #[.agg #[.slice A0_0 l0_0.length c0_0]] rfl (by (try simp only [List.map_toArray, List.map_cons, List.map_nil]); first | done | rfl | (simp only [List.length_drop, List.length_take]; rfl)) ?_; (with_reducible refine (spec_l7Of.calls k _ _ l0_0 t589 true _ ?side1 ?side2 A3.out).mono ?_); (case side1 => repeat (first | exact (Kd.C_below HR0_0.out HB.out) | (with_reducible refine Kd.C_alloc ?_ _) | (with_reducible refine Kd.C_drewN ?_ _) | (with_reducible refine Kd.C_drew ?_))); (case side2 => exact HC0_0.out); rintro e w36 ⟨v590, rfl, ho0, hb⟩; refine ⟨_, rfl, ?_⟩; have n0_ := Aside0.mk (Kd.R_lower ho0 (below_size (by repeat (first | (with_reducible first | exact HB.out | apply below_alloc | apply pw_below_drewN | apply below_drew1 | refine below_set ?_ GE587.out | refine below_set ?_ GE588.out) | exact HB.out)))); have n1_ := Aside0.mk (blk_below (g := gb587) (o := .cells #[.slice A0_0 l0_0.length c0_0] 29 (0, 0)) (by (with_reducible repeat (first | refine blk_drewN ?_ _ | refine blk_drew ?_ | refine blk_alloc ?_ _)); exact BK587.out) hb); have n2_ := Aside0.mk (blk_below (g := gb588) (o := .cells #[.slice none 0 0] 29 (0, 0)) (by (with_reducible repeat (first | refine blk_drewN ?_ _ | refine blk_drew ?_ | refine blk_alloc ?_ _)); exact BK588.out) hb); have n3_ := Aside0.mk (below_step (by repeat (first | (with_reducible first | exact HB.out | apply below_alloc | apply pw_below_drewN | apply below_drew1 | refine below_set ?_ GE587.out | refine below_set ?_ GE588.out) | exact HB.out)) hb); clear BK587; clear BK588; clear HB; have HO591 := n0_; have BK587 := n1_; have BK588 := n2_; have HB := n3_; clear n0_ n1_ n2_ n3_; (try clear hb); (try clear hb2); (try clear hk); (try clear hi); (try clear ho0); obtain ⟨Ao37, co37, eo37⟩ := Kd.R_slice HO591.out; subst eo37) | ((with_reducible refine gate_callee (f := 60) rfl ?_); refine goesL_ (some 18) rfl rfl Try.func60 (by kernel_rfl) rfl #[.slice Ao37 t589.length co37, .string a1] rfl (by (try simp only [List.map_toArray, List.map_cons, List.map_nil]); first | done | rfl | (simp only [List.length_drop, List.length_take]; rfl)) ?_; (with_reducible refine (spec_l7At.calls k _ _ t589 a1 t593 false _ ?side1 ?side2 A4.out).mono ?_); (case side1 => repeat (first | exact (Kd.R_reads' HO591.out).2.2 | (with_reducible refine Kd.C_alloc ?_ _) | (with_reducible refine Kd.C_drewN ?_ _) | (with_reducible refine Kd.C_drew ?_))); (case side2 => exact (Kd.R_reads' HO591.out).2.1); rintro e w' ⟨rfl, ⟨nd, rfl⟩⟩; refine ⟨_, rfl, ?_⟩; (try (rw [drewN_self w36]; generalize hq_ : World.drewN w36 _ = w36; have n0_ : Aside0 (Kd.R k74 74 w36 w.heap.size (fun _ => True) (.slice Ao37 t589.length co37) t589) := ⟨by rw [← hq_]; exact (by (with_reducible repeat (first | apply Kd.R_alloc | apply Kd.R_drewN | apply Kd.R_drew)); exact HO591.out)⟩; have n1_ : Aside0 (w36.heap[gb587]? = some (.cells #[.slice A0_0 l0_0.length c0_0] 29 (0, 0))) := ⟨by rw [← hq_]; exact (by (with_reducible repeat (first | refine blk_drewN ?_ _ | refine blk_drew ?_ | refine blk_alloc ?_ _)); exact BK587.out)⟩; have n2_ : Aside0 (w36.heap[gb588]? = some (.cells #[.slice none 0 0] 29 (0, 0))) := ⟨by rw [← hq_]; exact (by (with_reducible repeat (first | refine blk_drewN ?_ _ | refine blk_drew ?_ | refine blk_alloc ?_ _)); exact BK588.out)⟩; have n3_ : Aside0 (Below w.heap.size w w36) := ⟨by rw [← hq_]; exact (by repeat (first | (with_reducible first | exact HB.out | apply below_alloc | apply pw_below_drewN | apply below_drew1 | refine below_set ?_ GE587.out | refine below_set ?_ GE588.out) | exact HB.out))⟩; clear HO591 BK587 BK588 HB hq_; have HO591 := n0_; have BK587 := n1_; have BK588 := n2_; have HB := n3_; clear n0_ n1_ n2_ n3_)); have hcz38_0 : w36.cell? ⟨gb588, 0, none⟩ = some (.slice none 0 0) := (blk_cell BK588.out 0).trans rfl; have hfz38_0 := blk_frozen BK588.out 0))
   refine bodyPost_ret (results_ct rfl _ _ gb588 29 #[.slice none 0 0] (0, 0) _ rfl (by (with_reducible repeat (first | refine blk_drewN ?_ _ | refine blk_drew ?_ | refine blk_alloc ?_ _)); refine blk_put (cs := #[.slice none 0 0]) ?_ 0 _ rfl; (with_reducible repeat (first | refine blk_drewN ?_ _ | refine blk_drew ?_ | refine blk_alloc ?_ _)); exact BK588.out) Try.underlying29 rfl (by kernel_rfl)) rfl ?_
   exact ⟨_, by first | rfl | (simp [errW_none, errW_some] <;> rfl) | (simp [*, errW_none, errW_some] <;> rfl), by first | exact Kd.R_nil _ _ _ _ _ | exact Kd.N_nil _ _ _ _ _ | exact Kd.V_nil _ _ _ _ _ | exact Kd.Q_nil _ _ _ _ _ | exact Kd.S_nil _ _ _ _ _, by repeat (first | (with_reducible first | exact HB.out | apply below_alloc | apply pw_below_drewN | apply below_drew1 | refine below_set ?_ GE587.out | refine below_set ?_ GE588.out) | exact HB.out)⟩
 ·
  replace c5 := Bool.eq_false_iff.mpr c5
  subst c5
  have H1 : (some (([] : List (S71)), false)) = some (r1, r2) := by rw [if_neg (show ¬ (false = true) by decide)] at H; exact H
  clear H
  have H := H1
  clear H1
  simp only [Option.some.injEq, Prod.mk.injEq] at H
  obtain ⟨rfl, rfl⟩ := H
  go_enter Try.func33, Try.ntmps33
  go_wp2_with (first | ((with_reducible refine gate_dst (N := 2) rfl ?_); refine box_event ?hg (N := 2) ?hd (cs := #[.slice A0_0 l0_0.length c0_0]) (t := 29) ?hr ?_; (case hd => rfl); (case hg => rfl); (case hr => first | (go_simp; done) | (go_simp; rfl)); intro gb587 hg w39 hbox hb; have n0_ := Aside0.mk (below_step (by repeat (first | (with_reducible first | exact HB.out | apply below_alloc | apply pw_below_drewN | apply below_drew1) | exact HB.out)) hb); have n1_ := Aside0.mk (hbox); have n2_ := Aside0.mk ((by rw [hg]; exact (below_size (by repeat (first | (with_reducible first | exact HB.out | apply below_alloc | apply pw_below_drewN | apply below_drew1) | exact HB.out))) : w.heap.size ≤ gb587)); have n3_ := Aside0.mk ((by rw [hg]; exact (below_size (by repeat (first | (with_reducible first | exact HB.out | apply below_alloc | apply pw_below_drewN | apply below_drew1) | exact HB.out))) : w.heap.size ≤ gb587)); clear HB; have HB := n0_; have BK587 := n1_; have GW587 := n2_; have GE587 := n3_; clear n0_ n1_ n2_ n3_; clear hb hbox hg) | ((with_reducible refine gate_dst (N := 4) rfl ?_); refine box_event ?hg (N := 4) ?hd (cs := #[.slice none 0 0]) (t := 29) ?hr ?_; (case hd => rfl); (case hg => rfl); (case hr => first | (go_simp; done) | (go_simp; rfl)); intro gb588 hg w40 hbox hb; have n0_ := Aside0.mk (blk_below (g := gb587) (o := .cells #[.slice A0_0 l0_0.length c0_0] 29 (0, 0)) (by (with_reducible repeat (first | refine blk_drewN ?_ _ | refine blk_drew ?_ | refine blk_alloc ?_ _)); exact BK587.out) hb); have n1_ := Aside0.mk (below_step (by repeat (first | (with_reducible first | exact HB.out | apply below_alloc | apply pw_below_drewN | apply below_drew1 | refine below_set ?_ GE587.out) | exact HB.out)) hb); have n2_ := Aside0.mk (hbox); have n3_ := Aside0.mk ((by rw [hg]; exact (below_size (by repeat (first | (with_reducible first | exact HB.out | apply below_alloc | apply pw_below_drewN | apply below_drew1 | refine below_set ?_ GE587.out) | exact HB.out))) : w.heap.size ≤ gb588)); have n4_ := Aside0.mk ((by rw [hg]; exact (below_size (by repeat (first | (with_reducible first | exact HB.out | apply below_alloc | apply pw_below_drewN | apply below_drew1 | refine below_set ?_ GE587.out) | exact HB.out))) : w.heap.size ≤ gb588)); have n5_ := Aside0.mk ((by rw [hg]; exact Nat.ne_of_lt (blk_lt (g := gb587) (o := .cells #[.slice A0_0 l0_0.length c0_0] 29 (0, 0)) (by (with_reducible repeat (first | refine blk_drewN ?_ _ | refine blk_drew ?_ | refine blk_alloc ?_ _)); exact BK587.out)) : gb587 ≠ gb588)); have n6_ := Aside0.mk ((by rw [hg]; exact Nat.ne_of_gt (blk_lt (g := gb587) (o := .cells #[.slice A0_0 l0_0.length c0_0] 29 (0, 0)) (by (with_reducible repeat (first | refine blk_drewN ?_ _ | refine blk_drew ?_ | refine blk_alloc ?_ _)); exact BK587.out)) : gb588 ≠ gb587)); clear BK587; clear HB; have BK587 := n0_; have HB := n1_; have BK588 := n2_; have GW588 := n3_; have GE588 := n4_; have NB587_588 := n5_; have NB588_587 := n6_; clear n0_ n1_ n2_ n3_ n4_ n5_ n6_; clear hb hbox hg; have hnb41 := NB587_588.out; have hnc41 := NB588_587.out; have hcz42_0 : w40.cell? ⟨gb587, 0, none⟩ = some (.slice A0_0 l0_0.length c0_0) := (blk_cell BK587.out 0).trans rfl; have hfz42_0 := blk_frozen BK587.out 0) | ((with_reducible refine gate_callee (f := 47) rfl ?_); refine goesL_ (some 12) rfl rfl Try.func47 (by kernel_rfl) rfl #[.agg #[.slice A0_0 l0_0.length c0_0]] rfl (by (try simp only [List.map_toArray, List.map_cons, List.map_nil]); first | done | rfl | (simp only [List.length_drop, List.length_take]; rfl)) ?_; (with_reducible refine (spec_l7Of.calls k _ _ l0_0 t589 false _ ?side1 ?side2 A3.out).mono ?_); (case side1 => repeat (first | exact (Kd.C_below HR0_0.out HB.out) | (with_reducible refine Kd.C_alloc ?_ _) | (with_reducible refine Kd.C_drewN ?_ _) | (with_reducible refine Kd.C_drew ?_))); (case side2 => exact HC0_0.out); rintro e w43 ⟨v590, rfl, ho0, hb⟩; refine ⟨_, rfl, ?_⟩; have n0_ := Aside0.mk (Kd.R_lower ho0 (below_size (by repeat (first | (with_reducible first | exact HB.out | apply below_alloc | apply pw_below_drewN | apply below_drew1 | refine below_set ?_ GE587.out | refine below_set ?_ GE588.out) | exact HB.out)))); have n1_ := Aside0.mk (blk_below (g := gb587) (o := .cells #[.slice A0_0 l0_0.length c0_0] 29 (0, 0)) (by (with_reducible repeat (first | refine blk_drewN ?_ _ | refine blk_drew ?_ | refine blk_alloc ?_ _)); exact BK587.out) hb); have n2_ := Aside0.mk (blk_below (g := gb588) (o := .cells #[.slice none 0 0] 29 (0, 0)) (by (with_reducible repeat (first | refine blk_drewN ?_ _ | refine blk_drew ?_ | refine blk_alloc ?_ _)); exact BK588.out) hb); have n3_ := Aside0.mk (below_step (by repeat (first | (with_reducible first | exact HB.out | apply below_alloc | apply pw_below_drewN | apply below_drew1 | refine below_set ?_ GE587.out | refine below_set ?_ GE588.out) | exact HB.out)) hb); clear BK587; clear BK588; clear HB; have HO591 := n0_; have BK587 := n1_; have BK588 := n2_; have HB := n3_; clear n0_ n1_ n2_ n3_; (try clear hb); (try clear hb2); (try clear hk); (try clear hi); (try clear ho0); obtain ⟨Ao44, co44, eo44⟩ := Kd.R_slice HO591.out; subst eo44) | ((with_reducible refine gate_callee (f := 60) rfl ?_); refine goesL_ (some 18) rfl rfl Try.func60 (by kernel_rfl) rfl #[.slice Ao44 t589.length co44, .string a1] rfl (by (try simp only [List.map_toArray, List.map_cons, List.map_nil]); first | done | rfl | (simp only [List.length_drop, List.length_take]; rfl)) ?_; (with_reducible refine (spec_l7At.calls k _ _ t589 a1 t593 t594 _ ?side1 ?side2 A4.out).mono ?_); (case side1 => repeat (first | exact (Kd.R_reads' HO591.out).2.2 | (with_reducible refine Kd.C_alloc ?_ _) | (with_reducible refine Kd.C_drewN ?_ _) | (with_reducible refine Kd.C_drew ?_))); (case side2 => exact (Kd.R_reads' HO591.out).2.1); rintro e w' ⟨rfl, ⟨nd, rfl⟩⟩; refine ⟨_, rfl, ?_⟩; (try (rw [drewN_self w43]; generalize hq_ : World.drewN w43 _ = w43; have n0_ : Aside0 (Kd.R k74 74 w43 w.heap.size (fun _ => True) (.slice Ao44 t589.length co44) t589) := ⟨by rw [← hq_]; exact (by (with_reducible repeat (first | apply Kd.R_alloc | apply Kd.R_drewN | apply Kd.R_drew)); exact HO591.out)⟩; have n1_ : Aside0 (w43.heap[gb587]? = some (.cells #[.slice A0_0 l0_0.length c0_0] 29 (0, 0))) := ⟨by rw [← hq_]; exact (by (with_reducible repeat (first | refine blk_drewN ?_ _ | refine blk_drew ?_ | refine blk_alloc ?_ _)); exact BK587.out)⟩; have n2_ : Aside0 (w43.heap[gb588]? = some (.cells #[.slice none 0 0] 29 (0, 0))) := ⟨by rw [← hq_]; exact (by (with_reducible repeat (first | refine blk_drewN ?_ _ | refine blk_drew ?_ | refine blk_alloc ?_ _)); exact BK588.out)⟩; have n3_ : Aside0 (Below w.heap.size w w43) := ⟨by rw [← hq_]; exact (by repeat (first | (with_reducible first | exact HB.out | apply below_alloc | apply pw_below_drewN | apply below_drew1 | refine below_set ?_ GE587.out | refine below_set ?_ GE588.out) | exact HB.out))⟩; clear HO591 BK587 BK588 HB hq_; have HO591 := n0_; have BK587 := n1_; have BK588 := n2_; have HB := n3_; clear n0_ n1_ n2_ n3_)); have hcz45_0 : w43.cell? ⟨gb588, 0, none⟩ = some (.slice none 0 0) := (blk_cell BK588.out 0).trans rfl; have hfz45_0 := blk_frozen BK588.out 0))
  refine bodyPost_ret (results_ct rfl _ _ gb588 29 #[.slice none 0 0] (0, 0) _ rfl (by (with_reducible repeat (first | refine blk_drewN ?_ _ | refine blk_drew ?_ | refine blk_alloc ?_ _)); refine blk_put (cs := #[.slice none 0 0]) ?_ 0 _ rfl; (with_reducible repeat (first | refine blk_drewN ?_ _ | refine blk_drew ?_ | refine blk_alloc ?_ _)); exact BK588.out) Try.underlying29 rfl (by kernel_rfl)) rfl ?_
  exact ⟨_, by first | rfl | (simp [errW_none, errW_some] <;> rfl) | (simp [*, errW_none, errW_some] <;> rfl), by first | exact Kd.R_nil _ _ _ _ _ | exact Kd.N_nil _ _ _ _ _ | exact Kd.V_nil _ _ _ _ _ | exact Kd.Q_nil _ _ _ _ _ | exact Kd.S_nil _ _ _ _ _, by repeat (first | (with_reducible first | exact HB.out | apply below_alloc | apply pw_below_drewN | apply below_drew1 | refine below_set ?_ GE587.out | refine below_set ?_ GE588.out) | exact HB.out)⟩

end Go.Proofs.Ytjknkeipginpcaa.PQ
end

section
/- (*impl.Treap).pairs, by hand. No conditions. -/
namespace Go.Proofs.Ytjknkeipginpcaa.Pr
set_option linter.unusedVariables false
set_option linter.unusedSimpArgs false
open Go.RowKit Go.Proofs.Ytjknkeipginpcaa.PQ Go.Proofs.YtjknkeipginpcaaW.PrintWords Go.Proofs.YtjknkeipginpcaaW.PrintLast Go.Proofs.YtjknkeipginpcaaW.PrintMore Go.Proofs.Ytjknkeipginpcaa.Pre Go.Proofs.Ytjknkeipginpcaa.Tr

abbrev Pa := S80
/-- The keys below a limb, rising, and the limb that stands next. -/
def prs (L : List Lb) : Nat → Int → Nat → Option (List Pa × Nat)
  | 0, k, nx => if k = -1 then some ([], nx) else none
  | f + 1, k, nx => if k = -1 then some ([], nx) else if k = (nx : Int) ∧ nx < L.length then (prs L f (rd_T71 L (nx : Int)).f2 (nx + 1)).bind fun a => (prs L f (rd_T71 L (nx : Int)).f3 a.2).bind fun b => some (a.1 ++ ⟨(rd_T71 L (nx : Int)).f0, (rd_T71 L (nx : Int)).f1⟩ :: b.1, b.2) else none
theorem prs_end (L : List Lb) (f nx : Nat) : prs L f (-1) nx = some ([], nx) := by
  cases f <;> simp [prs]
theorem prs_bad (L : List Lb) (f nx : Nat) (k : Int) (h1 : k ≠ -1) (h2 : ¬ (k = (nx : Int) ∧ nx < L.length)) : prs L f k nx = none := by
  cases f with
  | zero => simp [prs, h1]
  | succ f =>
    unfold prs
    rw [if_neg h1, if_neg h2]
theorem prs_len (L : List Lb) : ∀ (f : Nat) (k : Int) (nx : Nat) (ps : List Pa) (n2 : Nat), nx ≤ L.length → prs L f k nx = some (ps, n2) → ps.length + nx = n2 ∧ n2 ≤ L.length
  | 0, k, nx, ps, n2, hn, h => by
    unfold prs at h
    split at h
    · simp only [Option.some.injEq, Prod.mk.injEq] at h
      obtain ⟨rfl, rfl⟩ := h
      simp
      omega
    · cases h
  | f + 1, k, nx, ps, n2, hn, h => by
    unfold prs at h
    split at h
    · simp only [Option.some.injEq, Prod.mk.injEq] at h
      obtain ⟨rfl, rfl⟩ := h
      simp
      omega
    · split at h
      · rename_i hk
        obtain ⟨⟨a, n1⟩, h1, h⟩ := Option.bind_eq_some_iff.1 h
        obtain ⟨⟨b, n3⟩, h2, h⟩ := Option.bind_eq_some_iff.1 h
        simp only [Option.some.injEq, Prod.mk.injEq] at h
        obtain ⟨rfl, rfl⟩ := h
        have i1 := prs_len L f _ _ _ _ (by omega) h1
        have i2 := prs_len L f _ _ _ _ i1.2 h2
        simp
        omega
      · cases h

theorem cells3 {W : World} {b t : Nat} {u v y z : Value} (h : W.heap[b]? = some (.cells #[u, v, y, z] t (0, 0))) : W.cell? ⟨b, 0, none⟩ = some u ∧ W.cell? ⟨b, 1, none⟩ = some v ∧ W.cell? ⟨b, 3, none⟩ = some z :=
  ⟨(blk_cell h 0).trans rfl, (blk_cell h 1).trans rfl, (blk_cell h 3).trans rfl⟩
theorem xblk_drew {W : World} {b : Nat} {o : Obj} (h : W.heap[b]? = some o) : W.drew.heap[b]? = some o := h
theorem xblk_alloc {W : World} {b : Nat} {o : Obj} (h : W.heap[b]? = some o) (o2 : Obj) : (W.alloc o2).heap[b]? = some o := ((below_alloc (Below.refl W.heap.size W) o2).block b (blk_lt h)).trans h
theorem xblk_kept {W W2 : World} {b : Nat} {o : Obj} {S : Nat → Prop} (h : W.heap[b]? = some o) (hk : Kept W W2 S) (hn : ¬ S b) : W2.heap[b]? = some o := (hk.2 b (blk_lt h) hn).trans h
theorem xblk_grown {W W4 : World} {g t e base : Nat} {α : Type} {d : Kd α} {ok : Nat → Prop} {v : Value} {xs : List α} {cells : Array Value} (h : W.heap[g]? = some (.cells cells t (0, 0))) (ho : d.R e W base ok v xs) (hg : W.grownBy W4 v.ownBlock) (ht : e ≠ t) : W4.heap[g]? = some (.cells cells t (0, 0)) :=
  (hg.block g (blk_lt h) (Kd.R_ne ho h ht)).trans h
theorem HB05 {w0 w W3 W4 W5 : World} {nb lo tb : Nat} (h0 : Below w0.heap.size w0 w) (h3 : Below nb w W3) (h4 : Below nb W3 W4) (h5 : Below lo W4 W5) (hn : w0.heap.size ≤ tb ∧ tb < nb ∧ nb < lo ∧ lo ≤ w.heap.size) : Below w0.heap.size w0 W5 :=
  ((h0.trans (h3.mono (by omega))).trans (h4.mono (by omega))).trans (h5.mono (by omega))
theorem HT5 {w w0 W4 W5 : World} {nb lo tb : Nat} {o : Obj} (ht : W4.heap[tb]? = some o) (h5 : Below lo W4 W5) (hn : w0.heap.size ≤ tb ∧ tb < nb ∧ nb < lo ∧ lo ≤ w.heap.size) : W5.heap[tb]? = some o := (h5.block tb (by omega)).trans ht
theorem HT5n {w w0 W4 W5 : World} {nb lo tb : Nat} {o : Obj} (ht : W4.heap[nb]? = some o) (h5 : Below lo W4 W5) (hn : w0.heap.size ≤ tb ∧ tb < nb ∧ nb < lo ∧ lo ≤ w.heap.size) : W5.heap[nb]? = some o := (h5.block nb (by omega)).trans ht

/-- What a call tells. -/
def Tells (L : List Lb) (f : Nat) (kx : Int) (nx : Nat) (out out' : List Pa) (nx' : Nat) (ok : Bool) : Prop :=
  (prs L f kx nx = none ∧ ok = false) ∨ ∃ ps, prs L f kx nx = some (ps, nx') ∧ ok = true ∧ out' = out ++ ps

set_option maxRecDepth 100000 in
theorem stop (f : Nat) (kx : Int) (nx : Nat) (v : Value) (out : List Pa) (w0 w : World) (A : Option Addr) (c : Nat) (L : List Lb) (tb nb lo : Nat) (ht : w.heap[tb]? = some (.cells #[.slice A L.length c] 29 (0, 0))) (hn : w.heap[nb]? = some (.cells #[.int .i64 (nx : Int)] 3 (0, 0))) (hR : Kd.R k80 80 w lo (fun _ => True) v out) (hk : kx = -1 ∨ ¬ (kx = (nx : Int) ∧ nx < L.length)) :
    Calls Try.prog 75 #[.pointer (some ⟨tb, 0, none⟩), v, .int .i64 kx, .pointer (some ⟨nb, 0, none⟩)] w fun e w' => ∃ (v' : Value) (out' : List Pa) (nx' : Nat) (ok : Bool), e = .returned (.tuple #[v', .bool ok]) ∧ Tells L f kx nx out out' nx' ok ∧ Kd.R k80 80 w' lo (fun _ => True) v' out' ∧ w'.heap[nb]? = some (.cells #[.int .i64 (nx' : Int)] 3 (0, 0)) ∧ Kept w w' (fun k => k = nb ∨ some k = v.ownBlock) ∧ Below nb w w' ∧ (∀ k, v'.ownBlock = some k → some k = v.ownBlock ∨ w.heap.size ≤ k) := by
  have HR := Aside0.mk hR
  have HN := Aside0.mk hn
  by_cases h1 : kx = -1
  · subst h1
    clear hR hk ht hn
    go_enter Try.func75, Try.ntmps75
    go_wp2
    go_ret2
    exact ⟨v, out, nx, true, rfl, .inr ⟨[], prs_end L f nx, rfl, (List.append_nil _).symm⟩, HR.out, HN.out, Kept.refl _ _, Below.refl _ _, fun k hk => .inl hk.symm⟩
  · have hk2 : ¬ (kx = (nx : Int) ∧ nx < L.length) := hk.resolve_left h1
    have HT := Aside0.mk (prs_bad L f nx kx h1 hk2)
    have k1 : (kx == -1) = false := beq_eq_false_iff_ne.2 h1
    have c1 : w.cell? ⟨nb, 0, none⟩ = some (.int .i64 (nx : Int)) := (blk_cell hn 0).trans rfl
    have c2 : w.cell? ⟨tb, 0, none⟩ = some (.slice A L.length c) := (blk_cell ht 0).trans rfl
    clear hR hk ht hn
    by_cases h2 : kx = (nx : Int)
    · have h3 : ¬ nx < L.length := fun h => hk2 ⟨h2, h⟩
      have k2 : (kx != (nx : Int)) = false := by simp [h2]
      have k3 : decide ((L.length : Int) ≤ kx) = true := decide_eq_true (by omega)
      have k4 : (L.length : Int) ≤ kx := by omega
      have h1' : ¬ kx = -1 := h1
      clear hk2 h1 h3 h2
      go_enter Try.func75, Try.ntmps75
      go_wp2
      go_ret2
      exact ⟨_, [], nx, false, rfl, .inl ⟨HT.out, rfl⟩, Kd.R_nil _ _ _ _ _, HN.out, Kept.refl _ _, Below.refl _ _, fun k hk => by cases hk⟩
    · have k2 : (kx != (nx : Int)) = true := by simp [h2]
      have h1' : ¬ kx = -1 := h1
      clear hk2 h1
      go_enter Try.func75, Try.ntmps75
      go_wp2
      go_ret2
      exact ⟨_, [], nx, false, rfl, .inl ⟨HT.out, rfl⟩, Kd.R_nil _ _ _ _ _, HN.out, Kept.refl _ _, Below.refl _ _, fun k hk => by cases hk⟩

set_option maxHeartbeats 4000000 in
set_option maxRecDepth 100000 in
theorem calls : ∀ (f : Nat) (kx : Int) (nx : Nat) (v : Value) (out : List Pa) (w0 w : World) (A : Option Addr) (c : Nat) (L : List Lb) (tb nb lo : Nat), L.length ≤ nx + f → Kd.C k71 w0 A L.length L → L.length ≤ c → Below w0.heap.size w0 w → w0.heap.size ≤ tb → tb < nb → nb < lo → lo ≤ w.heap.size →
    w.heap[tb]? = some (.cells #[.slice A L.length c] 29 (0, 0)) → w.heap[nb]? = some (.cells #[.int .i64 (nx : Int)] 3 (0, 0)) → Kd.R k80 80 w lo (fun _ => True) v out → out.length + L.length ≤ 1048576 + nx → L.length ≤ 1048576 → nx ≤ L.length →
    Calls Try.prog 75 #[.pointer (some ⟨tb, 0, none⟩), v, .int .i64 kx, .pointer (some ⟨nb, 0, none⟩)] w fun e w' => ∃ (v' : Value) (out' : List Pa) (nx' : Nat) (ok : Bool), e = .returned (.tuple #[v', .bool ok]) ∧ Tells L f kx nx out out' nx' ok ∧ Kd.R k80 80 w' lo (fun _ => True) v' out' ∧ w'.heap[nb]? = some (.cells #[.int .i64 (nx' : Int)] 3 (0, 0)) ∧ Kept w w' (fun k => k = nb ∨ some k = v.ownBlock) ∧ Below nb w w' ∧ (∀ k, v'.ownBlock = some k → some k = v.ownBlock ∨ w.heap.size ≤ k) := by
  intro f
  induction f with
  | zero =>
    intro kx nx v out w0 w A c L tb nb lo hf hC hc1 hB0 h1 h2 h3 h4 ht hn hR hsz hLL hnx
    exact stop 0 kx nx v out w0 w A c L tb nb lo ht hn hR (.inr (fun h => by omega))
  | succ f ih =>
    intro kx nx v out w0 w A c L tb nb lo hf hC hc1 hB0 h1 h2 h3 h4 ht hn hR hsz hLL hnx
    by_cases hk : kx = (nx : Int) ∧ nx < L.length
    · obtain ⟨rfl, hlt⟩ := hk
      have HIH := Aside0.mk ih
      have HC := Aside0.mk hC
      have HC1 := Aside0.mk hc1
      have HB0 := Aside0.mk hB0
      have HN := Aside0.mk (⟨h1, h2, h3, h4⟩ : w0.heap.size ≤ tb ∧ tb < nb ∧ nb < lo ∧ lo ≤ w.heap.size)
      have HT := Aside0.mk ht
      have HNB := Aside0.mk hn
      have HR := Aside0.mk hR
      have HSZ := Aside0.mk (⟨hsz, hf, hnx, hlt⟩ : out.length + L.length ≤ 1048576 + nx ∧ L.length ≤ nx + (f + 1) ∧ nx ≤ L.length ∧ nx < L.length)
      have HLL := Aside0.mk hLL
      obtain ⟨W1, hW1⟩ : ∃ W1, W1 = w.setCell ⟨nb, 0, none⟩ (.int .i64 ((nx : Int) + 1)) := ⟨_, rfl⟩
      have HW1 := Aside0.mk hW1
      have c1 : w.cell? ⟨nb, 0, none⟩ = some (.int .i64 (nx : Int)) := (blk_cell hn 0).trans rfl
      have f1 : w.frozen? ⟨nb, 0, none⟩ = false := blk_frozen hn 0
      have c2 : w.cell? ⟨tb, 0, none⟩ = some (.slice A L.length c) := (blk_cell ht 0).trans rfl
      have HB1 := Aside0.mk (show Below nb w W1 by rw [hW1]; exact (Below.refl nb w).setCell (Nat.le_refl _) _)
      have HN1 := Aside0.mk (show W1.heap[nb]? = some (.cells #[.int .i64 ((nx + 1 : Nat) : Int)] 3 (0, 0)) by rw [hW1, show ((nx + 1 : Nat) : Int) = (nx : Int) + 1 by omega]; exact blk_put hn 0 _ rfl)
      have HT1 := Aside0.mk (show W1.heap[tb]? = some (.cells #[.slice A L.length c] 29 (0, 0)) from (HB1.out.block tb h2).trans ht)
      have hs1 : W1.heap.size = w.heap.size := by rw [hW1]; simp [World.setCell]
      have HS1 := Aside0.mk hs1
      have HK1 := Aside0.mk (show Kept w W1 (fun k => k = nb ∨ some k = v.ownBlock) by rw [hW1]; exact (Kept.refl _ _).setCell (.inl (.inl rfl)) _)
      have HR1 := Aside0.mk (show Kd.R k80 80 W1 lo (fun k => k < w.heap.size ∧ lo ≤ k) v out by rw [hW1]; exact Kd.R_mono (Kd.R_far (p := ⟨nb, 0, none⟩) (Kd.R_bound hR) (fun k hk => by have := hk.2.1; show k ≠ nb; omega) _) (fun k hk => ⟨hk.2.2.1, hk.2.1⟩))
      have hc3 : W1.cell? ⟨tb, 0, none⟩ = some (.slice A L.length c) := (blk_cell HT1.out 0).trans rfl
      obtain ⟨ad, eA, g0, g1, g2, g3⟩ := at_T71 hC (nx : Int) (by omega) (by omega)
      rw [Int.toNat_natCast] at g0 g1 g2 g3
      subst eA
      obtain ⟨x, hx⟩ : ∃ x, x = rd_T71 L (nx : Int) := ⟨_, rfl⟩
      rw [← hx] at g0 g1 g2 g3
      have HX := Aside0.mk hx
      have HBW1 := Aside0.mk (hB0.trans (HB1.out.mono (by omega)))
      have q0 := (HBW1.out.cell (World.block_lt_of_cell? w0 _ g0)).trans g0
      have q1 := (HBW1.out.cell (World.block_lt_of_cell? w0 _ g1)).trans g1
      have q2 := (HBW1.out.cell (World.block_lt_of_cell? w0 _ g2)).trans g2
      have q3 := (HBW1.out.cell (World.block_lt_of_cell? w0 _ g3)).trans g3
      have hlt2 : (nx : Int) < (L.length : Int) := by omega
      have hlb : (L.length : Int) ≤ 1048576 := by omega
      rw [hW1] at q0 q1 q2 q3 hc3
      clear ih hC hc1 hB0 h1 h2 h3 h4 ht hn hR hsz hf hnx hlt hLL hW1 hs1 hx g0 g1 g2 g3
      go_enter Try.func75, Try.ntmps75
      go_upto_region 6 with (fail)
      rw [← HW1.out] at q0 q1 q2 q3 hc3 ⊢
      go_upto_region 7 with ((with_reducible refine gate_dst (N := 10) rfl ?_); go_loud (refine box_event ?hg (N := 10) ?hd (cs := #[.string (⟨#[]⟩ : ByteArray), .string (⟨#[]⟩ : ByteArray), .int .i64 0, .int .i64 0]) (t := 71) ?hr ?_; (case hd => rfl); (case hg => rfl); (case hr => first | (go_simp; done) | (go_simp; rfl)); intro xb hxb W2 hbox hb; have HXB := Aside0.mk hbox; have HXG := Aside0.mk hxb; have HB2 := Aside0.mk hb; have hz0 : W2.cell? ⟨xb, 0, none⟩ = some (.string (⟨#[]⟩ : ByteArray)) := (blk_cell hbox 0).trans rfl; have hz1 : W2.cell? ⟨xb, 1, none⟩ = some (.string (⟨#[]⟩ : ByteArray)) := (blk_cell hbox 1).trans rfl; have hz2 : W2.cell? ⟨xb, 2, none⟩ = some (.int .i64 0) := (blk_cell hbox 2).trans rfl; have hz3 : W2.cell? ⟨xb, 3, none⟩ = some (.int .i64 0) := (blk_cell hbox 3).trans rfl; have hf0 := blk_frozen hbox 0; have hf1 := blk_frozen hbox 1; have hf2 := blk_frozen hbox 2; have hf3 := blk_frozen hbox 3; clear hbox hxb hb))
      obtain ⟨W3, hW3⟩ : ∃ W3, W3 = (((W2.setCell ⟨xb, 0, none⟩ (.string x.f0)).setCell ⟨xb, 1, none⟩ (.string x.f1)).setCell ⟨xb, 2, none⟩ (.int .i64 x.f2)).setCell ⟨xb, 3, none⟩ (.int .i64 x.f3) := ⟨_, rfl⟩
      rw [← hW3]
      have hX3 : W3.heap[xb]? = some (.cells #[.string x.f0, .string x.f1, .int .i64 x.f2, .int .i64 x.f3] 71 (0, 0)) := by
        rw [hW3]
        exact blk_put (blk_put (blk_put (blk_put HXB.out 0 _ rfl) 1 _ rfl) 2 _ rfl) 3 _ rfl
      have HX3 := Aside0.mk hX3
      have hB23 : Below W1.heap.size W1 W3 := by
        rw [hW3]
        have hle : W1.heap.size ≤ xb := by rw [HXG.out]; exact Nat.le_refl _
        exact (((HB2.out.setCell (p := ⟨xb, 0, none⟩) hle _).setCell (p := ⟨xb, 1, none⟩) hle _).setCell (p := ⟨xb, 2, none⟩) hle _).setCell (p := ⟨xb, 3, none⟩) hle _
      have HB23 := Aside0.mk hB23
      have HB3 := Aside0.mk (HB1.out.trans (hB23.mono (by have h1 := HN.out; have h2 := HS1.out; omega)))
      have HN3 := Aside0.mk ((hB23.block nb (by have h1 := HN.out; have h2 := HS1.out; omega)).trans HN1.out)
      have HT3 := Aside0.mk ((hB23.block tb (by have h1 := HN.out; have h2 := HS1.out; omega)).trans HT1.out)
      have HR3 := Aside0.mk (Kd.R_below HR1.out hB23)
      have HK3 := Aside0.mk (HK1.out.below hB23)
      have HL3 := Aside0.mk (show lo ≤ W3.heap.size from Nat.le_trans HN.out.2.2.2 (by rw [← HS1.out]; exact hB23.size))
      have q7 : W3.cell? ⟨xb, 2, none⟩ = some (.int .i64 x.f2) := (blk_cell hX3 2).trans rfl
      have HH := Aside0.mk (HIH.out x.f2 (nx + 1) v out w0 W3 (some ad) c L tb nb lo (by have := HSZ.out; omega) HC.out HC1.out (HBW1.out.trans (hB23.mono (by have h1 := HN.out; have h2 := HS1.out; omega))) HN.out.1 HN.out.2.1 HN.out.2.2.1 HL3.out HT3.out HN3.out (Kd.R_mono HR3.out (fun _ _ => trivial)) (by have := HSZ.out; omega) HLL.out (by have := HSZ.out; omega))
      clear hW3 hX3 hB23 q0 q1 q2 q3 hc3 c1 c2 f1 hz0 hz1 hz2 hz3 hf0 hf1 hf2 hf3
      go_upto_region 8 with (go_at_call 75; go_loud ((with_reducible refine HH.out.mono ?_); rintro e W4 ⟨v4, out4, nx4, ok4, rfl, hp4, ho4, hn4, hk4, hb4, hv4⟩; have HP4 := Aside0.mk hp4; have HO4 := Aside0.mk ho4; have HNB4 := Aside0.mk hn4; have HK4 := Aside0.mk hk4; have HB4 := Aside0.mk hb4; have HV4 := Aside0.mk hv4; clear hp4 ho4 hn4 hk4 hb4 hv4))
      have hxbw : w.heap.size ≤ xb := by rw [HXG.out, HS1.out]; exact Nat.le_refl _
      have HXN := Aside0.mk (show ¬ xb = nb from fun h => by have := HN.out; omega)
      have hvb : ∀ k, v.ownBlock = some k → k < w.heap.size := fun k hk => (HR1.out.1 k hk).1
      have HVB := Aside0.mk hvb
      have HX4 := Aside0.mk (xblk_kept HX3.out HK4.out (fun h => h.elim HXN.out (fun h => by have := hvb xb h.symm; omega)))
      have HT4 := Aside0.mk ((HB4.out.block tb HN.out.2.1).trans HT3.out)
      have HLo4 := Aside0.mk (Nat.le_trans HL3.out HB4.out.size)
      have HK04 := Aside0.mk (HK3.out.then_ HK4.out (fun k hk => .inl hk))
      have HB04 := Aside0.mk (HB3.out.trans HB4.out)
      have hv4 : ∀ k, v4.ownBlock = some k → some k = v.ownBlock ∨ w.heap.size ≤ k := fun k hk => (HV4.out k hk).imp id (fun h => Nat.le_trans (by rw [← HS1.out]; exact HB23.out.size) h)
      have HV04 := Aside0.mk hv4
      clear hv4 hvb hxbw
      rcases HP4.out with ⟨hp, hok⟩ | ⟨ps, hp, hok, hout⟩
      · subst hok
        have HPP := Aside0.mk hp
        clear hp
        go_wp2
        go_ret2
        refine ⟨_, [], nx4, false, rfl, .inl ⟨?_, rfl⟩, Kd.R_nil _ _ _ _ _, HNB4.out, HK04.out, HB04.out, fun k hk => by cases hk⟩
        unfold prs
        rw [if_neg (by omega), if_pos ⟨rfl, HSZ.out.2.2.2⟩, ← HX.out, HPP.out]
        rfl
      · subst hok
        have HPP := Aside0.mk hp
        have hpl := prs_len L f _ _ _ _ (by have := HSZ.out; omega) hp
        have HSZ4 := Aside0.mk (show out4.length + 1 + L.length ≤ 1048576 + nx4 by rw [hout, List.length_append]; have := HSZ.out; omega)
        have HNX4 := Aside0.mk (show nx4 ≤ L.length ∧ L.length ≤ nx4 + f by have := HSZ.out; omega)
        have HOUT := Aside0.mk hout
        clear hp hpl hout
        go_upto_region 10 with (fail)
        refine start_ (n := 17) (S := fun w' => w'.cell? ⟨xb, 0, none⟩ = some (.string x.f0) ∧ w'.cell? ⟨xb, 1, none⟩ = some (.string x.f1) ∧ w'.cell? ⟨xb, 3, none⟩ = some (.int .i64 x.f3)) (ds := []) #[false, false, false, false, false, false, false, false, false, false, false, false, false, false, false, false, false] (by kernel_rfl) rfl rfl ⟨(cells3 (xblk_drew HX4.out)).1, (cells3 (xblk_drew HX4.out)).2.1, (cells3 (xblk_drew HX4.out)).2.2⟩ (fun hHeld => ?_)
        refine pure_ (i := 0) (N := some 52) (v := ?_) (a' := ?_) #[true, false, false, false, false, false, false, false, false, false, false, false, false, false, false, false, false] rfl rfl (by kernel_rfl) (fun _ _ _ h => h) (Or.inl ⟨by rfl, ?_⟩) ?_ ?_
        rotate_left
        · intro w'
          go_simp
          with_reducible rfl
        rotate_left
        · simp only [Act.put, List.setIfInBounds_toArray, List.set_cons_zero, List.set_cons_succ, i64_w, i32_w]
          rfl
        refine pure_ (i := 1) (N := some 53) (v := ?_) (a' := ?_) #[true, true, false, false, false, false, false, false, false, false, false, false, false, false, false, false, false] rfl rfl (by kernel_rfl) (fun _ _ _ h => h) (Or.inl ⟨by rfl, ?_⟩) ?_ ?_
        rotate_left
        · intro w'
          go_simp
          with_reducible rfl
        rotate_left
        · simp only [Act.put, List.setIfInBounds_toArray, List.set_cons_zero, List.set_cons_succ, i64_w, i32_w]
          rfl
        refine pure_ (i := 2) (N := some 54) (v := ?_) (a' := ?_) #[true, true, true, false, false, false, false, false, false, false, false, false, false, false, false, false, false] rfl rfl (by kernel_rfl) (fun _ _ _ h => h) (Or.inl ⟨by rfl, ?_⟩) ?_ ?_
        rotate_left
        · intro w'
          go_simp
          with_reducible rfl
        rotate_left
        · simp only [Act.put, List.setIfInBounds_toArray, List.set_cons_zero, List.set_cons_succ, i64_w, i32_w]
          rfl
        refine pure_ (i := 4) (N := some 56) (v := ?_) (a' := ?_) #[true, true, true, false, true, false, false, false, false, false, false, false, false, false, false, false, false] rfl rfl (by kernel_rfl) (fun _ _ _ h => h) (Or.inl ⟨by rfl, ?_⟩) ?_ ?_
        rotate_left
        · intro w'
          go_simp
          with_reducible rfl
        rotate_left
        · simp only [Act.put, List.setIfInBounds_toArray, List.set_cons_zero, List.set_cons_succ, i64_w, i32_w]
          rfl
        refine pure_ (i := 9) (N := some 61) (v := ?_) (a' := ?_) #[true, true, true, false, true, false, false, false, false, true, false, false, false, false, false, false, false] rfl rfl (by kernel_rfl) (fun _ _ _ h => h) (Or.inl ⟨by rfl, ?_⟩) ?_ ?_
        rotate_left
        · intro w'
          go_simp
          with_reducible rfl
        rotate_left
        · simp only [Act.put, List.setIfInBounds_toArray, List.set_cons_zero, List.set_cons_succ, i64_w, i32_w]
          rfl
        refine pure_ (i := 11) (N := some 63) (v := ?_) (a' := ?_) #[true, true, true, false, true, false, false, false, false, true, false, true, false, false, false, false, false] rfl rfl (by kernel_rfl) (fun _ _ _ h => h) (Or.inl ⟨by rfl, ?_⟩) ?_ ?_
        rotate_left
        · intro w'
          go_simp
          with_reducible rfl
        rotate_left
        · simp only [Act.put, List.setIfInBounds_toArray, List.set_cons_zero, List.set_cons_succ, i64_w, i32_w]
          rfl
        refine take_ (i := 3) (N := some 55) (v := ?_) (a' := ?_) #[true, true, true, true, true, false, false, false, false, true, false, true, false, false, false, false, false] rfl rfl (by kernel_rfl) (fun _ _ _ h => h) (Or.inl ⟨by rfl, ?_⟩) hHeld ?_ ?_
        rotate_left
        · rintro w' ⟨s0, s1, s2⟩
          go_simp
          with_reducible rfl
        rotate_left
        · simp only [Act.put, List.setIfInBounds_toArray, List.set_cons_zero, List.set_cons_succ, i64_w, i32_w]
          rfl
        refine take_ (i := 5) (N := some 57) (v := ?_) (a' := ?_) #[true, true, true, true, true, true, false, false, false, true, false, true, false, false, false, false, false] rfl rfl (by kernel_rfl) (fun _ _ _ h => h) (Or.inl ⟨by rfl, ?_⟩) hHeld ?_ ?_
        rotate_left
        · rintro w' ⟨s0, s1, s2⟩
          go_simp
          with_reducible rfl
        rotate_left
        · simp only [Act.put, List.setIfInBounds_toArray, List.set_cons_zero, List.set_cons_succ, i64_w, i32_w]
          rfl
        refine pure_ (i := 6) (N := some 58) (v := ?_) (a' := ?_) #[true, true, true, true, true, true, true, false, false, true, false, true, false, false, false, false, false] rfl rfl (by kernel_rfl) (fun _ _ _ h => h) (Or.inl ⟨by rfl, ?_⟩) ?_ ?_
        rotate_left
        · intro w'
          go_simp
          with_reducible rfl
        rotate_left
        · simp only [Act.put, List.setIfInBounds_toArray, List.set_cons_zero, List.set_cons_succ, i64_w, i32_w]
          rfl
        refine take_ (i := 10) (N := some 62) (v := ?_) (a' := ?_) #[true, true, true, true, true, true, true, false, false, true, true, true, false, false, false, false, false] rfl rfl (by kernel_rfl) (fun _ _ _ h => h) (Or.inl ⟨by rfl, ?_⟩) hHeld ?_ ?_
        rotate_left
        · rintro w' ⟨s0, s1, s2⟩
          go_simp
          with_reducible rfl
        rotate_left
        · simp only [Act.put, List.setIfInBounds_toArray, List.set_cons_zero, List.set_cons_succ, i64_w, i32_w]
          rfl
        refine one_ (i := 7) (N := some 59) #[true, true, true, true, true, true, true, true, false, true, true, true, false, false, false, false, false] rfl rfl (by kernel_rfl) (by decide) (fun K hK => ?_)
        refine value_ (w1 := ?_) (v := ?_) (by rfl) rfl ?_ ?_
        rotate_left 2
        · go_simp
          constructor
          · rfl
          · rfl
        refine hK.out _ _ ⟨(cells3 (xblk_alloc (xblk_drew HX4.out) _)).1, (cells3 (xblk_alloc (xblk_drew HX4.out) _)).2.1, (cells3 (xblk_alloc (xblk_drew HX4.out) _)).2.2⟩ (fun hHeld => ?_)
        clear hK K
        refine norm_ (a' := ?_) ?_ ?_
        rotate_left
        · show Act.put _ (some 59) _ = _
          simp only [Act.put, List.setIfInBounds_toArray, List.set_cons_zero, List.set_cons_succ, i64_w, i32_w]
          rfl
        refine one_ (i := 8) (N := some 60) #[true, true, true, true, true, true, true, true, true, true, true, true, false, false, false, false, false] rfl rfl (by kernel_rfl) (by decide) (fun K hK => ?_)
        refine Kd.R_append_step k80 (w0 := W4) lo (by rfl) (.tmp 53) (.tmp 59) 66 80 (.agg #[(.string ⟨#[]⟩), (.string ⟨#[]⟩)]) 32 rfl Try.underlying66 info80 rfl (by decide) (by omega) v4 out4 (⟨x.f0, x.f1⟩ : S80) _ (fun _ => True) (fun _ => False) rfl rfl (k80_mkM _ _ _ _) (fun _ h => h.elim) (fun _ _ => trivial) (Kd.R_drew HO4.out) (Below.refl lo W4).drew HLo4.out (by have := HSZ4.out; have := HNX4.out; have := HLL.out; omega) ?_
        intro v5 W5 ho1 hb1 hg1 hat1
        have HO5 := Aside0.mk ho1
        have HB5 := Aside0.mk hb1
        have HG5 := Aside0.mk hg1
        have HV5 := Aside0.mk hat1
        have HX5 := Aside0.mk (xblk_grown (xblk_drew HX4.out) (Kd.R_drew HO4.out) hg1 (by decide))
        clear hat1 hg1 ho1 hb1
        refine hK.out _ _ ⟨(cells3 HX5.out).1, (cells3 HX5.out).2.1, (cells3 HX5.out).2.2⟩ (fun hHeld => ?_)
        clear hK K
        refine norm_ (a' := ?_) ?_ ?_
        rotate_left
        · show Act.put _ (some 60) _ = _
          simp only [Act.put, List.setIfInBounds_toArray, List.set_cons_zero, List.set_cons_succ, i64_w, i32_w]
          rfl
        refine one_ (i := 12) (N := some 64) #[true, true, true, true, true, true, true, true, true, true, true, true, true, false, false, false, false] rfl rfl (by kernel_rfl) (by decide) (fun K hK => ?_)
        refine goes_ Try.func75 (by kernel_rfl) rfl #[.pointer (some ⟨tb, 0, none⟩), v5, .int .i64 x.f3, .pointer (some ⟨nb, 0, none⟩)] (by rfl) rfl rfl (by simp only [List.map_toArray, List.map_cons, List.map_nil]; rfl) ?_
        with_reducible refine ((HIH.out _ _ _ _ w0 W5 (some ad) c L tb nb lo (by have := HNX4.out; omega) HC.out HC1.out (HB05 HB0.out HB3.out HB4.out HB5.out HN.out) HN.out.1 HN.out.2.1 HN.out.2.2.1 (Nat.le_trans HLo4.out (HB5.out.size)) (HT5 HT4.out HB5.out HN.out) (HT5n HNB4.out HB5.out HN.out) HO5.out (by have := HSZ4.out; rw [List.length_append]; simp; omega) HLL.out (by have := HNX4.out; omega))).mono ?_
        rintro e W6 ⟨v6, out6, nx6, ok6, rfl, hp6, ho6, hn6, hk6, hb6, hv6⟩
        refine ⟨_, rfl, ?_⟩
        have HP6 := Aside0.mk hp6
        have HO6 := Aside0.mk ho6
        have HN6 := Aside0.mk hn6
        have HK6 := Aside0.mk hk6
        have HB6 := Aside0.mk hb6
        have HV6 := Aside0.mk hv6
        have HX6 := Aside0.mk (xblk_kept HX5.out hk6 (fun h => h.elim (fun h => HXN.out h) (fun h => Kd.R_ne HO5.out HX5.out (by decide) h)))
        clear hp6 ho6 hn6 hk6 hb6 hv6
        refine hK.out _ _ ⟨(cells3 HX6.out).1, (cells3 HX6.out).2.1, (cells3 HX6.out).2.2⟩ (fun hHeld => ?_)
        clear hK K
        refine norm_ (a' := ?_) ?_ ?_
        rotate_left
        · show Act.put _ (some 64) _ = _
          simp only [Act.put, List.setIfInBounds_toArray, List.set_cons_zero, List.set_cons_succ, i64_w, i32_w]
          rfl
        refine pure_ (i := 13) (N := some 65) (v := ?_) (a' := ?_) #[true, true, true, true, true, true, true, true, true, true, true, true, true, true, false, false, false] rfl rfl (by kernel_rfl) (fun _ _ _ h => h) (Or.inl ⟨by rfl, ?_⟩) ?_ ?_
        rotate_left
        · intro w'
          go_simp
          with_reducible rfl
        rotate_left
        · simp only [Act.put, List.setIfInBounds_toArray, List.set_cons_zero, List.set_cons_succ, i64_w, i32_w]
          rfl
        refine pure_ (i := 14) (N := some 66) (v := ?_) (a' := ?_) #[true, true, true, true, true, true, true, true, true, true, true, true, true, true, true, false, false] rfl rfl (by kernel_rfl) (fun _ _ _ h => h) (Or.inl ⟨by rfl, ?_⟩) ?_ ?_
        rotate_left
        · intro w'
          go_simp
          with_reducible rfl
        rotate_left
        · simp only [Act.put, List.setIfInBounds_toArray, List.set_cons_zero, List.set_cons_succ, i64_w, i32_w]
          rfl
        refine pure_ (i := 15) (N := some 8) (v := ?_) (a' := ?_) #[true, true, true, true, true, true, true, true, true, true, true, true, true, true, true, true, false] rfl rfl (by kernel_rfl) (fun _ _ _ h => h) (Or.inl ⟨by rfl, ?_⟩) ?_ ?_
        rotate_left
        · intro w'
          go_simp
          with_reducible rfl
        rotate_left
        · simp only [Act.put, List.setIfInBounds_toArray, List.set_cons_zero, List.set_cons_succ, i64_w, i32_w]
          rfl
        refine pure_ (i := 16) (N := some 9) (v := ?_) (a' := ?_) #[true, true, true, true, true, true, true, true, true, true, true, true, true, true, true, true, true] rfl rfl (by kernel_rfl) (fun _ _ _ h => h) (Or.inl ⟨by rfl, ?_⟩) ?_ ?_
        rotate_left
        · intro w'
          go_simp
          with_reducible rfl
        rotate_left
        · simp only [Act.put, List.setIfInBounds_toArray, List.set_cons_zero, List.set_cons_succ, i64_w, i32_w]
          rfl
        refine done_ (by kernel_rfl) ?_
        go_wp2
        go_ret2
        have hsz4 : w.heap.size ≤ W4.heap.size := Nat.le_trans (by rw [← HS1.out]; exact HB23.out.size) HB4.out.size
        have hv5 : ∀ k, v5.ownBlock = some k → some k = v.ownBlock ∨ w.heap.size ≤ k := by
          intro k hk
          rcases HV5.out with h | ⟨b, h1, h2⟩
          · exact HV04.out k (by rw [← h]; exact hk)
          · rw [h1] at hk
            injection hk with hk
            have h3 : W4.heap.size ≤ b := h2
            exact .inr (by omega)
        have hk5 : Kept w W5 (fun k => k = nb ∨ some k = v.ownBlock) := Kept.of_grown HG5.out (Kept.drew HK04.out) (fun k hk => (HV04.out k hk).imp .inr id)
        refine ⟨v6, out6, nx6, ok6, rfl, ?_, HO6.out, HN6.out, hk5.then_ HK6.out (fun k hk => hk.elim (fun h => .inl (.inl h)) (fun h => (hv5 k h.symm).imp .inr id)), (HB04.out.trans (HB5.out.mono (by have := HN.out; omega))).trans HB6.out, fun k hk => ?_⟩
        · have e : prs L (f + 1) (nx : Int) nx = (prs L f x.f3 nx4).bind fun b => some (ps ++ ⟨x.f0, x.f1⟩ :: b.1, b.2) := by
            conv => lhs; unfold prs
            rw [if_neg (by omega), if_pos ⟨rfl, HSZ.out.2.2.2⟩, ← HX.out, HPP.out]
            rfl
          rcases HP6.out with ⟨h1, h2⟩ | ⟨p6, h1, h2, h3⟩
          · exact .inl ⟨by rw [e, h1]; rfl, h2⟩
          · refine .inr ⟨ps ++ ⟨x.f0, x.f1⟩ :: p6, by rw [e, h1]; rfl, h2, ?_⟩
            rw [h3, HOUT.out]
            simp
        · rcases HV6.out k hk with h | h
          · exact hv5 k h.symm
          · have := HB5.out.size
            exact .inr (by omega)
    · exact stop (f + 1) kx nx v out w0 w A c L tb nb lo ht hn hR (.inr hk)
end Go.Proofs.Ytjknkeipginpcaa.Pr
end

section
/- impl.pairsOf, by hand. No conditions. -/
namespace Go.Proofs.Ytjknkeipginpcaa.Po
attribute [local go_sem] Instr.field asAgg Go.Proofs.Ytjknkeipginpcaa.StrO.leq_s Go.Proofs.Ytjknkeipginpcaa.StrO.gtr_s Go.Proofs.Ytjknkeipginpcaa.StrO.geq_s
set_option linter.unusedVariables false
set_option linter.unusedSimpArgs false
open Go.RowKit Go.Proofs.Ytjknkeipginpcaa.PQ Go.Proofs.YtjknkeipginpcaaW.PrintWords Go.Proofs.YtjknkeipginpcaaW.PrintLast Go.Proofs.YtjknkeipginpcaaW.PrintMore Go.Proofs.Ytjknkeipginpcaa.Pre Go.Proofs.Ytjknkeipginpcaa.Tr Go.Proofs.Ytjknkeipginpcaa.Pr

/-- A key at its place is as it should be. -/
def okAt (ps : List Pa) (i : Nat) : Bool := decide (1 ≤ (rd_T80 ps (i : Int)).f0.size ∧ (rd_T80 ps (i : Int)).f0.size ≤ 40 ∧ (rd_T80 ps (i : Int)).f1.size ≤ 60) && (decide (i = 0) || Op.bytesLess (rd_T80 ps ((i - 1 : Nat) : Int)).f0.toList (rd_T80 ps (i : Int)).f0.toList)
def okP (ps : List Pa) : Bool := (List.range ps.length).all (okAt ps)
theorem okAt_eq (ps : List Pa) (i : Nat) (x : Pa) (hx : x = rd_T80 ps (i : Int)) : okAt ps i = ((decide (1 ≤ x.f0.size ∧ x.f0.size ≤ 40) && decide (x.f1.size ≤ 60)) && (decide (i = 0) || Op.bytesLess (rd_T80 ps ((i - 1 : Nat) : Int)).f0.toList x.f0.toList)) := by
  unfold okAt
  rw [← hx]
  congr 1
  rw [← Bool.decide_and]
  refine decide_eq_decide.2 ?_
  omega
theorem ok_size (ps : List Pa) (i : Nat) (h : okAt ps i = true) : (rd_T80 ps (i : Int)).f0.size ≤ 1048576 := by
  unfold okAt at h
  rw [Bool.and_eq_true] at h
  have := of_decide_eq_true h.1
  omega
def tup (x : Lb) : List UInt8 × List UInt8 × Int × Int := (x.f0.toList, x.f1.toList, x.f2, x.f3)
/-- Both rows of limbs are alike. -/
def eqb (a b : List Lb) : Bool := decide (a.map tup = b.map tup)
theorem rdL (l : List Lb) (i : Nat) (h : i < l.length) : rd_T71 l (i : Int) = l[i] := by
  unfold rd_T71
  simp [h]
theorem limb_ne (x y : Lb) : (!(x.f0.toList == y.f0.toList) || (!(x.f1.toList == y.f1.toList) || (!(x.f2 == y.f2) || (!(x.f3 == y.f3))))) = !decide (tup x = tup y) := by
  unfold tup
  by_cases h0 : x.f0.toList = y.f0.toList <;> by_cases h1 : x.f1.toList = y.f1.toList <;> by_cases h2 : x.f2 = y.f2 <;> by_cases h3 : x.f3 = y.f3 <;> simp [h0, h1, h2, h3]
theorem Limb_ev (a b : List Lb) (ha : a.length ≤ 1048576) : Evt (fun k => impl_Limb.f k a b) (eqb a b) := by
  unfold impl_Limb.f eqb
  by_cases hl : a.length = b.length
  · refine Evt.pos (by omega) ?_
    have key : ∀ (m i : Nat), i + m = a.length → Evt (fun k => impl_Limb.l0 k a b (a.length : Int) (i : Int)) (decide ((a.drop i).map tup = (b.drop i).map tup)) := by
      intro m
      induction m with
      | zero =>
        intro i hi
        refine (Evt.step (fun k => impl_Limb.l0.eq_2 _ _ _ _ k) (Evt.neg (by omega) (Evt.const _))).eq ?_
        rw [List.drop_eq_nil_of_le (by omega), List.drop_eq_nil_of_le (by omega)]
        rfl
      | succ m ih =>
        intro i hi
        have hr := ih (i + 1) (by omega)
        have h1 : i < a.length := by omega
        have h2 : i < b.length := by omega
        have e : ((a.drop i).map tup = (b.drop i).map tup) ↔ (tup a[i] = tup b[i] ∧ (a.drop (i + 1)).map tup = (b.drop (i + 1)).map tup) := by
          rw [List.drop_eq_getElem_cons h1, List.drop_eq_getElem_cons h2, List.map_cons, List.map_cons, List.cons.injEq]
        refine Evt.step (fun k => impl_Limb.l0.eq_2 _ _ _ _ k) (Evt.pos (by omega) (Evt.pos (by omega) (Evt.pos (by omega) (Evt.pos (by omega) ?_))))
        rw [rdL a i h1, rdL b i h2, limb_ne]
        by_cases ht : tup a[i] = tup b[i]
        · refine Evt.neg (by simp [ht]) ?_
          rw [w64 (n := (i : Int) + 1) (by omega) (by omega), show (i : Int) + 1 = ((i + 1 : Nat) : Int) by omega]
          refine hr.eq (decide_eq_decide.2 ?_)
          rw [e]
          exact ⟨fun h => ⟨ht, h⟩, fun h => h.2⟩
        · refine Evt.pos (by simp [ht]) ((Evt.const _).eq ?_)
          symm
          exact decide_eq_false (fun h => ht (e.1 h).1)
    exact key a.length 0 (by omega)
  · refine Evt.neg (by omega) ((Evt.const _).eq ?_)
    symm
    exact decide_eq_false (fun h => hl (by have := congrArg List.length h; simpa using this))
/-- What pairsOf answers. -/
def ansP (L : List Lb) : List Pa × Bool := if L.length = 0 then ([], true) else if L.length > 60 then ([], false) else
  match prs L L.length 0 0 with
  | none => ([], false)
  | some (ps, n2) => if n2 = L.length then (if okP ps = true then (ps, eqb (enc ps.length 0 (ps.map BuI.kv)) L) else ([], false)) else ([], false)
theorem bad_of (ps : List Pa) (i : Nat) (hi : i < ps.length) (h : okAt ps i = false) (L : List Lb) (he : ansP L = if okP ps = true then (ps, eqb (enc ps.length 0 (ps.map BuI.kv)) L) else ([], false)) : ansP L = ([], false) := by
  rw [he, if_neg]
  intro hc
  unfold okP at hc
  have := List.all_eq_true.1 hc i (List.mem_range.2 hi)
  rw [h] at this
  cases this
theorem go_on (ps : List Pa) (i : Nat) (h : ∀ j, j < i → okAt ps j = true) (h2 : okAt ps i = true) : ∀ j, j < i + 1 → okAt ps j = true := by
  intro j hj
  rcases Nat.lt_or_ge j i with h3 | h3
  · exact h j h3
  · obtain rfl : j = i := by omega
    exact h2
theorem good_of (ps : List Pa) (h : ∀ i, i < ps.length → okAt ps i = true) (L : List Lb) (he : ansP L = if okP ps = true then (ps, eqb (enc ps.length 0 (ps.map BuI.kv)) L) else ([], false)) : ansP L = (ps, eqb (enc ps.length 0 (ps.map BuI.kv)) L) := by
  rw [he, if_pos]
  unfold okP
  exact List.all_eq_true.2 fun i hi => h i (List.mem_range.1 hi)
theorem below_drewB {w W : World} (h : Below w.drew.heap.size w.drew W) : Below w.heap.size w W := (Below.refl w.heap.size w).drew.trans h
theorem tko (s : ByteArray) (w : World) : Calls Try.prog 70 #[.string s] w fun e w' => e = .returned (.bool (decide (1 ≤ s.size ∧ s.size ≤ 40))) ∧ ∃ m, w' = w.drewN m := by
  have h : impl_treapKeyOK.f s = some (decide (1 ≤ s.size ∧ s.size ≤ 40)) := by
    unfold impl_treapKeyOK.f impl_within.f
    by_cases h1 : (s.size : Int) ≥ 1
    · rw [if_pos h1]
      refine congrArg some (decide_eq_decide.2 ?_)
      omega
    · rw [if_neg h1]
      refine congrArg some ?_
      symm
      exact decide_eq_false (by omega)
  refine (impl_treapKeyOK.calls s _ w h).mono ?_
  rintro e w' ⟨rfl, ⟨nd, rfl⟩⟩
  exact ⟨rfl, nd, rfl⟩
theorem Kd.reads1 {α : Type} {d : Kd α} {e base : Nat} {ok : Nat → Prop} {w : World} {A : Option Addr} {n c : Nat} {xs : List α} (h : d.R e w base ok (.slice A n c) xs) : d.C w A xs.length xs := by
  obtain ⟨A', c', e', _, h2⟩ := Kd.R_reads h
  injection e' with e1 _ _
  rw [e1]
  exact h2
theorem Kd.reads2 {α : Type} {d : Kd α} {e base : Nat} {ok : Nat → Prop} {w : World} {A : Option Addr} {n c : Nat} {xs : List α} (h : d.R e w base ok (.slice A n c) xs) : xs.length ≤ c := by
  obtain ⟨A', c', e', h1, _⟩ := Kd.R_reads h
  injection e' with _ _ e3
  rw [e3]
  exact h1

set_option maxHeartbeats 4000000 in
set_option maxRecDepth 100000 in
theorem calls (L : List Lb) (A : Option Addr) (c : Nat) (w : World) (hC : Kd.C k71 w A L.length L) (hc1 : L.length ≤ c) (hLL : L.length ≤ 1048576) :
    Calls Try.prog 49 #[.agg #[.slice A L.length c]] w fun e w' => ∃ v0_ : Value, e = .returned (.tuple #[v0_, .bool (ansP L).2]) ∧ Kd.R k80 80 w' w.heap.size (fun _ => True) v0_ (ansP L).1 ∧ Below w.heap.size w w' := by
  have HB := Aside0.mk (Below.refl w.heap.size w)
  have HC := Aside0.mk hC
  have HC1 := Aside0.mk hc1
  obtain ⟨wA, hwA⟩ : ∃ wA, wA = w.alloc (.cells #[.slice A L.length c] 29) := ⟨_, rfl⟩
  have HWA := Aside0.mk hwA
  have HTA := Aside0.mk (show wA.heap[w.heap.size]? = some (.cells #[.slice A L.length c] 29 (0, 0)) by rw [hwA]; exact at_new _ _)
  have HBA := Aside0.mk (show Below w.heap.size w wA by rw [hwA]; exact below_alloc (Below.refl _ _) _)
  have HSA := Aside0.mk (show wA.heap.size = w.heap.size + 1 by rw [hwA]; exact new_size _ _)
  have ct : (w.alloc (.cells #[.slice A L.length c] 29)).cell? ⟨w.heap.size, 0, none⟩ = some (.slice A L.length c) := by rw [← hwA]; exact (blk_cell HTA.out 0).trans rfl
  have hlb : (L.length : Int) ≤ 1048576 := by omega
  by_cases h0 : L.length = 0
  · have ea : ansP L = ([], true) := by unfold ansP; rw [if_pos h0]
    rw [ea]
    have z0 : (L.length : Int) = 0 := by omega
    clear hC hc1 hLL hwA h0 ea
    go_enter Try.func49, Try.ntmps49
    go_wp2
    go_ret2
    exact ⟨_, rfl, Kd.R_nil _ _ _ _ _, by rw [← HWA.out]; exact HBA.out⟩
  · by_cases h60 : L.length > 60
    · have ea : ansP L = ([], false) := by unfold ansP; rw [if_neg h0, if_pos h60]
      rw [ea]
      have z0 : ¬ (L.length : Int) = 0 := by omega
      have z1 : (60 : Int) < (L.length : Int) := by omega
      clear hC hc1 hLL hwA h0 ea h60
      go_enter Try.func49, Try.ntmps49
      go_wp2
      go_ret2
      exact ⟨_, rfl, Kd.R_nil _ _ _ _ _, by rw [← HWA.out]; exact HBA.out⟩
    · have z0 : ¬ (L.length : Int) = 0 := by omega
      have z1 : ¬ (60 : Int) < (L.length : Int) := by omega
      have HL := Aside0.mk (⟨h0, h60⟩ : ¬ L.length = 0 ∧ ¬ L.length > 60)
      obtain ⟨W5, hW5⟩ : ∃ W5, W5 = wA.alloc (.cells #[.int .i64 0] 3) := ⟨_, rfl⟩
      have HW5 := Aside0.mk hW5
      have HN5 := Aside0.mk (show W5.heap[w.heap.size + 1]? = some (.cells #[.int .i64 ((0 : Nat) : Int)] 3 (0, 0)) by rw [hW5, ← HSA.out]; exact at_new _ _)
      have HB5 := Aside0.mk (show Below (w.heap.size + 1) wA W5 by rw [hW5, ← HSA.out]; exact below_alloc (Below.refl _ _) _)
      have HT5 := Aside0.mk (show W5.heap[w.heap.size]? = some (.cells #[.slice A L.length c] 29 (0, 0)) from (HB5.out.block w.heap.size (by have := HSA.out; omega)).trans HTA.out)
      have HS5 := Aside0.mk (show W5.heap.size = w.heap.size + 2 by rw [hW5]; have := new_size wA (.cells #[.int .i64 0] 3); have := HSA.out; omega)
      have cn : (wA.alloc (.cells #[.int .i64 0] 3)).cell? ⟨w.heap.size + 1, 0, none⟩ = some (.int .i64 0) := by rw [← hW5]; exact (blk_cell HN5.out 0).trans rfl
      have fn : (wA.alloc (.cells #[.int .i64 0] 3)).frozen? ⟨w.heap.size + 1, 0, none⟩ = false := by rw [← hW5]; exact blk_frozen HN5.out 0
      have ct5 : W5.cell? ⟨w.heap.size, 0, none⟩ = some (.slice A L.length c) := (blk_cell HT5.out 0).trans rfl
      have HB05 := Aside0.mk (show Below w.heap.size w W5 from HBA.out.trans (HB5.out.mono (by omega)))
      have HP := Aside0.mk (Pr.calls L.length 0 0 (.slice none 0 0) [] w W5 A c L w.heap.size (w.heap.size + 1) W5.heap.size (by omega) hC hc1 HB05.out (Nat.le_refl _) (by have := HSA.out; omega) (by have := HSA.out; have := HS5.out; omega) (Nat.le_refl _) HT5.out HN5.out (Kd.R_nil _ _ _ _ _) (by simp; omega) hLL (Nat.zero_le _))
      clear hC hc1 hLL h0 h60 hW5
      go_enter Try.func49, Try.ntmps49
      go_upto_region 6 with (fail)
      try rw [← HWA.out]
      rw [← HW5.out]
      clear cn fn ct
      go_upto_region 7 with (go_at_call 75; go_loud ((with_reducible refine HP.out.mono ?_); rintro e W6 ⟨v6, out6, nx6, ok6, rfl, hp6, ho6, hn6, hk6, hb6, hv6⟩; have HP6 := Aside0.mk hp6; have HO6 := Aside0.mk ho6; have HN6 := Aside0.mk hn6; have HB6 := Aside0.mk hb6; clear hp6 ho6 hn6 hk6 hb6 hv6))
      have HBw6 := Aside0.mk (show Below w.heap.size w W6 from HB05.out.trans (HB6.out.mono (by have := HSA.out; omega)))
      have HT6 := Aside0.mk ((HB6.out.block w.heap.size (by have := HSA.out; omega)).trans HT5.out)
      have HL6 := Aside0.mk (show W5.heap.size ≤ W6.heap.size from HB6.out.size)
      have ct6 : W6.cell? ⟨w.heap.size, 0, none⟩ = some (.slice A L.length c) := (blk_cell HT6.out 0).trans rfl
      have cn6 : W6.cell? ⟨w.heap.size + 1, 0, none⟩ = some (.int .i64 (nx6 : Int)) := (blk_cell HN6.out 0).trans rfl
      clear ct5
      rcases HP6.out with ⟨hp, hok⟩ | ⟨ps, hp, hok, hout⟩
      · subst hok
        have ea : ansP L = ([], false) := by unfold ansP; rw [if_neg HL.out.1, if_neg HL.out.2, hp]
        have HEA := Aside0.mk ea
        clear ea hp
        go_wp2
        go_ret2
        exact ⟨_, by rw [HEA.out]; rfl, by rw [HEA.out]; exact Kd.R_nil _ _ _ _ _, HBw6.out⟩
      · subst hok
        by_cases hn : nx6 = L.length
        · have ea : ansP L = if okP ps = true then (ps, eqb (enc ps.length 0 (ps.map BuI.kv)) L) else ([], false) := by unfold ansP; rw [if_neg HL.out.1, if_neg HL.out.2, hp]; exact if_pos hn
          have HEA := Aside0.mk ea
          have hpl := prs_len L _ _ _ _ _ (by omega) hp
          have HPL := Aside0.mk (show ps.length ≤ 60 by have := HL.out.2; omega)
          rw [List.nil_append] at hout
          subst hout
          obtain ⟨A6, c6, e6⟩ := Kd.R_slice HO6.out
          subst e6
          have HC6 := Aside0.mk (Kd.reads1 HO6.out)
          have HC61 := Aside0.mk (Kd.reads2 HO6.out)
          have k1 : ((nx6 : Int) != (L.length : Int)) = false := by simp [hn]
          have hpb : (out6.length : Int) ≤ 1048576 := by have := HPL.out; omega
          clear ea hp hpl
          go_upto_region 9 with (fail)
          go_wp2
          go_loopg [32] out6.length (fun kq v32 w' => ∃ i : Nat, v32 = .int .i64 (i : Int) ∧ i ≤ out6.length ∧ kq = out6.length - i ∧ Aside0 (∀ j, j < i → okAt out6 j = true) ∧ Aside0 (Kd.R k80 80 w' W5.heap.size (fun _ => True) (.slice A6 out6.length c6) out6) ∧ Aside0 (w'.heap[w.heap.size]? = some (.cells #[.slice A L.length c] 29 (0, 0))) ∧ Aside0 (Below w.heap.size w w') ∧ Aside0 (W5.heap.size ≤ w'.heap.size))
          case atStart => exact ⟨0, rfl, Nat.zero_le _, rfl, ⟨fun j hj => by omega⟩, HO6, HT6, HBw6, HL6⟩
          case round =>
            clear ct6 cn6 k1
            obtain ⟨i, rfl, hi, hk, HGO, HR, HT, HBw, HLw⟩ := hrel
            by_cases hlt : i < out6.length
            · have HLT := Aside0.mk hlt
              have HC6 := Aside0.mk (Kd.reads1 HR.out)
              obtain ⟨x, hx⟩ : ∃ x, x = rd_T80 out6 (i : Int) := ⟨_, rfl⟩
              obtain ⟨ad, e, g0, g1⟩ := at_T80 HC6.out (i : Int) (by omega) (by omega)
              rw [Int.toNat_natCast] at g0 g1
              subst e
              rw [← hx] at g0 g1
              have HX := Aside0.mk hx
              have hi2 : (i : Int) < (out6.length : Int) := by omega
              clear hx
              go_upto_region 12 with ((with_reducible refine gate_dst (N := 8) rfl ?_); go_loud (refine box_event ?hg (N := 8) ?hd (cs := #[.string (⟨#[]⟩ : ByteArray), .string (⟨#[]⟩ : ByteArray)]) (t := 80) ?hr ?_; (case hd => rfl); (case hg => rfl); (case hr => first | (go_simp; done) | (go_simp; rfl)); intro xb hxb W2 hbox hb; have HXB := Aside0.mk hbox; have HXG := Aside0.mk hxb; have HB2 := Aside0.mk hb; have hz0 : W2.cell? ⟨xb, 0, none⟩ = some (.string (⟨#[]⟩ : ByteArray)) := (blk_cell hbox 0).trans rfl; have hz1 : W2.cell? ⟨xb, 1, none⟩ = some (.string (⟨#[]⟩ : ByteArray)) := (blk_cell hbox 1).trans rfl; have hf0 := blk_frozen hbox 0; have hf1 := blk_frozen hbox 1; clear hbox hxb hb))
              obtain ⟨W3, hW3⟩ : ∃ W3, W3 = (W2.setCell ⟨xb, 0, none⟩ (.string x.f0)).setCell ⟨xb, 1, none⟩ (.string x.f1) := ⟨_, rfl⟩
              rw [← hW3]
              have hX3 : W3.heap[xb]? = some (.cells #[.string x.f0, .string x.f1] 80 (0, 0)) := by
                rw [hW3]
                exact blk_put (blk_put HXB.out 0 _ rfl) 1 _ rfl
              have hB3 : Below wr.heap.size wr W3 := by
                rw [hW3]
                have hle : wr.heap.size ≤ xb := by rw [HXG.out]; exact Nat.le_refl _
                exact (HB2.out.setCell (p := ⟨xb, 0, none⟩) hle _).setCell (p := ⟨xb, 1, none⟩) hle _
              have HB3 := Aside0.mk hB3
              have HBw3 := Aside0.mk (below_step HBw.out hB3)
              have HT3 := Aside0.mk ((hB3.block w.heap.size (blk_lt HT.out)).trans HT.out)
              have HR3 := Aside0.mk (Kd.R_below HR.out hB3)
              have HL3 := Aside0.mk (Nat.le_trans HLw.out hB3.size)
              have q0 : W3.cell? ⟨xb, 0, none⟩ = some (.string x.f0) := (blk_cell hX3 0).trans rfl
              have q1 : W3.cell? ⟨xb, 1, none⟩ = some (.string x.f1) := (blk_cell hX3 1).trans rfl
              clear hW3 hX3 hB3 g0 g1 hz0 hz1 hf0 hf1
              obtain ⟨kb, hkb⟩ : ∃ kb, kb = decide (1 ≤ x.f0.size ∧ x.f0.size ≤ 40) := ⟨_, rfl⟩
              have HTK := Aside0.mk (fun W => tko x.f0 W)
              rw [← hkb] at HTK
              have HOK := Aside0.mk (okAt_eq out6 i x HX.out)
              rw [← hkb] at HOK
              clear hkb
              cases kb with
              | false =>
                have HBAD := Aside0.mk (bad_of out6 i HLT.out (by rw [HOK.out]; simp) L HEA.out)
                go_wp2
                go_quiet ((go_at_call 70; exact Calls.quiet_of (HTK.out _)))
                go_wp2
                go_ret2
                exact ⟨_, by rw [HBAD.out]; rfl, by rw [HBAD.out]; exact Kd.R_nil _ _ _ _ _, pw_below_drewN HBw3.out _⟩
              | true =>
                by_cases hv : x.f1.size ≤ 60
                · have zv : decide ((60 : Int) < (x.f1.size : Int)) = false := decide_eq_false (by omega)
                  obtain hi0 | ⟨j, rfl⟩ : i = 0 ∨ ∃ j, i = j + 1 := by cases i with
                    | zero => exact .inl rfl
                    | succ j => exact .inr ⟨j, rfl⟩
                  · have HGO1 := Aside0.mk (go_on out6 i (fun j hj => by omega) (by rw [HOK.out]; simp [hv, hi0]))
                    have zi : decide ((0 : Int) < (i : Int)) = false := decide_eq_false (by omega)
                    have zi2 : decide (0 < i) = false := decide_eq_false (by omega)
                    have zi3 : ¬ 0 < i := by omega
                    clear hi0
                    go_wp2
                    go_quiet ((go_at_call 70; exact Calls.quiet_of (HTK.out _)))
                    go_wp2
                    go_roundg (out6.length - (i + 1))
                    case measure => have := HLT.out; omega
                    case rel => exact ⟨i + 1, by go_num, by have := HLT.out; omega, rfl, ⟨fun j hj => HGO1.out j hj⟩, ⟨Kd.R_drewN HR3.out _⟩, ⟨blk_drewN HT3.out _⟩, ⟨pw_below_drewN HBw3.out _⟩, HL3⟩
                  · have hy0 : j < out6.length := by omega
                    obtain ⟨y, hy⟩ : ∃ y, y = rd_T80 out6 (j : Int) := ⟨_, rfl⟩
                    have HC3 := Kd.C_below HC6.out HB3.out
                    obtain ⟨ad', e, g0, _⟩ := at_T80 HC3 (j : Int) (by omega) (by omega)
                    cases e
                    rw [Int.toNat_natCast, ← hy] at g0
                    have zi : decide ((0 : Int) < (j : Int) + 1) = true := decide_eq_true (by omega)
                    have HOK2 := Aside0.mk (show okAt out6 (j + 1) = Op.bytesLess y.f0.toList x.f0.toList by rw [HOK.out]; show ((true && decide (x.f1.size ≤ 60)) && (decide (j + 1 = 0) || Op.bytesLess (rd_T80 out6 (j : Int)).f0.toList x.f0.toList)) = _; rw [← hy, decide_eq_true hv]; simp)
                    have hi3 : (j : Int) < (out6.length : Int) := by omega
                    have hi4 : wrap64 (((j + 1 : Nat) : Int) - 1) = (j : Int) := by rw [w64 (by omega) (by omega)]; omega
                    clear hy HC3 hy0
                    cases hb : Op.bytesLess y.f0.toList x.f0.toList with
                    | true =>
                      have HGO1 := Aside0.mk (go_on out6 (j + 1) HGO.out (by rw [HOK2.out, hb]))
                      have hb2 : (!Op.bytesLess y.f0.toList x.f0.toList) = false := by rw [hb]; rfl
                      go_wp2
                      go_quiet ((go_at_call 70; exact Calls.quiet_of (HTK.out _)))
                      go_wp2
                      go_roundg (out6.length - (j + 1 + 1))
                      case measure => have := HLT.out; omega
                      case rel => exact ⟨j + 1 + 1, by go_num, by have := HLT.out; omega, rfl, ⟨fun j hj => HGO1.out j hj⟩, ⟨Kd.R_drewN HR3.out _⟩, ⟨blk_drewN HT3.out _⟩, ⟨pw_below_drewN HBw3.out _⟩, HL3⟩
                    | false =>
                      have HBAD := Aside0.mk (bad_of out6 (j + 1) HLT.out (by rw [HOK2.out, hb]) L HEA.out)
                      have hb2 : (!Op.bytesLess y.f0.toList x.f0.toList) = true := by rw [hb]; rfl
                      go_wp2
                      go_quiet ((go_at_call 70; exact Calls.quiet_of (HTK.out _)))
                      go_wp2
                      go_ret2
                      exact ⟨_, by rw [HBAD.out]; rfl, by rw [HBAD.out]; exact Kd.R_nil _ _ _ _ _, pw_below_drewN HBw3.out _⟩
                · have zv : (60 : Int) < (x.f1.size : Int) := by omega
                  have HBAD := Aside0.mk (bad_of out6 i HLT.out (by rw [HOK.out]; simp [hv]) L HEA.out)
                  go_wp2
                  go_quiet ((go_at_call 70; exact Calls.quiet_of (HTK.out _)))
                  go_wp2
                  go_ret2
                  exact ⟨_, by rw [HBAD.out]; rfl, by rw [HBAD.out]; exact Kd.R_nil _ _ _ _ _, pw_below_drewN HBw3.out _⟩
            · obtain rfl : i = out6.length := by omega
              have HEB := Aside0.mk (good_of out6 HGO.out L HEA.out)
              have HKS := Aside0.mk (show ∀ i : Nat, i < out6.length → (rd_T80 out6 (i : Int)).f0.size ≤ 1048576 from fun i hi => ok_size out6 i (HGO.out i hi))
              have HCr := Aside0.mk (Kd.reads1 HR.out)
              have HCr1 := Aside0.mk (Kd.reads2 HR.out)
              have HCLr := Aside0.mk (Kd.C_below HC.out HBw.out)
              obtain ⟨kq, hQ⟩ := (Limb_ev (enc out6.length 0 (out6.map BuI.kv)) L (by rw [enc_len _ _ _ (by rw [List.length_map]; exact Nat.le_refl _), List.length_map]; have := HPL.out; omega)).ex
              have HQ := Aside0.mk hQ
              clear hQ
              have hu := Try.underlying29
              go_upto_region 15 with (fail)
              refine start_ (n := 9) (S := fun w' => w'.cell? ⟨w.heap.size, 0, none⟩ = some (.slice A L.length c)) (ds := []) #[false, false, false, false, false, false, false, false, false] (by kernel_rfl) rfl rfl ((blk_cell (xblk_drew HT.out) 0).trans rfl) (fun hHeld => ?_)
              refine pure_ (i := 0) (N := some 63) (v := ?_) (a' := ?_) #[true, false, false, false, false, false, false, false, false] rfl rfl (by kernel_rfl) (fun _ _ _ h => h) (Or.inl ⟨by rfl, ?_⟩) ?_ ?_
              rotate_left
              · intro w'
                go_simp
                with_reducible rfl
              rotate_left
              · simp only [Act.put, List.setIfInBounds_toArray, List.set_cons_zero, List.set_cons_succ, i64_w, i32_w]
                rfl
              refine pure_ (i := 1) (N := some 64) (v := ?_) (a' := ?_) #[true, true, false, false, false, false, false, false, false] rfl rfl (by kernel_rfl) (fun _ _ _ h => h) (Or.inl ⟨by rfl, ?_⟩) ?_ ?_
              rotate_left
              · intro w'
                go_simp
                with_reducible rfl
              rotate_left
              · simp only [Act.put, List.setIfInBounds_toArray, List.set_cons_zero, List.set_cons_succ, i64_w, i32_w]
                rfl
              refine pure_ (i := 4) (N := some 67) (v := ?_) (a' := ?_) #[true, true, false, false, true, false, false, false, false] rfl rfl (by kernel_rfl) (fun _ _ _ h => h) (Or.inl ⟨by rfl, ?_⟩) ?_ ?_
              rotate_left
              · intro w'
                go_simp
                with_reducible rfl
              rotate_left
              · simp only [Act.put, List.setIfInBounds_toArray, List.set_cons_zero, List.set_cons_succ, i64_w, i32_w]
                rfl
              refine take_ (i := 5) (N := some 68) (v := ?_) (a' := ?_) #[true, true, false, false, true, true, false, false, false] rfl rfl (by kernel_rfl) (fun _ _ _ h => h) (Or.inl ⟨by rfl, ?_⟩) hHeld ?_ ?_
              rotate_left
              · intro w' s0
                go_simp
                with_reducible rfl
              rotate_left
              · simp only [Act.put, List.setIfInBounds_toArray, List.set_cons_zero, List.set_cons_succ, i64_w, i32_w]
                rfl
              refine one_ (i := 2) (N := some 65) #[true, true, true, false, true, true, false, false, false] rfl rfl (by kernel_rfl) (by decide) (fun K hK => ?_)
              refine goes_ Try.func57 (by kernel_rfl) rfl #[.slice A6 out6.length c6] (by rfl) rfl rfl (by simp only [List.map_toArray, List.map_cons, List.map_nil]; rfl) ?_
              with_reducible refine ((treapI out6 A6 c6 _ (Kd.reads1 (Kd.R_drew HR.out)) HCr1.out (by have := HPL.out; omega) HKS.out)).mono ?_
              rintro e W4 ⟨v4, rfl, ho, hb⟩
              refine ⟨_, rfl, ?_⟩
              obtain ⟨A4, c4, e4⟩ := Kd.R_slice ho
              subst e4
              have HO4 := Aside0.mk ho
              have HB4 := Aside0.mk (below_drewB hb)
              clear ho hb
              refine hK.out _ _ ((blk_cell (blk_below HT.out HB4.out) 0).trans rfl) (fun hHeld => ?_)
              clear hK K
              refine norm_ (a' := ?_) ?_ ?_
              rotate_left
              · show Act.put _ (some 65) _ = _
                simp only [Act.put, List.setIfInBounds_toArray, List.set_cons_zero, List.set_cons_succ, i64_w, i32_w]
                rfl
              refine pure_ (i := 3) (N := some 66) (v := ?_) (a' := ?_) #[true, true, true, true, true, true, false, false, false] rfl rfl (by kernel_rfl) (fun _ _ _ h => h) (Or.inl ⟨by rfl, ?_⟩) ?_ ?_
              rotate_left
              · intro w'
                go_simp
                with_reducible rfl
              rotate_left
              · simp only [Act.put, List.setIfInBounds_toArray, List.set_cons_zero, List.set_cons_succ, i64_w, i32_w]
                rfl
              refine one_ (i := 6) (N := some 69) #[true, true, true, true, true, true, true, false, false] rfl rfl (by kernel_rfl) (by decide) (fun K hK => ?_)
              refine goes_ Try.func76 (by kernel_rfl) rfl #[.slice A4 (enc out6.length 0 (out6.map BuI.kv)).length c4, .slice A L.length c] (by rfl) rfl rfl (by simp only [List.map_toArray, List.map_cons, List.map_nil]; rfl) ?_
              with_reducible refine ((impl_Limb.calls kq A4 c4 (enc out6.length 0 (out6.map BuI.kv)) A c L (eqb (enc out6.length 0 (out6.map BuI.kv)) L) _ (Kd.reads1 HO4.out) (Kd.reads2 HO4.out) (Kd.C_below HCLr.out HB4.out) HC1.out HQ.out)).mono ?_
              rintro e W5 ⟨rfl, ⟨nq, rfl⟩⟩
              refine ⟨_, rfl, ?_⟩
              refine hK.out _ _ ((blk_cell (blk_drewN (blk_below HT.out HB4.out) nq) 0).trans rfl) (fun hHeld => ?_)
              clear hK K
              refine norm_ (a' := ?_) ?_ ?_
              rotate_left
              · show Act.put _ (some 69) _ = _
                simp only [Act.put, List.setIfInBounds_toArray, List.set_cons_zero, List.set_cons_succ, i64_w, i32_w]
                rfl
              refine pure_ (i := 7) (N := some 2) (v := ?_) (a' := ?_) #[true, true, true, true, true, true, true, true, false] rfl rfl (by kernel_rfl) (fun _ _ _ h => h) (Or.inl ⟨by rfl, ?_⟩) ?_ ?_
              rotate_left
              · intro w'
                go_simp
                with_reducible rfl
              rotate_left
              · simp only [Act.put, List.setIfInBounds_toArray, List.set_cons_zero, List.set_cons_succ, i64_w, i32_w]
                rfl
              refine pure_ (i := 8) (N := some 3) (v := ?_) (a' := ?_) #[true, true, true, true, true, true, true, true, true] rfl rfl (by kernel_rfl) (fun _ _ _ h => h) (Or.inl ⟨by rfl, ?_⟩) ?_ ?_
              rotate_left
              · intro w'
                go_simp
                with_reducible rfl
              rotate_left
              · simp only [Act.put, List.setIfInBounds_toArray, List.set_cons_zero, List.set_cons_succ, i64_w, i32_w]
                rfl
              refine done_ (by kernel_rfl) ?_
              go_wp2
              go_ret2
              exact ⟨_, by rw [HEB.out]; rfl, by rw [HEB.out]; exact Kd.R_drewN (Kd.R_below (Kd.R_lower HR.out (by have := HS5.out; omega)) HB4.out) _, pw_below_drewN (below_step HBw.out HB4.out) _⟩
        · have ea : ansP L = ([], false) := by unfold ansP; rw [if_neg HL.out.1, if_neg HL.out.2, hp]; exact if_neg hn
          have HEA := Aside0.mk ea
          have k1 : ((nx6 : Int) != (L.length : Int)) = true := by simp; omega
          clear ea hp
          go_wp2
          go_ret2
          exact ⟨_, by rw [HEA.out]; rfl, by rw [HEA.out]; exact Kd.R_nil _ _ _ _ _, HBw6.out⟩
end Go.Proofs.Ytjknkeipginpcaa.Po
end

section
-- Written by a program of this session (pprint.py) out of the translation's print; Lean checks it.
namespace Go.Proofs.Ytjknkeipginpcaa.PQ
open Go.RowKit Go.Proofs.YtjknkeipginpcaaW.PrintWords Go.Proofs.YtjknkeipginpcaaW.PrintLast Go.Proofs.YtjknkeipginpcaaW.PrintMore
attribute [local go_sem] max2_int min2_int max_two min_two max_three min_three max_four min_four   -- for this text's walks alone
set_option linter.unusedVariables false
set_option linter.unusedSimpArgs false

/-! ### spec_PutKey: function 40 -/
end Go.Proofs.Ytjknkeipginpcaa.PQ
end

section
-- Written by a program of this session (pprint.py) out of the translation's print; Lean checks it.
namespace Go.Proofs.Ytjknkeipginpcaa.PQ
open Go.RowKit Go.Proofs.YtjknkeipginpcaaW.PrintWords Go.Proofs.YtjknkeipginpcaaW.PrintLast Go.Proofs.YtjknkeipginpcaaW.PrintMore
attribute [local go_sem] max2_int min2_int max_two min_two max_three min_three max_four min_four   -- for this text's walks alone
set_option linter.unusedVariables false
set_option linter.unusedSimpArgs false

/-! ### spec_SplitTreap: function 31 -/
end Go.Proofs.Ytjknkeipginpcaa.PQ
end

section
-- Written by a program of this session (pprint.py) out of the translation's print; Lean checks it.
namespace Go.Proofs.Ytjknkeipginpcaa.PQ
open Go.RowKit Go.Proofs.YtjknkeipginpcaaW.PrintWords Go.Proofs.YtjknkeipginpcaaW.PrintLast Go.Proofs.YtjknkeipginpcaaW.PrintMore
attribute [local go_sem] max2_int min2_int max_two min_two max_three min_three max_four min_four   -- for this text's walks alone
set_option linter.unusedVariables false
set_option linter.unusedSimpArgs false

--OWNPART impl_treapOf
/-! ### impl_treapOf: function 57, by hand -/
--NEEDS loop.example/g00274/impl.heavier
--NEEDS loop.example/g00274/spec.l7Above
--IMPORT TrO
end Go.Proofs.Ytjknkeipginpcaa.PQ
end

section
-- Written by a program of this session (pprint.py) out of the translation's print; Lean checks it.
namespace Go.Proofs.Ytjknkeipginpcaa.PQ
open Go.RowKit Go.Proofs.YtjknkeipginpcaaW.PrintWords Go.Proofs.YtjknkeipginpcaaW.PrintLast Go.Proofs.YtjknkeipginpcaaW.PrintMore
attribute [local go_sem] max2_int min2_int max_two min_two max_three min_three max_four min_four   -- for this text's walks alone
set_option linter.unusedVariables false
set_option linter.unusedSimpArgs false

--OWNPART impl_pairsOf
/-! ### impl_pairsOf: function 49, by hand -/
--NEEDS loop.example/g00274/impl.heavier
--NEEDS loop.example/g00274/spec.l7Above
--NEEDS loop.example/g00274/impl.treapKeyOK
--NEEDS slices.Equal[[]loop.example/g00274/impl.Limb,loop.example/g00274/impl.Limb]
--IMPORT Po
end Go.Proofs.Ytjknkeipginpcaa.PQ
end
