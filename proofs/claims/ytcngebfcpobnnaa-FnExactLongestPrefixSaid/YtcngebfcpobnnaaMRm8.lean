/- Several texts in one: what the claim's last text rests on. No conditions. -/
import Derived.Test.YtcngebfcpobnnaaMRm7
import Derived.Test.YtcngebfcpobnnaaMRm5
section
namespace Go.Proofs.Ytcngebfcpobnnaa.PQ
open Go.RowKit Go.Proofs.YtcngebfcpobnnaaW.PrintWords Go.Proofs.YtcngebfcpobnnaaW.PrintLast Go.Proofs.YtcngebfcpobnnaaW.PrintMore
attribute [local go_sem] max2_int min2_int max_two min_two max_three min_three max_four min_four
set_option linter.unusedVariables false
set_option linter.unusedSimpArgs false
def spec_l13Names.l0 : Nat → List ByteArray → List ByteArray → List (S64) → Int → Int → Option (List ByteArray)
 | 0, _, _, _, _, _ => none
 | k + 1, x3, x4, x12, x13, x14 => if x14 < x13 then (if 0 ≤ x14 then (if x14 < (x12.length : Int) then (if x14 > 0 then (if 0 ≤ ((rd_T64 x12 x14).f2) then (if ((rd_T64 x12 x14).f2) < (x4.length : Int) then (if (rdOf ByteArray.empty x4 ((rd_T64 x12 x14).f2)).size + ((rd_T64 x12 x14).f0).size ≤ 9223372036854775807 then (if x14 < (x4.length : Int) then ((some (x4.set (x14 : Int).toNat ((rdOf ByteArray.empty x4 ((rd_T64 x12 x14).f2)) ++ ((rd_T64 x12 x14).f0)) : List ByteArray)).bind fun y454 => (if (rd_T64 x12 x14).f1 = true then (if x3.length < 8796093022208 then (spec_l13Names.l0 k (x3 ++ [(rdOf ByteArray.empty x4 ((rd_T64 x12 x14).f2)) ++ ((rd_T64 x12 x14).f0)]) y454 x12 x13 (wrap64 (x14 + 1))) else (none)) else (spec_l13Names.l0 k x3 y454 x12 x13 (wrap64 (x14 + 1))))) else (none)) else (none)) else (none)) else (none)) else (if (rd_T64 x12 x14).f1 = true then (if x14 < (x4.length : Int) then (if x3.length < 8796093022208 then (spec_l13Names.l0 k (x3 ++ [rdOf ByteArray.empty x4 x14]) x4 x12 x13 (wrap64 (x14 + 1))) else (none)) else (none)) else (spec_l13Names.l0 k x3 x4 x12 x13 (wrap64 (x14 + 1))))) else (none)) else (none)) else (some x3)
def spec_l13Names.f (k : Nat) (l0_0 : List (S64)) : Option (List ByteArray) := if 0 ≤ (l0_0.length : Int) then (if ((l0_0.length : Int) : Int).toNat ≤ 17592186044416 then (spec_l13Names.l0 k ([] : List ByteArray) (List.replicate ((l0_0.length : Int) : Int).toNat (⟨#[]⟩ : ByteArray)) l0_0 (l0_0.length : Int) 0) else (none)) else (none)
def spec_l13Names.T7 : Bool × List (List Nat × List Nat) := (true, [([], []), ([], []), ([], []), ([], []), ([3], [3]), ([2, 4], [2, 4]), ([5], [5]), ([], []), ([7], [7]), ([6, 8], [6, 8]), ([0, 1, 0, 1, 2, 3, 4, 5, 6, 7, 8, 9], [0, 1]), ([10, 9, 0, 1, 2, 3, 4, 5, 6, 7, 8, 9], [9, 10])])
def spec_l13Names.B7 : List Nat := [0, 0, 0, 0, 8, 28, 60, 0, 128, 508, 1023, 2047]
theorem spec_l13Names.tab7 : rtab .any (opsOf Try.f76 7) = spec_l13Names.T7 := by kernel_rfl
theorem spec_l13Names.bits7 : waitsOk spec_l13Names.T7.2 spec_l13Names.B7 = true := by kernel_rfl
set_option maxHeartbeats 8000000 in
set_option maxRecDepth 100000 in
theorem spec_l13Names.calls (k : Nat) (A0_0 : Option Addr) (c0_0 : Nat) (l0_0 : List (S64)) (r : List ByteArray) (w : World) (hr0_0 : Kd.C k64 w A0_0 l0_0.length l0_0) (hc0_0 : l0_0.length ≤ c0_0) (h : spec_l13Names.f k l0_0 = some r) :
  Calls Try.prog 76 #[.agg #[.slice A0_0 l0_0.length c0_0]] w fun e w' => ∃ v0_ : Value, e = .returned (v0_) ∧ Kd.R Kd.string 9 w' w.heap.size (fun _ => True) v0_ r ∧ Below w.heap.size w w' := by
 have hu26 := Try.underlying26
 have hu64 := Try.underlying64
 have HR0_0 := aM hr0_0
 have HC0_0 := aM hc0_0
 clear hr0_0 hc0_0
 have HB := aM (Below.refl w.heap.size w)
 have H : (if 0 ≤ (l0_0.length : Int) then (if ((l0_0.length : Int) : Int).toNat ≤ 17592186044416 then (spec_l13Names.l0 k ([] : List ByteArray) (List.replicate ((l0_0.length : Int) : Int).toNat (⟨#[]⟩ : ByteArray)) l0_0 (l0_0.length : Int) 0) else (none)) else (none)) = some r := h
 clear h
 by_cases c2 : 0 ≤ (l0_0.length : Int)
 ·
  rw [if_pos c2] at H
  have c2b0 := eq_true c2
  have c2b1 : decide (0 ≤ (l0_0.length : Int)) = true := decide_eq_true c2
  clear c2
  by_cases c3 : ((l0_0.length : Int) : Int).toNat ≤ 17592186044416
  ·
   rw [if_pos c3] at H
   have c3b0 := eq_true c3
   have c3b1 : decide (((l0_0.length : Int) : Int).toNat ≤ 17592186044416) = true := decide_eq_true c3
   clear c3
   obtain ⟨y448, hy448⟩ : ∃ y_ : List ByteArray, y_ = (List.replicate ((l0_0.length : Int) : Int).toNat (⟨#[]⟩ : ByteArray)) := ⟨_, rfl⟩
   replace H : (spec_l13Names.l0 k ([] : List ByteArray) y448 l0_0 (l0_0.length : Int) 0) = some r := by first | (rw [hy448]; with_reducible exact H) | (have H2_ := (Option.bind_some _ _).symm.trans H; rw [hy448]; with_reducible exact H2_) | (have H2_ := (Option.bind_some _ _).symm.trans H; with_reducible exact H2_) | with_reducible exact H | (rw [hy448]; exact H) | exact H
   have Ny448 := aM hy448
   clear hy448
   have H' := aM H
   clear H
   go_enter Try.func76, Try.ntmps76
   go_wp2_with (first | ((with_reducible refine gate_dst (N := 1) rfl ?_); refine box_event ?hg (N := 1) ?hd (cs := #[.slice A0_0 l0_0.length c0_0]) (t := 26) ?hr ?_; (case hd => rfl); (case hg => rfl); (case hr => first | (go_simp; done) | (go_simp; rfl)); intro gb447 hg w4 hbox hb; have n0_ := aM (below_step (by repeat (first | (with_reducible first | exact HB.out | apply below_alloc | apply pw_below_drewN | apply below_drew1) | exact HB.out)) hb); have n1_ := aM (hbox); have n2_ := aM ((by rw [hg]; exact (below_size (by repeat (first | (with_reducible first | exact HB.out | apply below_alloc | apply pw_below_drewN | apply below_drew1) | exact HB.out))) : w.heap.size ≤ gb447)); have n3_ := aM ((by rw [hg]; exact (below_size (by repeat (first | (with_reducible first | exact HB.out | apply below_alloc | apply pw_below_drewN | apply below_drew1) | exact HB.out))) : w.heap.size ≤ gb447)); clear HB; have HB := n0_; have BK447 := n1_; have GW447 := n2_; have GE447 := n3_; clear n0_ n1_ n2_ n3_; clear hb hbox hg; have hcz5_0 : w4.cell? ⟨gb447, 0, none⟩ = some (.slice A0_0 l0_0.length c0_0) := (blk_cell BK447.out 0).trans rfl; have hfz5_0 := blk_frozen BK447.out 0) | ((with_reducible refine gate_dst (N := 10) rfl ?_); refine Kd.R_make Kd.string _ 9 rfl (N := 10) rfl 22 _ _ rfl (l0_0.length : Int) rfl rfl Try.underlying22 (.string ⟨#[]⟩) 16 info9 rfl (by decide) (by omega) (⟨#[]⟩ : ByteArray) (ok := fun _ => True) (okp := fun _ => True) rfl (fun _ hk => hk) trivial (of_decide_eq_true (by first | (with_reducible assumption) | assumption)) (Nat.le_trans (Nat.mul_le_mul_right _ (of_decide_eq_true (by first | (with_reducible assumption) | assumption) : (l0_0.length : Int).toNat ≤ 17592186044416)) (by omega)) (Below.refl _ _) (Nat.le_refl _) ?_; intro v449 w6 ho7 hb hg_ hnew_; clear hg_ hnew_; (first | rw [← Ny448.out] at ho7 | (simp only [Int.reduceToNat] at ho7; rw [← Ny448.out] at ho7)); have n0_ := aM (Kd.R_lower ho7 (below_size (by repeat (first | (with_reducible first | exact HB.out | apply below_alloc | apply pw_below_drewN | apply below_drew1 | refine below_set ?_ GE447.out) | exact HB.out)))); have n1_ := aM (blk_below (g := gb447) (o := .cells #[.slice A0_0 l0_0.length c0_0] 26 (0, 0)) (by (with_reducible repeat (first | refine blk_drewN ?_ _ | refine blk_drew ?_ | refine blk_alloc ?_ _)); exact BK447.out) hb); have n2_ := aM (below_step (by repeat (first | (with_reducible first | exact HB.out | apply below_alloc | apply pw_below_drewN | apply below_drew1 | refine below_set ?_ GE447.out) | exact HB.out)) hb); clear BK447; clear HB; have HO450 := n0_; have BK447 := n1_; have HB := n2_; clear n0_ n1_ n2_; clear hb ho7; have hcz8_0 : w6.cell? ⟨gb447, 0, none⟩ = some (.slice A0_0 l0_0.length c0_0) := (blk_cell BK447.out 0).trans rfl; have hfz8_0 := blk_frozen BK447.out 0))
   go_loopg [3, 14] k (fun kq v3 v14 w' => ∃ (x3_1 : List ByteArray) (x4_1 : List ByteArray) (x14_1 : Int), v14 = .int .i64 x14_1 ∧ Aside0 (spec_l13Names.l0 kq x3_1 x4_1 l0_0 (l0_0.length : Int) x14_1 = some r) ∧ Aside0 (kq ≤ k) ∧ Aside0 (Kd.R Kd.string 9 w' w.heap.size (fun k_ => some k_ ≠ (v449 : Value).ownBlock) v3 x3_1) ∧ Aside0 (Kd.R Kd.string 9 w' w.heap.size (fun k_ => some k_ ≠ (v3 : Value).ownBlock) v449 x4_1) ∧ Aside0 (w'.heap[gb447]? = some (.cells #[(.slice A0_0 l0_0.length c0_0)] 26 (0, 0))) ∧ Aside0 (Below w.heap.size w w'))
   case atStart => exact ⟨(([] : List ByteArray)), (y448), (0), (by first | rfl | (simp; done) | (simp [*]; done)), H', ⟨Nat.le_refl _⟩, ⟨by first | exact Kd.R_nil _ _ _ _ _ | exact Kd.N_nil _ _ _ _ _ | exact Kd.V_nil _ _ _ _ _ | exact Kd.Q_nil _ _ _ _ _ | exact Kd.S_nil _ _ _ _ _⟩, ⟨by (with_reducible repeat (first | apply Kd.R_alloc | apply Kd.R_drewN | apply Kd.R_drew)); exact Kd.R_mono HO450.out (fun _ hk => (by simp [Value.ownBlock]))⟩, ⟨by (with_reducible repeat (first | refine blk_drewN ?_ _ | refine blk_drew ?_ | refine blk_alloc ?_ _)); exact BK447.out⟩, ⟨by repeat (first | (with_reducible first | exact HB.out | apply below_alloc | apply pw_below_drewN | apply below_drew1 | refine below_set ?_ GE447.out) | exact HB.out)⟩⟩
   case round =>
    clear H'
    try clear c2
    try clear c2b0
    try clear c2b1
    try clear p2
    try clear c3
    try clear c3b0
    try clear c3b1
    try clear c7
    try clear hcz5_0
    try clear hcz8_0
    try clear hfz5_0
    try clear hfz8_0
    obtain ⟨x3_1, x4_1, x14_1, rfl, HA, HK1, HO_3, HO_4, BK447, HB⟩ := hrel
    cases gk with
    | zero => exact absurd HA.out (by simp [spec_l13Names.l0])
    | succ k1 =>
     have H := HA.out
     clear HA
     simp only [spec_l13Names.l0] at H
     by_cases c9 : x14_1 < (l0_0.length : Int)
     ·
      rw [if_pos c9] at H
      have c9b0 : decide (x14_1 < (l0_0.length : Int)) = true := decide_eq_true c9
      clear c9
      by_cases c10 : 0 ≤ x14_1
      ·
       rw [if_pos c10] at H
       have c10b0 : decide (0 ≤ x14_1) = true := decide_eq_true c10
       clear c10
       by_cases c11 : x14_1 < (l0_0.length : Int)
       ·
        rw [if_pos c11] at H
        have c11b0 : decide (x14_1 < (l0_0.length : Int)) = true := decide_eq_true c11
        clear c11
        by_cases c12 : x14_1 > 0
        ·
         rw [if_pos c12] at H
         have c12b0 : decide (0 < x14_1) = true := decide_eq_true c12
         clear c12
         by_cases c13 : 0 ≤ ((rd_T64 l0_0 x14_1).f2)
         ·
          rw [if_pos c13] at H
          have c13b0 : decide (0 ≤ ((rd_T64 l0_0 x14_1).f2)) = true := decide_eq_true c13
          clear c13
          by_cases c14 : ((rd_T64 l0_0 x14_1).f2) < (x4_1.length : Int)
          ·
           rw [if_pos c14] at H
           have c14b0 : decide (((rd_T64 l0_0 x14_1).f2) < (x4_1.length : Int)) = true := decide_eq_true c14
           clear c14
           by_cases c15 : (rdOf ByteArray.empty x4_1 ((rd_T64 l0_0 x14_1).f2)).size + ((rd_T64 l0_0 x14_1).f0).size ≤ 9223372036854775807
           ·
            rw [if_pos c15] at H
            have c15b0 := eq_true c15
            have c15b1 : decide ((rdOf ByteArray.empty x4_1 ((rd_T64 l0_0 x14_1).f2)).size + ((rd_T64 l0_0 x14_1).f0).size ≤ 9223372036854775807) = true := decide_eq_true c15
            try have c15b2 : (9223372036854775807 < (rdOf ByteArray.empty x4_1 ((rd_T64 l0_0 x14_1).f2)).size + ((rd_T64 l0_0 x14_1).f0).size) = False := eq_false (Nat.not_lt.2 c15)
            try have c15b3 := c15b2
            try simp only [ByteArray.size_append] at c15b3
            by_cases c16 : x14_1 < (x4_1.length : Int)
            ·
             rw [if_pos c16] at H
             have c16b0 : decide (x14_1 < (x4_1.length : Int)) = true := decide_eq_true c16
             clear c16
             obtain ⟨y454, hy454⟩ : ∃ y_ : List ByteArray, y_ = (x4_1.set (x14_1 : Int).toNat ((rdOf ByteArray.empty x4_1 ((rd_T64 l0_0 x14_1).f2)) ++ ((rd_T64 l0_0 x14_1).f0))) := ⟨_, rfl⟩
             replace H : (if (rd_T64 l0_0 x14_1).f1 = true then (if x3_1.length < 8796093022208 then (spec_l13Names.l0 k1 (x3_1 ++ [(rdOf ByteArray.empty x4_1 ((rd_T64 l0_0 x14_1).f2)) ++ ((rd_T64 l0_0 x14_1).f0)]) y454 l0_0 (l0_0.length : Int) (wrap64 (x14_1 + 1))) else (none)) else (spec_l13Names.l0 k1 x3_1 y454 l0_0 (l0_0.length : Int) (wrap64 (x14_1 + 1)))) = some r := by first | (rw [hy454]; with_reducible exact H) | (have H2_ := (Option.bind_some _ _).symm.trans H; rw [hy454]; with_reducible exact H2_) | (have H2_ := (Option.bind_some _ _).symm.trans H; with_reducible exact H2_) | with_reducible exact H | (rw [hy454]; exact H) | exact H
             have Ny454 := aM hy454
             clear hy454
             obtain ⟨bq18, hbq18⟩ : ∃ b_ : Bool, b_ = ((rd_T64 l0_0 x14_1).f1) := ⟨_, rfl⟩
             replace H : (if bq18 = true then (if x3_1.length < 8796093022208 then (spec_l13Names.l0 k1 (x3_1 ++ [(rdOf ByteArray.empty x4_1 ((rd_T64 l0_0 x14_1).f2)) ++ ((rd_T64 l0_0 x14_1).f0)]) y454 l0_0 (l0_0.length : Int) (wrap64 (x14_1 + 1))) else (none)) else (spec_l13Names.l0 k1 x3_1 y454 l0_0 (l0_0.length : Int) (wrap64 (x14_1 + 1)))) = some r := by rw [← hbq18] at H; exact H
             have Nbq18 := aM hbq18
             clear hbq18
             by_cases c19 : bq18 = true
             ·
              subst c19
              have H1 : (if x3_1.length < 8796093022208 then (spec_l13Names.l0 k1 (x3_1 ++ [(rdOf ByteArray.empty x4_1 ((rd_T64 l0_0 x14_1).f2)) ++ ((rd_T64 l0_0 x14_1).f0)]) y454 l0_0 (l0_0.length : Int) (wrap64 (x14_1 + 1))) else (none)) = some r := by rw [if_pos rfl] at H; exact H
              clear H
              have H := H1
              clear H1
              by_cases c21 : x3_1.length < 8796093022208
              ·
               rw [if_pos c21] at H
               have LMc21 := aM c21
               clear c21
               obtain ⟨y456, hy456⟩ : ∃ y_ : List ByteArray, y_ = (x3_1 ++ [(rdOf ByteArray.empty x4_1 ((rd_T64 l0_0 x14_1).f2)) ++ ((rd_T64 l0_0 x14_1).f0)]) := ⟨_, rfl⟩
               replace H : (spec_l13Names.l0 k1 y456 y454 l0_0 (l0_0.length : Int) (wrap64 (x14_1 + 1))) = some r := by first | (rw [hy456]; with_reducible exact H) | (have H2_ := (Option.bind_some _ _).symm.trans H; rw [hy456]; with_reducible exact H2_) | (have H2_ := (Option.bind_some _ _).symm.trans H; with_reducible exact H2_) | with_reducible exact H | (rw [hy456]; exact H) | exact H
               have Ny456 := aM hy456
               clear hy456
               have H' := aM H
               clear H
               have p451 : 0 ≤ (x14_1 : Int) := of_decide_eq_true (by first | (with_reducible assumption) | assumption)
               have q451 : x14_1 < (l0_0.length : Int) := of_decide_eq_true (by first | (with_reducible assumption) | assumption)
               obtain ⟨ad451, e451, hx451_0, hx451_1, hx451_2⟩ := at_T64 HR0_0.out x14_1 p451 q451
               (try rw [← Nbq18.out] at hx451_1)
               cases e451
               try have hz_hx451_0 := aM hx451_0
               try have hz_hx451_1 := aM hx451_1
               try have hz_hx451_2 := aM hx451_2
               replace hx451_0 := (HB.out.cell (World.block_lt_of_cell? w _ hx451_0)).trans hx451_0
               replace hx451_1 := (HB.out.cell (World.block_lt_of_cell? w _ hx451_1)).trans hx451_1
               replace hx451_2 := (HB.out.cell (World.block_lt_of_cell? w _ hx451_2)).trans hx451_2
               replace p451 := eq_true p451
               replace q451 := eq_true q451
               try go_wp2_with (first | ((with_reducible refine gate_dst (N := 6) rfl ?_); refine box_event ?hg (N := 6) ?hd (cs := #[.string (⟨#[]⟩ : ByteArray), .bool false, .int .i64 0]) (t := 64) ?hr ?_; (case hd => rfl); (case hg => rfl); (case hr => first | (go_simp; done) | (go_simp; rfl)); intro gb452 hg w22 hbox hb; have n0_ := aM (Kd.R_below (by (with_reducible repeat (first | apply Kd.R_alloc | apply Kd.R_drewN | apply Kd.R_drew)); exact HO_3.out) hb); have n1_ := aM (Kd.R_below (by (with_reducible repeat (first | apply Kd.R_alloc | apply Kd.R_drewN | apply Kd.R_drew)); exact HO_4.out) hb); have n2_ := aM (blk_below (g := gb447) (o := .cells #[.slice (some ad451) l0_0.length c0_0] 26 (0, 0)) (by (with_reducible repeat (first | refine blk_drewN ?_ _ | refine blk_drew ?_ | refine blk_alloc ?_ _)); exact BK447.out) hb); have n3_ := aM (below_step (by repeat (first | (with_reducible first | exact HB.out | apply below_alloc | apply pw_below_drewN | apply below_drew1 | refine below_set ?_ GE447.out) | exact HB.out)) hb); have n4_ := aM (hbox); have n5_ := aM ((by rw [hg]; exact (below_size (by repeat (first | (with_reducible first | exact HB.out | apply below_alloc | apply pw_below_drewN | apply below_drew1 | refine below_set ?_ GE447.out) | exact HB.out))) : w.heap.size ≤ gb452)); have n6_ := aM ((by rw [hg]; exact (below_size (by repeat (first | (with_reducible first | exact HB.out | apply below_alloc | apply pw_below_drewN | apply below_drew1 | refine below_set ?_ GE447.out) | exact HB.out))) : w.heap.size ≤ gb452)); have n7_ := aM ((by rw [hg]; exact Nat.ne_of_lt (blk_lt (g := gb447) (o := .cells #[.slice (some ad451) l0_0.length c0_0] 26 (0, 0)) (by (with_reducible repeat (first | refine blk_drewN ?_ _ | refine blk_drew ?_ | refine blk_alloc ?_ _)); exact BK447.out)) : gb447 ≠ gb452)); have n8_ := aM ((by rw [hg]; exact Nat.ne_of_gt (blk_lt (g := gb447) (o := .cells #[.slice (some ad451) l0_0.length c0_0] 26 (0, 0)) (by (with_reducible repeat (first | refine blk_drewN ?_ _ | refine blk_drew ?_ | refine blk_alloc ?_ _)); exact BK447.out)) : gb452 ≠ gb447)); clear HO_3; clear HO_4; clear BK447; clear HB; have HO_3 := n0_; have HO_4 := n1_; have BK447 := n2_; have HB := n3_; have BK452 := n4_; have GW452 := n5_; have GE452 := n6_; have NB447_452 := n7_; have NB452_447 := n8_; clear n0_ n1_ n2_ n3_ n4_ n5_ n6_ n7_ n8_; clear hb hbox hg; have hnb23 := NB452_447.out; have hnc23 := NB447_452.out; have hcz24_0 : w22.cell? ⟨gb452, 0, none⟩ = some (.string (⟨#[]⟩ : ByteArray)) := (blk_cell BK452.out 0).trans rfl; have hcz24_1 : w22.cell? ⟨gb452, 1, none⟩ = some (.bool false) := (blk_cell BK452.out 1).trans rfl; have hcz24_2 : w22.cell? ⟨gb452, 2, none⟩ = some (.int .i64 0) := (blk_cell BK452.out 2).trans rfl; have hfz24_0 := blk_frozen BK452.out 0; have hfz24_1 := blk_frozen BK452.out 1; have hfz24_2 := blk_frozen BK452.out 2))
               have n0_ : Aside0 (Kd.R Kd.string 9 (((w22.setCell ⟨gb452, 0, none⟩ (.string ((rd_T64 l0_0 x14_1).f0))).setCell ⟨gb452, 1, none⟩ (.bool true)).setCell ⟨gb452, 2, none⟩ (.int .i64 ((rd_T64 l0_0 x14_1).f2))) w.heap.size (fun k_ => some k_ ≠ (v449 : Value).ownBlock) u3 x3_1) := ⟨by (with_reducible repeat (first | apply Kd.R_alloc | apply Kd.R_drewN | apply Kd.R_drew)); exact Kd.R_mono (Kd.R_far (p := ⟨gb452, 2, none⟩) (Kd.R_far (p := ⟨gb452, 1, none⟩) (Kd.R_far (p := ⟨gb452, 0, none⟩) (Kd.R_types HO_3.out BK452.out (by decide)) (fun _ hk => hk.2) (.string ((rd_T64 l0_0 x14_1).f0))) (fun _ hk => hk.2) (.bool true)) (fun _ hk => hk.2) (.int .i64 ((rd_T64 l0_0 x14_1).f2))) (fun _ hk => hk.1)⟩
               have n1_ : Aside0 (Kd.R Kd.string 9 (((w22.setCell ⟨gb452, 0, none⟩ (.string ((rd_T64 l0_0 x14_1).f0))).setCell ⟨gb452, 1, none⟩ (.bool true)).setCell ⟨gb452, 2, none⟩ (.int .i64 ((rd_T64 l0_0 x14_1).f2))) w.heap.size (fun k_ => some k_ ≠ (u3 : Value).ownBlock) v449 x4_1) := ⟨by (with_reducible repeat (first | apply Kd.R_alloc | apply Kd.R_drewN | apply Kd.R_drew)); exact Kd.R_mono (Kd.R_far (p := ⟨gb452, 2, none⟩) (Kd.R_far (p := ⟨gb452, 1, none⟩) (Kd.R_far (p := ⟨gb452, 0, none⟩) (Kd.R_types HO_4.out BK452.out (by decide)) (fun _ hk => hk.2) (.string ((rd_T64 l0_0 x14_1).f0))) (fun _ hk => hk.2) (.bool true)) (fun _ hk => hk.2) (.int .i64 ((rd_T64 l0_0 x14_1).f2))) (fun _ hk => hk.1)⟩
               have n2_ : Aside0 ((((w22.setCell ⟨gb452, 0, none⟩ (.string ((rd_T64 l0_0 x14_1).f0))).setCell ⟨gb452, 1, none⟩ (.bool true)).setCell ⟨gb452, 2, none⟩ (.int .i64 ((rd_T64 l0_0 x14_1).f2))).heap[gb447]? = some (.cells #[.slice (some ad451) l0_0.length c0_0] 26 (0, 0))) := ⟨by (with_reducible repeat (first | refine blk_drewN ?_ _ | refine blk_drew ?_ | refine blk_alloc ?_ _)); refine blk_far ?_ NB447_452.out _; (with_reducible repeat (first | refine blk_drewN ?_ _ | refine blk_drew ?_ | refine blk_alloc ?_ _)); refine blk_far ?_ NB447_452.out _; (with_reducible repeat (first | refine blk_drewN ?_ _ | refine blk_drew ?_ | refine blk_alloc ?_ _)); refine blk_far ?_ NB447_452.out _; (with_reducible repeat (first | refine blk_drewN ?_ _ | refine blk_drew ?_ | refine blk_alloc ?_ _)); exact BK447.out⟩
               have n3_ : Aside0 ((((w22.setCell ⟨gb452, 0, none⟩ (.string ((rd_T64 l0_0 x14_1).f0))).setCell ⟨gb452, 1, none⟩ (.bool true)).setCell ⟨gb452, 2, none⟩ (.int .i64 ((rd_T64 l0_0 x14_1).f2))).heap[gb452]? = some (.cells #[.string ((rd_T64 l0_0 x14_1).f0), .bool true, .int .i64 ((rd_T64 l0_0 x14_1).f2)] 64 (0, 0))) := ⟨by (with_reducible repeat (first | refine blk_drewN ?_ _ | refine blk_drew ?_ | refine blk_alloc ?_ _)); refine blk_put (cs := #[.string ((rd_T64 l0_0 x14_1).f0), .bool true, .int .i64 0]) ?_ 2 _ rfl; (with_reducible repeat (first | refine blk_drewN ?_ _ | refine blk_drew ?_ | refine blk_alloc ?_ _)); refine blk_put (cs := #[.string ((rd_T64 l0_0 x14_1).f0), .bool false, .int .i64 0]) ?_ 1 _ rfl; (with_reducible repeat (first | refine blk_drewN ?_ _ | refine blk_drew ?_ | refine blk_alloc ?_ _)); refine blk_put (cs := #[.string (⟨#[]⟩ : ByteArray), .bool false, .int .i64 0]) ?_ 0 _ rfl; (with_reducible repeat (first | refine blk_drewN ?_ _ | refine blk_drew ?_ | refine blk_alloc ?_ _)); exact BK452.out⟩
               have n4_ : Aside0 (Below w.heap.size w (((w22.setCell ⟨gb452, 0, none⟩ (.string ((rd_T64 l0_0 x14_1).f0))).setCell ⟨gb452, 1, none⟩ (.bool true)).setCell ⟨gb452, 2, none⟩ (.int .i64 ((rd_T64 l0_0 x14_1).f2)))) := ⟨by repeat (first | (with_reducible first | exact HB.out | apply below_alloc | apply pw_below_drewN | apply below_drew1 | refine below_set ?_ GE447.out | refine below_set ?_ GE452.out) | exact HB.out)⟩
               (try clear HO_3)
               (try clear HO_4)
               (try clear BK447)
               (try clear BK452)
               (try clear HB)
               generalize (((w22.setCell ⟨gb452, 0, none⟩ (.string ((rd_T64 l0_0 x14_1).f0))).setCell ⟨gb452, 1, none⟩ (.bool true)).setCell ⟨gb452, 2, none⟩ (.int .i64 ((rd_T64 l0_0 x14_1).f2))) = w25 at n0_ n1_ n2_ n3_ n4_ ⊢
               have HO_3 := n0_
               have HO_4 := n1_
               have BK447 := n2_
               have BK452 := n3_
               have HB := n4_
               clear n0_ n1_ n2_ n3_ n4_
               have n0_ := aM (Kd.R_drew HO_3.out)
               have n1_ := aM (Kd.R_drew HO_4.out)
               have n2_ := aM (blk_drew BK447.out)
               have n3_ := aM (blk_drew BK452.out)
               have n4_ := aM (below_drew1 HB.out)
               clear HO_3
               clear HO_4
               clear BK447
               clear BK452
               clear HB
               have HO_3 := n0_
               have HO_4 := n1_
               have BK447 := n2_
               have BK452 := n3_
               have HB := n4_
               clear n0_ n1_ n2_ n3_ n4_
               obtain ⟨Ao27, co27, eo27⟩ := Kd.R_slice HO_4.out
               (first | subst eo27 | (injection eo27 with f1_ f2_ f3_; have f4_ := f1_.symm; have f5_ := f3_.symm; clear f1_ f2_ f3_; subst f4_; subst f5_))
               have p453 : 0 ≤ (((rd_T64 l0_0 x14_1).f2) : Int) := of_decide_eq_true (by first | (with_reducible assumption) | assumption)
               have q453 : ((rd_T64 l0_0 x14_1).f2) < (x4_1.length : Int) := of_decide_eq_true (by first | (with_reducible assumption) | assumption)
               obtain ⟨ad453, e453, hx453_0⟩ := Kd.at_string (Kd.R_reads' HO_4.out).2.2 ((rd_T64 l0_0 x14_1).f2) p453 q453
               cases e453
               replace p453 := eq_true p453
               replace q453 := eq_true q453
               have p17 : 0 ≤ (x14_1 : Int) := of_decide_eq_true (by first | (with_reducible assumption) | assumption)
               have q17 : (x14_1 : Int) < ((x4_1.length : Int) : Int) := of_decide_eq_true (by first | (with_reducible assumption) | assumption)
               obtain ⟨go17, co17, eo17, gb17, gl17, cl17, HG17⟩ := Kd.R_form HO_4.out (by omega)
               (first | cases eo17 | (injection eo17 with ea_ en_ ec_; (first | subst ea_ | (injection ea_ with ea_; subst ea_)); subst ec_; clear en_))
               have GB17 := aM gb17
               have GG17 := aM HG17
               clear gb17 gl17 HG17
               (first | simp only [add_plain] at hx453_0 | skip)
               obtain ⟨hx17_0, hf17_0⟩ := Kd.R_celln (⟨#[]⟩ : ByteArray) HO_4.out (x14_1 : Int) p17 q17
               replace p17 := eq_true p17
               replace q17 := eq_true q17
               have HP28 := Kd.R_putn HO_4.out (x14_1 : Int) ((rdOf ByteArray.empty x4_1 ((rd_T64 l0_0 x14_1).f2)) ++ ((rd_T64 l0_0 x14_1).f0))
               rw [← Ny454.out] at HP28
               have HQ28 := aM HP28
               clear HP28
               refine start_ (n := 12) (S := fun w' => w'.cell? ⟨gb452, 0, none⟩ = some (.string ((rd_T64 l0_0 x14_1).f0)) ∧ w'.cell? ⟨gb452, 1, none⟩ = some (.bool true) ∧ w'.cell? ⟨gb452, 2, none⟩ = some (.int .i64 ((rd_T64 l0_0 x14_1).f2)) ∧ w'.cell? ⟨go17, (((rd_T64 l0_0 x14_1).f2)).toNat, none⟩ = some (.string (rdOf ByteArray.empty x4_1 ((rd_T64 l0_0 x14_1).f2)))) (ds := [11]) (bq 12 0) (by kernel_rfl) rfl (by kernel_rfl) ⟨(blk_cell BK452.out 0).trans rfl, (blk_cell BK452.out 1).trans rfl, (blk_cell BK452.out 2).trans rfl, hx453_0⟩ (fun hHeld => ?_); refine with_tabW spec_l13Names.tab7 spec_l13Names.bits7 (fun HT_ HW_ => ?_)
               generalize w25.drew = w26 at HO_3 HO_4 BK447 BK452 HB GG17 HQ28 hf17_0 hx17_0 hx453_0 hHeld ⊢
               refine pure_ (i := 0) (N := some 21) (v := ?_) (a' := ?_) (bq 12 1) rfl rfl (any_of HT_.out (by kernel_rfl)) (fun _ _ _ h => h) (Or.inl ⟨by rfl, ?_⟩) ?_ ?_; rotate_left; (intro w'; go_simp; (with_reducible rfl)); rotate_left; (simp only [Act.put, zSA, zSB, zSC, i64_w, i32_w]; rfl)
               refine pure_ (i := 1) (N := some 22) (v := ?_) (a' := ?_) (bq 12 3) rfl rfl (any_of HT_.out (by kernel_rfl)) (fun _ _ _ h => h) (Or.inl ⟨by rfl, ?_⟩) ?_ ?_; rotate_left; (intro w'; go_simp; (with_reducible rfl)); rotate_left; (simp only [Act.put, zSA, zSB, zSC, i64_w, i32_w]; rfl)
               refine pure_ (i := 2) (N := some 23) (v := ?_) (a' := ?_) (bq 12 7) rfl rfl (any_of HT_.out (by kernel_rfl)) (fun _ _ _ h => h) (Or.inl ⟨by rfl, ?_⟩) ?_ ?_; rotate_left; (intro w'; go_simp; (with_reducible rfl)); rotate_left; (simp only [Act.put, zSA, zSB, zSC, i64_w, i32_w]; rfl)
               refine pure_ (i := 3) (N := some 24) (v := ?_) (a' := ?_) (bq 12 15) rfl rfl (any_of HT_.out (by kernel_rfl)) (fun _ _ _ h => h) (Or.inl ⟨by rfl, ?_⟩) ?_ ?_; rotate_left; (intro w'; go_simp; (with_reducible rfl)); rotate_left; (simp only [Act.put, zSA, zSB, zSC, i64_w, i32_w]; rfl)
               refine pure_ (i := 7) (N := some 28) (v := ?_) (a' := ?_) (bq 12 143) rfl rfl (any_of HT_.out (by kernel_rfl)) (fun _ _ _ h => h) (Or.inl ⟨by rfl, ?_⟩) ?_ ?_; rotate_left; (intro w'; go_simp; (with_reducible rfl)); rotate_left; (simp only [Act.put, zSA, zSB, zSC, i64_w, i32_w]; rfl)
               refine take_ (i := 4) (N := some 25) (v := ?_) (a' := ?_) (bq 12 159) rfl rfl (take_ofW HT_.out HW_.out (by kernel_rfl)) (fun _ _ _ h => h) (Or.inl ⟨by rfl, ?_⟩) hHeld ?_ ?_; rotate_left; (rintro w' ⟨s0, s1, s2, s3⟩; go_simp; (with_reducible rfl)); rotate_left; (simp only [Act.put, zSA, zSB, zSC, i64_w, i32_w]; rfl)
               refine pure_ (i := 5) (N := some 26) (v := ?_) (a' := ?_) (bq 12 191) rfl rfl (any_of HT_.out (by kernel_rfl)) (fun _ _ _ h => h) (Or.inl ⟨by rfl, ?_⟩) ?_ ?_; rotate_left; (intro w'; go_simp; (with_reducible rfl)); rotate_left; (simp only [Act.put, zSA, zSB, zSC, i64_w, i32_w]; rfl)
               refine take_ (i := 6) (N := some 27) (v := ?_) (a' := ?_) (bq 12 255) rfl rfl (take_ofW HT_.out HW_.out (by kernel_rfl)) (fun _ _ _ h => h) (Or.inl ⟨by rfl, ?_⟩) hHeld ?_ ?_; rotate_left; (rintro w' ⟨s0, s1, s2, s3⟩; go_simp; (with_reducible rfl)); rotate_left; (simp only [Act.put, zSA, zSB, zSC, i64_w, i32_w]; rfl)
               refine take_ (i := 8) (N := some 29) (v := ?_) (a' := ?_) (bq 12 511) rfl rfl (take_ofW HT_.out HW_.out (by kernel_rfl)) (fun _ _ _ h => h) (Or.inl ⟨by rfl, ?_⟩) hHeld ?_ ?_; rotate_left; (rintro w' ⟨s0, s1, s2, s3⟩; go_simp; (with_reducible rfl)); rotate_left; (simp only [Act.put, zSA, zSB, zSC, i64_w, i32_w]; rfl)
               refine pure_ (i := 9) (N := some 30) (v := ?_) (a' := ?_) (bq 12 1023) rfl rfl (any_of HT_.out (by kernel_rfl)) (fun _ _ _ h => h) (Or.inl ⟨by rfl, ?_⟩) ?_ ?_; rotate_left; (intro w'; go_simp; (with_reducible rfl)); rotate_left; (simp only [Act.put, zSA, zSB, zSC, i64_w, i32_w]; rfl)
               refine pure_ (i := 10) (N := some 31) (v := ?_) (a' := ?_) (bq 12 2047) rfl rfl (any_of HT_.out (by kernel_rfl)) (fun _ _ _ h => h) (Or.inl ⟨by rfl, ?_⟩) ?_ ?_; rotate_left; (intro w'; go_simp; (with_reducible rfl)); rotate_left; (simp only [Act.put, zSA, zSB, zSC, i64_w, i32_w]; rfl)
               refine last_ (i := 11) (N := none) #[true, true, true, true, true, true, true, true, true, true, true, true] rfl rfl (one_of HT_.out (by kernel_rfl)) (by decide) (fun K hK => ?_)
               refine skip_ (w1 := ?_) (by rfl) rfl ?_ ?_
               rotate_left
               ·
                go_simp
                rfl
               refine hK.out _ _ ?_
               clear hK K
               refine done_ (done_of HT_.out (by kernel_rfl)) ?_
               try have hnz29 : ¬ gb452 = go17 := fun e_ => Kd.R_ne HO_4.out BK452.out (by decide) (by rw [e_]; rfl)
               try have hmz29 : ¬ go17 = gb452 := fun e_ => hnz29 e_.symm
               have hcz29_0 : w26.cell? ⟨gb452, 0, none⟩ = some (.string ((rd_T64 l0_0 x14_1).f0)) := (blk_cell BK452.out 0).trans rfl
               have hcz29_1 : w26.cell? ⟨gb452, 1, none⟩ = some (.bool true) := (blk_cell BK452.out 1).trans rfl
               have hcz29_2 : w26.cell? ⟨gb452, 2, none⟩ = some (.int .i64 ((rd_T64 l0_0 x14_1).f2)) := (blk_cell BK452.out 2).trans rfl
               have hfz29_0 := blk_frozen BK452.out 0
               have hfz29_1 := blk_frozen BK452.out 1
               have hfz29_2 := blk_frozen BK452.out 2
               have p20 : 0 ≤ (x14_1 : Int) := of_decide_eq_true (by first | (with_reducible assumption) | assumption)
               have q20 : (x14_1 : Int) < ((x4_1.length : Int) : Int) := of_decide_eq_true (by first | (with_reducible assumption) | assumption)
               replace p20 := eq_true p20
               replace q20 := eq_true q20
               try go_wp2_with (first | ((with_reducible refine gate_builtin (b := .append) (xs := #[.tmp 34, .tmp 39]) rfl ?_); at_builtin; refine Kd.R_append Kd.string (w0 := w) w.heap.size rfl (.tmp 34) (.tmp 39) 22 9 (.string ⟨#[]⟩) 16 rfl Try.underlying22 info9 rfl (by decide) (by omega) u3 x3_1 ((rdOf ByteArray.empty x4_1 ((rd_T64 l0_0 x14_1).f2)) ++ ((rd_T64 l0_0 x14_1).f0)) [.string ((rdOf ByteArray.empty x4_1 ((rd_T64 l0_0 x14_1).f2)) ++ ((rd_T64 l0_0 x14_1).f0))] (fun k_ => some k_ ≠ (.slice (some ⟨go17, 0, none⟩) x4_1.length co27 : Value).ownBlock) (fun _ => False) rfl (by first | (go_simp; done) | (go_simp; rfl)) ?aP (fun _ hk => hk.elim) ?aF ?aO ?aB ?aS ?aL ?_; (case aP => exact rfl); (case aB => exact (by repeat (first | (with_reducible first | exact HB.out | apply below_alloc | apply pw_below_drewN | apply below_drew1 | refine below_set ?_ GB17.out | refine below_set ?_ GE447.out | refine below_set ?_ GE452.out) | exact HB.out))); (case aF => exact (fun k_ hk => Kd.fresh' (Kd.R_lt (by (with_reducible repeat (first | apply Kd.R_alloc | apply Kd.R_drewN | apply Kd.R_drew)); exact HQ28.out)) k_ hk)); (case aO => exact (by (with_reducible repeat (first | apply Kd.R_alloc | apply Kd.R_drewN | apply Kd.R_drew)); exact Kd.R_mono (Kd.R_far (p := ⟨go17, (x14_1 : Int).toNat, none⟩) (Kd.R_mono HO_3.out (fun k_ hk => (⟨hk, fun e_ => hk (by rw [e_]; rfl)⟩ : _ ∧ k_ ≠ go17))) (fun _ hk => hk.2) (.string ((rdOf ByteArray.empty x4_1 ((rd_T64 l0_0 x14_1).f2)) ++ ((rd_T64 l0_0 x14_1).f0)))) (fun _ hk => hk.1))); (case aS => exact (below_size (by repeat (first | (with_reducible first | exact HB.out | apply below_alloc | apply pw_below_drewN | apply below_drew1 | refine below_set ?_ GB17.out | refine below_set ?_ GE447.out | refine below_set ?_ GE452.out) | exact HB.out)))); (case aL => have := LMc21.out; omega); intro v457 w30 ho hb hg hat; rw [← Ny456.out] at ho; have n0_ := aM (Kd.R_after (ok := (fun _ => True)) (by (with_reducible repeat (first | apply Kd.R_alloc | apply Kd.R_drewN | apply Kd.R_drew)); exact Kd.R_mono HQ28.out (fun _ hk => ⟨trivial, hk⟩)) hg hat); have n1_ := aM (blk_grown (g := gb447) (o := .cells #[.slice (some ad451) l0_0.length c0_0] 26 (0, 0)) (by (with_reducible repeat (first | refine blk_drewN ?_ _ | refine blk_drew ?_ | refine blk_alloc ?_ _)); refine blk_far ?_ (by have h_ := Kd.R_ne HO_4.out BK447.out (by decide); intro e_; exact h_ (by rw [e_]; rfl)) _; (with_reducible repeat (first | refine blk_drewN ?_ _ | refine blk_drew ?_ | refine blk_alloc ?_ _)); exact BK447.out) hg (Kd.R_ne HO_3.out BK447.out (by decide))); have n2_ := aM (blk_grown (g := gb452) (o := .cells #[.string ((rd_T64 l0_0 x14_1).f0), .bool true, .int .i64 ((rd_T64 l0_0 x14_1).f2)] 64 (0, 0)) (by (with_reducible repeat (first | refine blk_drewN ?_ _ | refine blk_drew ?_ | refine blk_alloc ?_ _)); refine blk_far ?_ (by have h_ := Kd.R_ne HO_4.out BK452.out (by decide); intro e_; exact h_ (by rw [e_]; rfl)) _; (with_reducible repeat (first | refine blk_drewN ?_ _ | refine blk_drew ?_ | refine blk_alloc ?_ _)); exact BK452.out) hg (Kd.R_ne HO_3.out BK452.out (by decide))); have n3_ := aM (hb); have n4_ := aM (ho); clear HO_4; clear BK447; clear BK452; clear HB; clear HO_3; have HO_4 := n0_; have BK447 := n1_; have BK452 := n2_; have HB := n3_; have HO458 := n4_; clear n0_ n1_ n2_ n3_ n4_; clear ho hb hg hat))
               go_roundg k1
               case measure => have := HK1.out; omega
               case rel => exact ⟨(y456), (y454), (wrap64 (x14_1 + 1)), (by first | rfl | (simp; done) | (simp [*]; done)), H', ⟨by have := HK1.out; omega⟩, ⟨by (with_reducible repeat (first | apply Kd.R_alloc | apply Kd.R_drewN | apply Kd.R_drew)); exact HO458.out⟩, ⟨by (with_reducible repeat (first | apply Kd.R_alloc | apply Kd.R_drewN | apply Kd.R_drew)); exact Kd.R_mono HO_4.out (fun _ hk => hk.2)⟩, ⟨by (with_reducible repeat (first | refine blk_drewN ?_ _ | refine blk_drew ?_ | refine blk_alloc ?_ _)); exact BK447.out⟩, ⟨by repeat (first | (with_reducible first | exact HB.out | apply below_alloc | apply pw_below_drewN | apply below_drew1 | refine below_set ?_ GE447.out | refine below_set ?_ GE452.out) | exact HB.out)⟩⟩
              ·
               rw [if_neg c21] at H
               exact absurd H (by simp)
             ·
              replace c19 := Bool.eq_false_iff.mpr c19
              subst c19
              have H1 : (spec_l13Names.l0 k1 x3_1 y454 l0_0 (l0_0.length : Int) (wrap64 (x14_1 + 1))) = some r := by rw [if_neg (show ¬ (false = true) by decide)] at H; exact H
              clear H
              have H := H1
              clear H1
              have H' := aM H
              clear H
              have p451 : 0 ≤ (x14_1 : Int) := of_decide_eq_true (by first | (with_reducible assumption) | assumption)
              have q451 : x14_1 < (l0_0.length : Int) := of_decide_eq_true (by first | (with_reducible assumption) | assumption)
              obtain ⟨ad451, e451, hx451_0, hx451_1, hx451_2⟩ := at_T64 HR0_0.out x14_1 p451 q451
              (try rw [← Nbq18.out] at hx451_1)
              cases e451
              try have hz_hx451_0 := aM hx451_0
              try have hz_hx451_1 := aM hx451_1
              try have hz_hx451_2 := aM hx451_2
              replace hx451_0 := (HB.out.cell (World.block_lt_of_cell? w _ hx451_0)).trans hx451_0
              replace hx451_1 := (HB.out.cell (World.block_lt_of_cell? w _ hx451_1)).trans hx451_1
              replace hx451_2 := (HB.out.cell (World.block_lt_of_cell? w _ hx451_2)).trans hx451_2
              replace p451 := eq_true p451
              replace q451 := eq_true q451
              try go_wp2_with (first | ((with_reducible refine gate_dst (N := 6) rfl ?_); refine box_event ?hg (N := 6) ?hd (cs := #[.string (⟨#[]⟩ : ByteArray), .bool false, .int .i64 0]) (t := 64) ?hr ?_; (case hd => rfl); (case hg => rfl); (case hr => first | (go_simp; done) | (go_simp; rfl)); intro gb452 hg w31 hbox hb; have n0_ := aM (Kd.R_below (by (with_reducible repeat (first | apply Kd.R_alloc | apply Kd.R_drewN | apply Kd.R_drew)); exact HO_3.out) hb); have n1_ := aM (Kd.R_below (by (with_reducible repeat (first | apply Kd.R_alloc | apply Kd.R_drewN | apply Kd.R_drew)); exact HO_4.out) hb); have n2_ := aM (blk_below (g := gb447) (o := .cells #[.slice (some ad451) l0_0.length c0_0] 26 (0, 0)) (by (with_reducible repeat (first | refine blk_drewN ?_ _ | refine blk_drew ?_ | refine blk_alloc ?_ _)); exact BK447.out) hb); have n3_ := aM (below_step (by repeat (first | (with_reducible first | exact HB.out | apply below_alloc | apply pw_below_drewN | apply below_drew1 | refine below_set ?_ GE447.out) | exact HB.out)) hb); have n4_ := aM (hbox); have n5_ := aM ((by rw [hg]; exact (below_size (by repeat (first | (with_reducible first | exact HB.out | apply below_alloc | apply pw_below_drewN | apply below_drew1 | refine below_set ?_ GE447.out) | exact HB.out))) : w.heap.size ≤ gb452)); have n6_ := aM ((by rw [hg]; exact (below_size (by repeat (first | (with_reducible first | exact HB.out | apply below_alloc | apply pw_below_drewN | apply below_drew1 | refine below_set ?_ GE447.out) | exact HB.out))) : w.heap.size ≤ gb452)); have n7_ := aM ((by rw [hg]; exact Nat.ne_of_lt (blk_lt (g := gb447) (o := .cells #[.slice (some ad451) l0_0.length c0_0] 26 (0, 0)) (by (with_reducible repeat (first | refine blk_drewN ?_ _ | refine blk_drew ?_ | refine blk_alloc ?_ _)); exact BK447.out)) : gb447 ≠ gb452)); have n8_ := aM ((by rw [hg]; exact Nat.ne_of_gt (blk_lt (g := gb447) (o := .cells #[.slice (some ad451) l0_0.length c0_0] 26 (0, 0)) (by (with_reducible repeat (first | refine blk_drewN ?_ _ | refine blk_drew ?_ | refine blk_alloc ?_ _)); exact BK447.out)) : gb452 ≠ gb447)); clear HO_3; clear HO_4; clear BK447; clear HB; have HO_3 := n0_; have HO_4 := n1_; have BK447 := n2_; have HB := n3_; have BK452 := n4_; have GW452 := n5_; have GE452 := n6_; have NB447_452 := n7_; have NB452_447 := n8_; clear n0_ n1_ n2_ n3_ n4_ n5_ n6_ n7_ n8_; clear hb hbox hg; have hnb32 := NB452_447.out; have hnc32 := NB447_452.out; have hcz33_0 : w31.cell? ⟨gb452, 0, none⟩ = some (.string (⟨#[]⟩ : ByteArray)) := (blk_cell BK452.out 0).trans rfl; have hcz33_1 : w31.cell? ⟨gb452, 1, none⟩ = some (.bool false) := (blk_cell BK452.out 1).trans rfl; have hcz33_2 : w31.cell? ⟨gb452, 2, none⟩ = some (.int .i64 0) := (blk_cell BK452.out 2).trans rfl; have hfz33_0 := blk_frozen BK452.out 0; have hfz33_1 := blk_frozen BK452.out 1; have hfz33_2 := blk_frozen BK452.out 2))
              have n0_ : Aside0 (Kd.R Kd.string 9 (((w31.setCell ⟨gb452, 0, none⟩ (.string ((rd_T64 l0_0 x14_1).f0))).setCell ⟨gb452, 1, none⟩ (.bool false)).setCell ⟨gb452, 2, none⟩ (.int .i64 ((rd_T64 l0_0 x14_1).f2))) w.heap.size (fun k_ => some k_ ≠ (v449 : Value).ownBlock) u3 x3_1) := ⟨by (with_reducible repeat (first | apply Kd.R_alloc | apply Kd.R_drewN | apply Kd.R_drew)); exact Kd.R_mono (Kd.R_far (p := ⟨gb452, 2, none⟩) (Kd.R_far (p := ⟨gb452, 1, none⟩) (Kd.R_far (p := ⟨gb452, 0, none⟩) (Kd.R_types HO_3.out BK452.out (by decide)) (fun _ hk => hk.2) (.string ((rd_T64 l0_0 x14_1).f0))) (fun _ hk => hk.2) (.bool false)) (fun _ hk => hk.2) (.int .i64 ((rd_T64 l0_0 x14_1).f2))) (fun _ hk => hk.1)⟩
              have n1_ : Aside0 (Kd.R Kd.string 9 (((w31.setCell ⟨gb452, 0, none⟩ (.string ((rd_T64 l0_0 x14_1).f0))).setCell ⟨gb452, 1, none⟩ (.bool false)).setCell ⟨gb452, 2, none⟩ (.int .i64 ((rd_T64 l0_0 x14_1).f2))) w.heap.size (fun k_ => some k_ ≠ (u3 : Value).ownBlock) v449 x4_1) := ⟨by (with_reducible repeat (first | apply Kd.R_alloc | apply Kd.R_drewN | apply Kd.R_drew)); exact Kd.R_mono (Kd.R_far (p := ⟨gb452, 2, none⟩) (Kd.R_far (p := ⟨gb452, 1, none⟩) (Kd.R_far (p := ⟨gb452, 0, none⟩) (Kd.R_types HO_4.out BK452.out (by decide)) (fun _ hk => hk.2) (.string ((rd_T64 l0_0 x14_1).f0))) (fun _ hk => hk.2) (.bool false)) (fun _ hk => hk.2) (.int .i64 ((rd_T64 l0_0 x14_1).f2))) (fun _ hk => hk.1)⟩
              have n2_ : Aside0 ((((w31.setCell ⟨gb452, 0, none⟩ (.string ((rd_T64 l0_0 x14_1).f0))).setCell ⟨gb452, 1, none⟩ (.bool false)).setCell ⟨gb452, 2, none⟩ (.int .i64 ((rd_T64 l0_0 x14_1).f2))).heap[gb447]? = some (.cells #[.slice (some ad451) l0_0.length c0_0] 26 (0, 0))) := ⟨by (with_reducible repeat (first | refine blk_drewN ?_ _ | refine blk_drew ?_ | refine blk_alloc ?_ _)); refine blk_far ?_ NB447_452.out _; (with_reducible repeat (first | refine blk_drewN ?_ _ | refine blk_drew ?_ | refine blk_alloc ?_ _)); refine blk_far ?_ NB447_452.out _; (with_reducible repeat (first | refine blk_drewN ?_ _ | refine blk_drew ?_ | refine blk_alloc ?_ _)); refine blk_far ?_ NB447_452.out _; (with_reducible repeat (first | refine blk_drewN ?_ _ | refine blk_drew ?_ | refine blk_alloc ?_ _)); exact BK447.out⟩
              have n3_ : Aside0 ((((w31.setCell ⟨gb452, 0, none⟩ (.string ((rd_T64 l0_0 x14_1).f0))).setCell ⟨gb452, 1, none⟩ (.bool false)).setCell ⟨gb452, 2, none⟩ (.int .i64 ((rd_T64 l0_0 x14_1).f2))).heap[gb452]? = some (.cells #[.string ((rd_T64 l0_0 x14_1).f0), .bool false, .int .i64 ((rd_T64 l0_0 x14_1).f2)] 64 (0, 0))) := ⟨by (with_reducible repeat (first | refine blk_drewN ?_ _ | refine blk_drew ?_ | refine blk_alloc ?_ _)); refine blk_put (cs := #[.string ((rd_T64 l0_0 x14_1).f0), .bool false, .int .i64 0]) ?_ 2 _ rfl; (with_reducible repeat (first | refine blk_drewN ?_ _ | refine blk_drew ?_ | refine blk_alloc ?_ _)); refine blk_put (cs := #[.string ((rd_T64 l0_0 x14_1).f0), .bool false, .int .i64 0]) ?_ 1 _ rfl; (with_reducible repeat (first | refine blk_drewN ?_ _ | refine blk_drew ?_ | refine blk_alloc ?_ _)); refine blk_put (cs := #[.string (⟨#[]⟩ : ByteArray), .bool false, .int .i64 0]) ?_ 0 _ rfl; (with_reducible repeat (first | refine blk_drewN ?_ _ | refine blk_drew ?_ | refine blk_alloc ?_ _)); exact BK452.out⟩
              have n4_ : Aside0 (Below w.heap.size w (((w31.setCell ⟨gb452, 0, none⟩ (.string ((rd_T64 l0_0 x14_1).f0))).setCell ⟨gb452, 1, none⟩ (.bool false)).setCell ⟨gb452, 2, none⟩ (.int .i64 ((rd_T64 l0_0 x14_1).f2)))) := ⟨by repeat (first | (with_reducible first | exact HB.out | apply below_alloc | apply pw_below_drewN | apply below_drew1 | refine below_set ?_ GE447.out | refine below_set ?_ GE452.out) | exact HB.out)⟩
              (try clear HO_3)
              (try clear HO_4)
              (try clear BK447)
              (try clear BK452)
              (try clear HB)
              generalize (((w31.setCell ⟨gb452, 0, none⟩ (.string ((rd_T64 l0_0 x14_1).f0))).setCell ⟨gb452, 1, none⟩ (.bool false)).setCell ⟨gb452, 2, none⟩ (.int .i64 ((rd_T64 l0_0 x14_1).f2))) = w34 at n0_ n1_ n2_ n3_ n4_ ⊢
              have HO_3 := n0_
              have HO_4 := n1_
              have BK447 := n2_
              have BK452 := n3_
              have HB := n4_
              clear n0_ n1_ n2_ n3_ n4_
              have n0_ := aM (Kd.R_drew HO_3.out)
              have n1_ := aM (Kd.R_drew HO_4.out)
              have n2_ := aM (blk_drew BK447.out)
              have n3_ := aM (blk_drew BK452.out)
              have n4_ := aM (below_drew1 HB.out)
              clear HO_3
              clear HO_4
              clear BK447
              clear BK452
              clear HB
              have HO_3 := n0_
              have HO_4 := n1_
              have BK447 := n2_
              have BK452 := n3_
              have HB := n4_
              clear n0_ n1_ n2_ n3_ n4_
              obtain ⟨Ao36, co36, eo36⟩ := Kd.R_slice HO_4.out
              (first | subst eo36 | (injection eo36 with f1_ f2_ f3_; have f4_ := f1_.symm; have f5_ := f3_.symm; clear f1_ f2_ f3_; subst f4_; subst f5_))
              have p453 : 0 ≤ (((rd_T64 l0_0 x14_1).f2) : Int) := of_decide_eq_true (by first | (with_reducible assumption) | assumption)
              have q453 : ((rd_T64 l0_0 x14_1).f2) < (x4_1.length : Int) := of_decide_eq_true (by first | (with_reducible assumption) | assumption)
              obtain ⟨ad453, e453, hx453_0⟩ := Kd.at_string (Kd.R_reads' HO_4.out).2.2 ((rd_T64 l0_0 x14_1).f2) p453 q453
              cases e453
              replace p453 := eq_true p453
              replace q453 := eq_true q453
              have p17 : 0 ≤ (x14_1 : Int) := of_decide_eq_true (by first | (with_reducible assumption) | assumption)
              have q17 : (x14_1 : Int) < ((x4_1.length : Int) : Int) := of_decide_eq_true (by first | (with_reducible assumption) | assumption)
              obtain ⟨go17, co17, eo17, gb17, gl17, cl17, HG17⟩ := Kd.R_form HO_4.out (by omega)
              (first | cases eo17 | (injection eo17 with ea_ en_ ec_; (first | subst ea_ | (injection ea_ with ea_; subst ea_)); subst ec_; clear en_))
              have GB17 := aM gb17
              have GG17 := aM HG17
              clear gb17 gl17 HG17
              (first | simp only [add_plain] at hx453_0 | skip)
              obtain ⟨hx17_0, hf17_0⟩ := Kd.R_celln (⟨#[]⟩ : ByteArray) HO_4.out (x14_1 : Int) p17 q17
              replace p17 := eq_true p17
              replace q17 := eq_true q17
              have HP37 := Kd.R_putn HO_4.out (x14_1 : Int) ((rdOf ByteArray.empty x4_1 ((rd_T64 l0_0 x14_1).f2)) ++ ((rd_T64 l0_0 x14_1).f0))
              rw [← Ny454.out] at HP37
              have HQ37 := aM HP37
              clear HP37
              refine start_ (n := 12) (S := fun w' => w'.cell? ⟨gb452, 0, none⟩ = some (.string ((rd_T64 l0_0 x14_1).f0)) ∧ w'.cell? ⟨gb452, 1, none⟩ = some (.bool false) ∧ w'.cell? ⟨gb452, 2, none⟩ = some (.int .i64 ((rd_T64 l0_0 x14_1).f2)) ∧ w'.cell? ⟨go17, (((rd_T64 l0_0 x14_1).f2)).toNat, none⟩ = some (.string (rdOf ByteArray.empty x4_1 ((rd_T64 l0_0 x14_1).f2)))) (ds := [11]) (bq 12 0) (by kernel_rfl) rfl (by kernel_rfl) ⟨(blk_cell BK452.out 0).trans rfl, (blk_cell BK452.out 1).trans rfl, (blk_cell BK452.out 2).trans rfl, hx453_0⟩ (fun hHeld => ?_); refine with_tabW spec_l13Names.tab7 spec_l13Names.bits7 (fun HT_ HW_ => ?_)
              generalize w34.drew = w35 at HO_3 HO_4 BK447 BK452 HB GG17 HQ37 hf17_0 hx17_0 hx453_0 hHeld ⊢
              refine pure_ (i := 0) (N := some 21) (v := ?_) (a' := ?_) (bq 12 1) rfl rfl (any_of HT_.out (by kernel_rfl)) (fun _ _ _ h => h) (Or.inl ⟨by rfl, ?_⟩) ?_ ?_; rotate_left; (intro w'; go_simp; (with_reducible rfl)); rotate_left; (simp only [Act.put, zSA, zSB, zSC, i64_w, i32_w]; rfl)
              refine pure_ (i := 1) (N := some 22) (v := ?_) (a' := ?_) (bq 12 3) rfl rfl (any_of HT_.out (by kernel_rfl)) (fun _ _ _ h => h) (Or.inl ⟨by rfl, ?_⟩) ?_ ?_; rotate_left; (intro w'; go_simp; (with_reducible rfl)); rotate_left; (simp only [Act.put, zSA, zSB, zSC, i64_w, i32_w]; rfl)
              refine pure_ (i := 2) (N := some 23) (v := ?_) (a' := ?_) (bq 12 7) rfl rfl (any_of HT_.out (by kernel_rfl)) (fun _ _ _ h => h) (Or.inl ⟨by rfl, ?_⟩) ?_ ?_; rotate_left; (intro w'; go_simp; (with_reducible rfl)); rotate_left; (simp only [Act.put, zSA, zSB, zSC, i64_w, i32_w]; rfl)
              refine pure_ (i := 3) (N := some 24) (v := ?_) (a' := ?_) (bq 12 15) rfl rfl (any_of HT_.out (by kernel_rfl)) (fun _ _ _ h => h) (Or.inl ⟨by rfl, ?_⟩) ?_ ?_; rotate_left; (intro w'; go_simp; (with_reducible rfl)); rotate_left; (simp only [Act.put, zSA, zSB, zSC, i64_w, i32_w]; rfl)
              refine pure_ (i := 7) (N := some 28) (v := ?_) (a' := ?_) (bq 12 143) rfl rfl (any_of HT_.out (by kernel_rfl)) (fun _ _ _ h => h) (Or.inl ⟨by rfl, ?_⟩) ?_ ?_; rotate_left; (intro w'; go_simp; (with_reducible rfl)); rotate_left; (simp only [Act.put, zSA, zSB, zSC, i64_w, i32_w]; rfl)
              refine take_ (i := 4) (N := some 25) (v := ?_) (a' := ?_) (bq 12 159) rfl rfl (take_ofW HT_.out HW_.out (by kernel_rfl)) (fun _ _ _ h => h) (Or.inl ⟨by rfl, ?_⟩) hHeld ?_ ?_; rotate_left; (rintro w' ⟨s0, s1, s2, s3⟩; go_simp; (with_reducible rfl)); rotate_left; (simp only [Act.put, zSA, zSB, zSC, i64_w, i32_w]; rfl)
              refine pure_ (i := 5) (N := some 26) (v := ?_) (a' := ?_) (bq 12 191) rfl rfl (any_of HT_.out (by kernel_rfl)) (fun _ _ _ h => h) (Or.inl ⟨by rfl, ?_⟩) ?_ ?_; rotate_left; (intro w'; go_simp; (with_reducible rfl)); rotate_left; (simp only [Act.put, zSA, zSB, zSC, i64_w, i32_w]; rfl)
              refine take_ (i := 6) (N := some 27) (v := ?_) (a' := ?_) (bq 12 255) rfl rfl (take_ofW HT_.out HW_.out (by kernel_rfl)) (fun _ _ _ h => h) (Or.inl ⟨by rfl, ?_⟩) hHeld ?_ ?_; rotate_left; (rintro w' ⟨s0, s1, s2, s3⟩; go_simp; (with_reducible rfl)); rotate_left; (simp only [Act.put, zSA, zSB, zSC, i64_w, i32_w]; rfl)
              refine take_ (i := 8) (N := some 29) (v := ?_) (a' := ?_) (bq 12 511) rfl rfl (take_ofW HT_.out HW_.out (by kernel_rfl)) (fun _ _ _ h => h) (Or.inl ⟨by rfl, ?_⟩) hHeld ?_ ?_; rotate_left; (rintro w' ⟨s0, s1, s2, s3⟩; go_simp; (with_reducible rfl)); rotate_left; (simp only [Act.put, zSA, zSB, zSC, i64_w, i32_w]; rfl)
              refine pure_ (i := 9) (N := some 30) (v := ?_) (a' := ?_) (bq 12 1023) rfl rfl (any_of HT_.out (by kernel_rfl)) (fun _ _ _ h => h) (Or.inl ⟨by rfl, ?_⟩) ?_ ?_; rotate_left; (intro w'; go_simp; (with_reducible rfl)); rotate_left; (simp only [Act.put, zSA, zSB, zSC, i64_w, i32_w]; rfl)
              refine pure_ (i := 10) (N := some 31) (v := ?_) (a' := ?_) (bq 12 2047) rfl rfl (any_of HT_.out (by kernel_rfl)) (fun _ _ _ h => h) (Or.inl ⟨by rfl, ?_⟩) ?_ ?_; rotate_left; (intro w'; go_simp; (with_reducible rfl)); rotate_left; (simp only [Act.put, zSA, zSB, zSC, i64_w, i32_w]; rfl)
              refine last_ (i := 11) (N := none) #[true, true, true, true, true, true, true, true, true, true, true, true] rfl rfl (one_of HT_.out (by kernel_rfl)) (by decide) (fun K hK => ?_)
              refine skip_ (w1 := ?_) (by rfl) rfl ?_ ?_
              rotate_left
              ·
               go_simp
               rfl
              refine hK.out _ _ ?_
              clear hK K
              refine done_ (done_of HT_.out (by kernel_rfl)) ?_
              try have hnz38 : ¬ gb452 = go17 := fun e_ => Kd.R_ne HO_4.out BK452.out (by decide) (by rw [e_]; rfl)
              try have hmz38 : ¬ go17 = gb452 := fun e_ => hnz38 e_.symm
              have hcz38_0 : w35.cell? ⟨gb452, 0, none⟩ = some (.string ((rd_T64 l0_0 x14_1).f0)) := (blk_cell BK452.out 0).trans rfl
              have hcz38_1 : w35.cell? ⟨gb452, 1, none⟩ = some (.bool false) := (blk_cell BK452.out 1).trans rfl
              have hcz38_2 : w35.cell? ⟨gb452, 2, none⟩ = some (.int .i64 ((rd_T64 l0_0 x14_1).f2)) := (blk_cell BK452.out 2).trans rfl
              have hfz38_0 := blk_frozen BK452.out 0
              have hfz38_1 := blk_frozen BK452.out 1
              have hfz38_2 := blk_frozen BK452.out 2
              try go_wp2
              go_roundg k1
              case measure => have := HK1.out; omega
              case rel => exact ⟨(x3_1), (y454), (wrap64 (x14_1 + 1)), (by first | rfl | (simp; done) | (simp [*]; done)), H', ⟨by have := HK1.out; omega⟩, ⟨by (with_reducible repeat (first | apply Kd.R_alloc | apply Kd.R_drewN | apply Kd.R_drew)); exact Kd.R_mono (Kd.R_far (p := ⟨go17, (x14_1 : Int).toNat, none⟩) (Kd.R_mono HO_3.out (fun k_ hk => (⟨hk, fun e_ => hk (by rw [e_]; rfl)⟩ : _ ∧ k_ ≠ go17))) (fun _ hk => hk.2) (.string ((rdOf ByteArray.empty x4_1 ((rd_T64 l0_0 x14_1).f2)) ++ ((rd_T64 l0_0 x14_1).f0)))) (fun _ hk => hk.1)⟩, ⟨by (with_reducible repeat (first | apply Kd.R_alloc | apply Kd.R_drewN | apply Kd.R_drew)); exact HQ37.out⟩, ⟨by (with_reducible repeat (first | refine blk_drewN ?_ _ | refine blk_drew ?_ | refine blk_alloc ?_ _)); refine blk_far ?_ (by have h_ := Kd.R_ne HO_4.out BK447.out (by decide); intro e_; exact h_ (by rw [e_]; rfl)) _; (with_reducible repeat (first | refine blk_drewN ?_ _ | refine blk_drew ?_ | refine blk_alloc ?_ _)); exact BK447.out⟩, ⟨by repeat (first | (with_reducible first | exact HB.out | apply below_alloc | apply pw_below_drewN | apply below_drew1 | refine below_set ?_ GB17.out | refine below_set ?_ GE447.out | refine below_set ?_ GE452.out) | exact HB.out)⟩⟩
            ·
             rw [if_neg c16] at H
             exact absurd H (by simp)
           ·
            rw [if_neg c15] at H
            exact absurd H (by simp)
          ·
           rw [if_neg c14] at H
           exact absurd H (by simp)
         ·
          rw [if_neg c13] at H
          exact absurd H (by simp)
        ·
         rw [if_neg c12] at H
         have c12b0 : decide (0 < x14_1) = false := decide_eq_false c12
         clear c12
         obtain ⟨bq39, hbq39⟩ : ∃ b_ : Bool, b_ = ((rd_T64 l0_0 x14_1).f1) := ⟨_, rfl⟩
         replace H : (if bq39 = true then (if x14_1 < (x4_1.length : Int) then (if x3_1.length < 8796093022208 then (spec_l13Names.l0 k1 (x3_1 ++ [rdOf ByteArray.empty x4_1 x14_1]) x4_1 l0_0 (l0_0.length : Int) (wrap64 (x14_1 + 1))) else (none)) else (none)) else (spec_l13Names.l0 k1 x3_1 x4_1 l0_0 (l0_0.length : Int) (wrap64 (x14_1 + 1)))) = some r := by rw [← hbq39] at H; exact H
         have Nbq39 := aM hbq39
         clear hbq39
         by_cases c40 : bq39 = true
         ·
          subst c40
          have H1 : (if x14_1 < (x4_1.length : Int) then (if x3_1.length < 8796093022208 then (spec_l13Names.l0 k1 (x3_1 ++ [rdOf ByteArray.empty x4_1 x14_1]) x4_1 l0_0 (l0_0.length : Int) (wrap64 (x14_1 + 1))) else (none)) else (none)) = some r := by rw [if_pos rfl] at H; exact H
          clear H
          have H := H1
          clear H1
          by_cases c41 : x14_1 < (x4_1.length : Int)
          ·
           rw [if_pos c41] at H
           have c41b0 : decide (x14_1 < (x4_1.length : Int)) = true := decide_eq_true c41
           clear c41
           by_cases c42 : x3_1.length < 8796093022208
           ·
            rw [if_pos c42] at H
            have LMc42 := aM c42
            clear c42
            obtain ⟨y460, hy460⟩ : ∃ y_ : List ByteArray, y_ = (x3_1 ++ [rdOf ByteArray.empty x4_1 x14_1]) := ⟨_, rfl⟩
            replace H : (spec_l13Names.l0 k1 y460 x4_1 l0_0 (l0_0.length : Int) (wrap64 (x14_1 + 1))) = some r := by first | (rw [hy460]; with_reducible exact H) | (have H2_ := (Option.bind_some _ _).symm.trans H; rw [hy460]; with_reducible exact H2_) | (have H2_ := (Option.bind_some _ _).symm.trans H; with_reducible exact H2_) | with_reducible exact H | (rw [hy460]; exact H) | exact H
            have Ny460 := aM hy460
            clear hy460
            have H' := aM H
            clear H
            have p451 : 0 ≤ (x14_1 : Int) := of_decide_eq_true (by first | (with_reducible assumption) | assumption)
            have q451 : x14_1 < (l0_0.length : Int) := of_decide_eq_true (by first | (with_reducible assumption) | assumption)
            obtain ⟨ad451, e451, hx451_0, hx451_1, hx451_2⟩ := at_T64 HR0_0.out x14_1 p451 q451
            (try rw [← Nbq39.out] at hx451_1)
            cases e451
            try have hz_hx451_0 := aM hx451_0
            try have hz_hx451_1 := aM hx451_1
            try have hz_hx451_2 := aM hx451_2
            replace hx451_0 := (HB.out.cell (World.block_lt_of_cell? w _ hx451_0)).trans hx451_0
            replace hx451_1 := (HB.out.cell (World.block_lt_of_cell? w _ hx451_1)).trans hx451_1
            replace hx451_2 := (HB.out.cell (World.block_lt_of_cell? w _ hx451_2)).trans hx451_2
            replace p451 := eq_true p451
            replace q451 := eq_true q451
            go_wp2_with (first | ((with_reducible refine gate_dst (N := 6) rfl ?_); refine box_event ?hg (N := 6) ?hd (cs := #[.string (⟨#[]⟩ : ByteArray), .bool false, .int .i64 0]) (t := 64) ?hr ?_; (case hd => rfl); (case hg => rfl); (case hr => first | (go_simp; done) | (go_simp; rfl)); intro gb452 hg w43 hbox hb; have n0_ := aM (Kd.R_below (by (with_reducible repeat (first | apply Kd.R_alloc | apply Kd.R_drewN | apply Kd.R_drew)); exact HO_3.out) hb); have n1_ := aM (Kd.R_below (by (with_reducible repeat (first | apply Kd.R_alloc | apply Kd.R_drewN | apply Kd.R_drew)); exact HO_4.out) hb); have n2_ := aM (blk_below (g := gb447) (o := .cells #[.slice (some ad451) l0_0.length c0_0] 26 (0, 0)) (by (with_reducible repeat (first | refine blk_drewN ?_ _ | refine blk_drew ?_ | refine blk_alloc ?_ _)); exact BK447.out) hb); have n3_ := aM (below_step (by repeat (first | (with_reducible first | exact HB.out | apply below_alloc | apply pw_below_drewN | apply below_drew1 | refine below_set ?_ GE447.out) | exact HB.out)) hb); have n4_ := aM (hbox); have n5_ := aM ((by rw [hg]; exact (below_size (by repeat (first | (with_reducible first | exact HB.out | apply below_alloc | apply pw_below_drewN | apply below_drew1 | refine below_set ?_ GE447.out) | exact HB.out))) : w.heap.size ≤ gb452)); have n6_ := aM ((by rw [hg]; exact (below_size (by repeat (first | (with_reducible first | exact HB.out | apply below_alloc | apply pw_below_drewN | apply below_drew1 | refine below_set ?_ GE447.out) | exact HB.out))) : w.heap.size ≤ gb452)); have n7_ := aM ((by rw [hg]; exact Nat.ne_of_lt (blk_lt (g := gb447) (o := .cells #[.slice (some ad451) l0_0.length c0_0] 26 (0, 0)) (by (with_reducible repeat (first | refine blk_drewN ?_ _ | refine blk_drew ?_ | refine blk_alloc ?_ _)); exact BK447.out)) : gb447 ≠ gb452)); have n8_ := aM ((by rw [hg]; exact Nat.ne_of_gt (blk_lt (g := gb447) (o := .cells #[.slice (some ad451) l0_0.length c0_0] 26 (0, 0)) (by (with_reducible repeat (first | refine blk_drewN ?_ _ | refine blk_drew ?_ | refine blk_alloc ?_ _)); exact BK447.out)) : gb452 ≠ gb447)); clear HO_3; clear HO_4; clear BK447; clear HB; have HO_3 := n0_; have HO_4 := n1_; have BK447 := n2_; have HB := n3_; have BK452 := n4_; have GW452 := n5_; have GE452 := n6_; have NB447_452 := n7_; have NB452_447 := n8_; clear n0_ n1_ n2_ n3_ n4_ n5_ n6_ n7_ n8_; clear hb hbox hg; have hnb44 := NB452_447.out; have hnc44 := NB447_452.out; have hcz45_0 : w43.cell? ⟨gb452, 0, none⟩ = some (.string (⟨#[]⟩ : ByteArray)) := (blk_cell BK452.out 0).trans rfl; have hcz45_1 : w43.cell? ⟨gb452, 1, none⟩ = some (.bool false) := (blk_cell BK452.out 1).trans rfl; have hcz45_2 : w43.cell? ⟨gb452, 2, none⟩ = some (.int .i64 0) := (blk_cell BK452.out 2).trans rfl; have hfz45_0 := blk_frozen BK452.out 0; have hfz45_1 := blk_frozen BK452.out 1; have hfz45_2 := blk_frozen BK452.out 2; obtain ⟨Ao46, co46, eo46⟩ := Kd.R_slice HO_4.out; subst eo46; have p459 : 0 ≤ (x14_1 : Int) := of_decide_eq_true (by first | (with_reducible assumption) | assumption); have q459 : x14_1 < (x4_1.length : Int) := of_decide_eq_true (by first | (with_reducible assumption) | assumption); obtain ⟨ad459, e459, hx459_0⟩ := Kd.at_string (Kd.R_reads' HO_4.out).2.2 x14_1 p459 q459; cases e459; have hn459_0 : ad459.block ≠ gb452 := (by first | exact Kd.own_blk (Kd.R_ne HO_4.out BK452.out (by decide)) | exact (HO_4.out.1 _ rfl).2); have hn459_1 : ad459.block ≠ gb452 := (by first | exact Kd.own_blk (Kd.R_ne HO_4.out BK452.out (by decide)) | exact (HO_4.out.1 _ rfl).2); have hn459_2 : ad459.block ≠ gb452 := (by first | exact Kd.own_blk (Kd.R_ne HO_4.out BK452.out (by decide)) | exact (HO_4.out.1 _ rfl).2); replace hx459_0 := (cell_far (p := ⟨gb452, 0, none⟩) (by first | (rw [add_block]; exact hn459_0) | (show (Addr.add _ _).block ≠ _; rw [add_block]; exact hn459_0) | exact hn459_0) (.string ((rd_T64 l0_0 x14_1).f0))).trans hx459_0; replace hx459_0 := (cell_far (p := ⟨gb452, 1, none⟩) (by first | (rw [add_block]; exact hn459_1) | (show (Addr.add _ _).block ≠ _; rw [add_block]; exact hn459_1) | exact hn459_1) (.bool true)).trans hx459_0; replace hx459_0 := (cell_far (p := ⟨gb452, 2, none⟩) (by first | (rw [add_block]; exact hn459_2) | (show (Addr.add _ _).block ≠ _; rw [add_block]; exact hn459_2) | exact hn459_2) (.int .i64 ((rd_T64 l0_0 x14_1).f2))).trans hx459_0; clear hn459_0; clear hn459_1; clear hn459_2; replace p459 := eq_true p459; replace q459 := eq_true q459) | ((with_reducible refine gate_builtin (b := .append) (xs := #[.tmp 34, .tmp 39]) rfl ?_); at_builtin; refine Kd.R_append Kd.string (w0 := w) w.heap.size rfl (.tmp 34) (.tmp 39) 22 9 (.string ⟨#[]⟩) 16 rfl Try.underlying22 info9 rfl (by decide) (by omega) u3 x3_1 (rdOf ByteArray.empty x4_1 x14_1) [.string (rdOf ByteArray.empty x4_1 x14_1)] (fun k_ => some k_ ≠ (.slice (some ad459) x4_1.length co46 : Value).ownBlock) (fun _ => False) rfl (by first | (go_simp; done) | (go_simp; rfl)) ?aP (fun _ hk => hk.elim) ?aF ?aO ?aB ?aS ?aL ?_; (case aP => exact rfl); (case aB => exact (by repeat (first | (with_reducible first | exact HB.out | apply below_alloc | apply pw_below_drewN | apply below_drew1 | refine below_set ?_ GE447.out | refine below_set ?_ GE452.out) | exact HB.out))); (case aF => exact (fun k_ hk => Kd.fresh' (Kd.R_lt (by (with_reducible repeat (first | apply Kd.R_alloc | apply Kd.R_drewN | apply Kd.R_drew)); exact (Kd.R_mono (Kd.R_far (p := ⟨gb452, 2, none⟩) (Kd.R_far (p := ⟨gb452, 1, none⟩) (Kd.R_far (p := ⟨gb452, 0, none⟩) (Kd.R_types HO_4.out BK452.out (by decide)) (fun _ hk => hk.2) (.string ((rd_T64 l0_0 x14_1).f0))) (fun _ hk => hk.2) (.bool true)) (fun _ hk => hk.2) (.int .i64 ((rd_T64 l0_0 x14_1).f2))) (fun _ h_ => h_.1)))) k_ hk)); (case aO => exact (by (with_reducible repeat (first | apply Kd.R_alloc | apply Kd.R_drewN | apply Kd.R_drew)); exact Kd.R_mono (Kd.R_far (p := ⟨gb452, 2, none⟩) (Kd.R_far (p := ⟨gb452, 1, none⟩) (Kd.R_far (p := ⟨gb452, 0, none⟩) (Kd.R_types HO_3.out BK452.out (by decide)) (fun _ hk => hk.2) (.string ((rd_T64 l0_0 x14_1).f0))) (fun _ hk => hk.2) (.bool true)) (fun _ hk => hk.2) (.int .i64 ((rd_T64 l0_0 x14_1).f2))) (fun _ hk => hk.1))); (case aS => exact (below_size (by repeat (first | (with_reducible first | exact HB.out | apply below_alloc | apply pw_below_drewN | apply below_drew1 | refine below_set ?_ GE447.out | refine below_set ?_ GE452.out) | exact HB.out)))); (case aL => have := LMc42.out; omega); intro v461 w47 ho hb hg hat; rw [← Ny460.out] at ho; have n0_ := aM (Kd.R_after (ok := (fun _ => True)) (by (with_reducible repeat (first | apply Kd.R_alloc | apply Kd.R_drewN | apply Kd.R_drew)); exact Kd.R_mono (Kd.R_far (p := ⟨gb452, 2, none⟩) (Kd.R_far (p := ⟨gb452, 1, none⟩) (Kd.R_far (p := ⟨gb452, 0, none⟩) (Kd.R_types HO_4.out BK452.out (by decide)) (fun _ hk => hk.2) (.string ((rd_T64 l0_0 x14_1).f0))) (fun _ hk => hk.2) (.bool true)) (fun _ hk => hk.2) (.int .i64 ((rd_T64 l0_0 x14_1).f2))) (fun _ hk => ⟨trivial, hk.1⟩)) hg hat); have n1_ := aM (blk_grown (g := gb447) (o := .cells #[.slice (some ad451) l0_0.length c0_0] 26 (0, 0)) (by (with_reducible repeat (first | refine blk_drewN ?_ _ | refine blk_drew ?_ | refine blk_alloc ?_ _)); refine blk_far ?_ NB447_452.out _; (with_reducible repeat (first | refine blk_drewN ?_ _ | refine blk_drew ?_ | refine blk_alloc ?_ _)); refine blk_far ?_ NB447_452.out _; (with_reducible repeat (first | refine blk_drewN ?_ _ | refine blk_drew ?_ | refine blk_alloc ?_ _)); refine blk_far ?_ NB447_452.out _; (with_reducible repeat (first | refine blk_drewN ?_ _ | refine blk_drew ?_ | refine blk_alloc ?_ _)); exact BK447.out) hg (Kd.R_ne HO_3.out BK447.out (by decide))); have n2_ := aM (blk_grown (g := gb452) (o := .cells #[.string ((rd_T64 l0_0 x14_1).f0), .bool true, .int .i64 ((rd_T64 l0_0 x14_1).f2)] 64 (0, 0)) (by (with_reducible repeat (first | refine blk_drewN ?_ _ | refine blk_drew ?_ | refine blk_alloc ?_ _)); refine blk_put (cs := #[.string ((rd_T64 l0_0 x14_1).f0), .bool true, .int .i64 0]) ?_ 2 _ rfl; (with_reducible repeat (first | refine blk_drewN ?_ _ | refine blk_drew ?_ | refine blk_alloc ?_ _)); refine blk_put (cs := #[.string ((rd_T64 l0_0 x14_1).f0), .bool false, .int .i64 0]) ?_ 1 _ rfl; (with_reducible repeat (first | refine blk_drewN ?_ _ | refine blk_drew ?_ | refine blk_alloc ?_ _)); refine blk_put (cs := #[.string (⟨#[]⟩ : ByteArray), .bool false, .int .i64 0]) ?_ 0 _ rfl; (with_reducible repeat (first | refine blk_drewN ?_ _ | refine blk_drew ?_ | refine blk_alloc ?_ _)); exact BK452.out) hg (Kd.R_ne HO_3.out BK452.out (by decide))); have n3_ := aM (hb); have n4_ := aM (ho); clear HO_4; clear BK447; clear BK452; clear HB; clear HO_3; have HO_4 := n0_; have BK447 := n1_; have BK452 := n2_; have HB := n3_; have HO462 := n4_; clear n0_ n1_ n2_ n3_ n4_; clear ho hb hg hat))
            go_roundg k1
            case measure => have := HK1.out; omega
            case rel => exact ⟨(y460), (x4_1), (wrap64 (x14_1 + 1)), (by first | rfl | (simp; done) | (simp [*]; done)), H', ⟨by have := HK1.out; omega⟩, ⟨by (with_reducible repeat (first | apply Kd.R_alloc | apply Kd.R_drewN | apply Kd.R_drew)); exact HO462.out⟩, ⟨by (with_reducible repeat (first | apply Kd.R_alloc | apply Kd.R_drewN | apply Kd.R_drew)); exact Kd.R_mono HO_4.out (fun _ hk => hk.2)⟩, ⟨by (with_reducible repeat (first | refine blk_drewN ?_ _ | refine blk_drew ?_ | refine blk_alloc ?_ _)); exact BK447.out⟩, ⟨by repeat (first | (with_reducible first | exact HB.out | apply below_alloc | apply pw_below_drewN | apply below_drew1 | refine below_set ?_ GE447.out | refine below_set ?_ GE452.out) | exact HB.out)⟩⟩
           ·
            rw [if_neg c42] at H
            exact absurd H (by simp)
          ·
           rw [if_neg c41] at H
           exact absurd H (by simp)
         ·
          replace c40 := Bool.eq_false_iff.mpr c40
          subst c40
          have H1 : (spec_l13Names.l0 k1 x3_1 x4_1 l0_0 (l0_0.length : Int) (wrap64 (x14_1 + 1))) = some r := by rw [if_neg (show ¬ (false = true) by decide)] at H; exact H
          clear H
          have H := H1
          clear H1
          have H' := aM H
          clear H
          have p451 : 0 ≤ (x14_1 : Int) := of_decide_eq_true (by first | (with_reducible assumption) | assumption)
          have q451 : x14_1 < (l0_0.length : Int) := of_decide_eq_true (by first | (with_reducible assumption) | assumption)
          obtain ⟨ad451, e451, hx451_0, hx451_1, hx451_2⟩ := at_T64 HR0_0.out x14_1 p451 q451
          (try rw [← Nbq39.out] at hx451_1)
          cases e451
          try have hz_hx451_0 := aM hx451_0
          try have hz_hx451_1 := aM hx451_1
          try have hz_hx451_2 := aM hx451_2
          replace hx451_0 := (HB.out.cell (World.block_lt_of_cell? w _ hx451_0)).trans hx451_0
          replace hx451_1 := (HB.out.cell (World.block_lt_of_cell? w _ hx451_1)).trans hx451_1
          replace hx451_2 := (HB.out.cell (World.block_lt_of_cell? w _ hx451_2)).trans hx451_2
          replace p451 := eq_true p451
          replace q451 := eq_true q451
          go_wp2_with (first | ((with_reducible refine gate_dst (N := 6) rfl ?_); refine box_event ?hg (N := 6) ?hd (cs := #[.string (⟨#[]⟩ : ByteArray), .bool false, .int .i64 0]) (t := 64) ?hr ?_; (case hd => rfl); (case hg => rfl); (case hr => first | (go_simp; done) | (go_simp; rfl)); intro gb452 hg w48 hbox hb; have n0_ := aM (Kd.R_below (by (with_reducible repeat (first | apply Kd.R_alloc | apply Kd.R_drewN | apply Kd.R_drew)); exact HO_3.out) hb); have n1_ := aM (Kd.R_below (by (with_reducible repeat (first | apply Kd.R_alloc | apply Kd.R_drewN | apply Kd.R_drew)); exact HO_4.out) hb); have n2_ := aM (blk_below (g := gb447) (o := .cells #[.slice (some ad451) l0_0.length c0_0] 26 (0, 0)) (by (with_reducible repeat (first | refine blk_drewN ?_ _ | refine blk_drew ?_ | refine blk_alloc ?_ _)); exact BK447.out) hb); have n3_ := aM (below_step (by repeat (first | (with_reducible first | exact HB.out | apply below_alloc | apply pw_below_drewN | apply below_drew1 | refine below_set ?_ GE447.out) | exact HB.out)) hb); have n4_ := aM (hbox); have n5_ := aM ((by rw [hg]; exact (below_size (by repeat (first | (with_reducible first | exact HB.out | apply below_alloc | apply pw_below_drewN | apply below_drew1 | refine below_set ?_ GE447.out) | exact HB.out))) : w.heap.size ≤ gb452)); have n6_ := aM ((by rw [hg]; exact (below_size (by repeat (first | (with_reducible first | exact HB.out | apply below_alloc | apply pw_below_drewN | apply below_drew1 | refine below_set ?_ GE447.out) | exact HB.out))) : w.heap.size ≤ gb452)); have n7_ := aM ((by rw [hg]; exact Nat.ne_of_lt (blk_lt (g := gb447) (o := .cells #[.slice (some ad451) l0_0.length c0_0] 26 (0, 0)) (by (with_reducible repeat (first | refine blk_drewN ?_ _ | refine blk_drew ?_ | refine blk_alloc ?_ _)); exact BK447.out)) : gb447 ≠ gb452)); have n8_ := aM ((by rw [hg]; exact Nat.ne_of_gt (blk_lt (g := gb447) (o := .cells #[.slice (some ad451) l0_0.length c0_0] 26 (0, 0)) (by (with_reducible repeat (first | refine blk_drewN ?_ _ | refine blk_drew ?_ | refine blk_alloc ?_ _)); exact BK447.out)) : gb452 ≠ gb447)); clear HO_3; clear HO_4; clear BK447; clear HB; have HO_3 := n0_; have HO_4 := n1_; have BK447 := n2_; have HB := n3_; have BK452 := n4_; have GW452 := n5_; have GE452 := n6_; have NB447_452 := n7_; have NB452_447 := n8_; clear n0_ n1_ n2_ n3_ n4_ n5_ n6_ n7_ n8_; clear hb hbox hg; have hnb49 := NB452_447.out; have hnc49 := NB447_452.out; have hcz50_0 : w48.cell? ⟨gb452, 0, none⟩ = some (.string (⟨#[]⟩ : ByteArray)) := (blk_cell BK452.out 0).trans rfl; have hcz50_1 : w48.cell? ⟨gb452, 1, none⟩ = some (.bool false) := (blk_cell BK452.out 1).trans rfl; have hcz50_2 : w48.cell? ⟨gb452, 2, none⟩ = some (.int .i64 0) := (blk_cell BK452.out 2).trans rfl; have hfz50_0 := blk_frozen BK452.out 0; have hfz50_1 := blk_frozen BK452.out 1; have hfz50_2 := blk_frozen BK452.out 2))
          go_roundg k1
          case measure => have := HK1.out; omega
          case rel => exact ⟨(x3_1), (x4_1), (wrap64 (x14_1 + 1)), (by first | rfl | (simp; done) | (simp [*]; done)), H', ⟨by have := HK1.out; omega⟩, ⟨by (with_reducible repeat (first | apply Kd.R_alloc | apply Kd.R_drewN | apply Kd.R_drew)); exact Kd.R_mono (Kd.R_far (p := ⟨gb452, 2, none⟩) (Kd.R_far (p := ⟨gb452, 1, none⟩) (Kd.R_far (p := ⟨gb452, 0, none⟩) (Kd.R_types HO_3.out BK452.out (by decide)) (fun _ hk => hk.2) (.string ((rd_T64 l0_0 x14_1).f0))) (fun _ hk => hk.2) (.bool false)) (fun _ hk => hk.2) (.int .i64 ((rd_T64 l0_0 x14_1).f2))) (fun _ hk => hk.1)⟩, ⟨by (with_reducible repeat (first | apply Kd.R_alloc | apply Kd.R_drewN | apply Kd.R_drew)); exact Kd.R_mono (Kd.R_far (p := ⟨gb452, 2, none⟩) (Kd.R_far (p := ⟨gb452, 1, none⟩) (Kd.R_far (p := ⟨gb452, 0, none⟩) (Kd.R_types HO_4.out BK452.out (by decide)) (fun _ hk => hk.2) (.string ((rd_T64 l0_0 x14_1).f0))) (fun _ hk => hk.2) (.bool false)) (fun _ hk => hk.2) (.int .i64 ((rd_T64 l0_0 x14_1).f2))) (fun _ hk => hk.1)⟩, ⟨by (with_reducible repeat (first | refine blk_drewN ?_ _ | refine blk_drew ?_ | refine blk_alloc ?_ _)); refine blk_far ?_ NB447_452.out _; (with_reducible repeat (first | refine blk_drewN ?_ _ | refine blk_drew ?_ | refine blk_alloc ?_ _)); refine blk_far ?_ NB447_452.out _; (with_reducible repeat (first | refine blk_drewN ?_ _ | refine blk_drew ?_ | refine blk_alloc ?_ _)); refine blk_far ?_ NB447_452.out _; (with_reducible repeat (first | refine blk_drewN ?_ _ | refine blk_drew ?_ | refine blk_alloc ?_ _)); exact BK447.out⟩, ⟨by repeat (first | (with_reducible first | exact HB.out | apply below_alloc | apply pw_below_drewN | apply below_drew1 | refine below_set ?_ GE447.out | refine below_set ?_ GE452.out) | exact HB.out)⟩⟩
       ·
        rw [if_neg c11] at H
        exact absurd H (by simp)
      ·
       rw [if_neg c10] at H
       exact absurd H (by simp)
     ·
      rw [if_neg c9] at H
      have c9b0 : decide (x14_1 < (l0_0.length : Int)) = false := decide_eq_false c9
      clear c9
      obtain rfl := Option.some.inj H
      go_wp2
      go_ret
      exact ⟨_, by first | rfl | (simp [errW_none, errW_some] <;> rfl) | (simp [*, errW_none, errW_some] <;> rfl), by (with_reducible repeat (first | apply Kd.R_alloc | apply Kd.R_drewN | apply Kd.R_drew)); exact Kd.R_mono HO_3.out (fun _ hk => trivial), by repeat (first | (with_reducible first | exact HB.out | apply below_alloc | apply pw_below_drewN | apply below_drew1 | refine below_set ?_ GE447.out) | exact HB.out)⟩
  ·
   rw [if_neg c3] at H
   exact absurd H (by simp)
 ·
  rw [if_neg c2] at H
  exact absurd H (by simp)

def laws_toEdge.f (a0_0 : ByteArray) (a0_1 : Bool) (a0_2 : Int) : Option (ByteArray × Bool × Int) := some (a0_0, a0_1, a0_2)
set_option maxHeartbeats 8000000 in
set_option maxRecDepth 100000 in
theorem laws_toEdge.calls (a0_0 : ByteArray) (a0_1 : Bool) (a0_2 : Int) (r1 : ByteArray) (r2 : Bool) (r3 : Int) (w : World) (h : laws_toEdge.f a0_0 a0_1 a0_2 = some (r1, r2, r3)) :
  Calls Try.prog 77 #[.agg #[.string a0_0, .bool a0_1, .int .i64 a0_2]] w fun e w' => e = .returned (.agg #[.string r1, .bool r2, .int .i64 r3]) ∧ Below w.heap.size w w' := by
 have hu80 := Try.underlying80
 have hu64 := Try.underlying64
 have HB := aM (Below.refl w.heap.size w)
 have H : (some (a0_0, a0_1, a0_2)) = some (r1, r2, r3) := h
 clear h
 simp only [Option.some.injEq, Prod.mk.injEq] at H
 obtain ⟨rfl, rfl, rfl⟩ := H
 go_enter Try.func77, Try.ntmps77
 go_wp2_with (first | ((with_reducible refine gate_dst (N := 1) rfl ?_); refine box_event ?hg (N := 1) ?hd (cs := #[.string a0_0, .bool a0_1, .int .i64 a0_2]) (t := 80) ?hr ?_; (case hd => rfl); (case hg => rfl); (case hr => first | (go_simp; done) | (go_simp; rfl)); intro gb486 hg w2 hbox hb; have n0_ := aM (below_step (by repeat (first | (with_reducible first | exact HB.out | apply below_alloc | apply pw_below_drewN | apply below_drew1) | exact HB.out)) hb); have n1_ := aM (hbox); have n2_ := aM ((by rw [hg]; exact (below_size (by repeat (first | (with_reducible first | exact HB.out | apply below_alloc | apply pw_below_drewN | apply below_drew1) | exact HB.out))) : w.heap.size ≤ gb486)); have n3_ := aM ((by rw [hg]; exact (below_size (by repeat (first | (with_reducible first | exact HB.out | apply below_alloc | apply pw_below_drewN | apply below_drew1) | exact HB.out))) : w.heap.size ≤ gb486)); clear HB; have HB := n0_; have BK486 := n1_; have GW486 := n2_; have GE486 := n3_; clear n0_ n1_ n2_ n3_; clear hb hbox hg) | ((with_reducible refine gate_dst (N := 2) rfl ?_); refine box_event ?hg (N := 2) ?hd (cs := #[.string (⟨#[]⟩ : ByteArray), .bool false, .int .i64 0]) (t := 64) ?hr ?_; (case hd => rfl); (case hg => rfl); (case hr => first | (go_simp; done) | (go_simp; rfl)); intro gb487 hg w3 hbox hb; have n0_ := aM (blk_below (g := gb486) (o := .cells #[.string a0_0, .bool a0_1, .int .i64 a0_2] 80 (0, 0)) (by (with_reducible repeat (first | refine blk_drewN ?_ _ | refine blk_drew ?_ | refine blk_alloc ?_ _)); exact BK486.out) hb); have n1_ := aM (below_step (by repeat (first | (with_reducible first | exact HB.out | apply below_alloc | apply pw_below_drewN | apply below_drew1 | refine below_set ?_ GE486.out) | exact HB.out)) hb); have n2_ := aM (hbox); have n3_ := aM ((by rw [hg]; exact (below_size (by repeat (first | (with_reducible first | exact HB.out | apply below_alloc | apply pw_below_drewN | apply below_drew1 | refine below_set ?_ GE486.out) | exact HB.out))) : w.heap.size ≤ gb487)); have n4_ := aM ((by rw [hg]; exact (below_size (by repeat (first | (with_reducible first | exact HB.out | apply below_alloc | apply pw_below_drewN | apply below_drew1 | refine below_set ?_ GE486.out) | exact HB.out))) : w.heap.size ≤ gb487)); have n5_ := aM ((by rw [hg]; exact Nat.ne_of_lt (blk_lt (g := gb486) (o := .cells #[.string a0_0, .bool a0_1, .int .i64 a0_2] 80 (0, 0)) (by (with_reducible repeat (first | refine blk_drewN ?_ _ | refine blk_drew ?_ | refine blk_alloc ?_ _)); exact BK486.out)) : gb486 ≠ gb487)); have n6_ := aM ((by rw [hg]; exact Nat.ne_of_gt (blk_lt (g := gb486) (o := .cells #[.string a0_0, .bool a0_1, .int .i64 a0_2] 80 (0, 0)) (by (with_reducible repeat (first | refine blk_drewN ?_ _ | refine blk_drew ?_ | refine blk_alloc ?_ _)); exact BK486.out)) : gb487 ≠ gb486)); clear BK486; clear HB; have BK486 := n0_; have HB := n1_; have BK487 := n2_; have GW487 := n3_; have GE487 := n4_; have NB486_487 := n5_; have NB487_486 := n6_; clear n0_ n1_ n2_ n3_ n4_ n5_ n6_; clear hb hbox hg) | ((with_reducible refine gate_dst (N := 3) rfl ?_); refine box_event ?hg (N := 3) ?hd (cs := #[.string (⟨#[]⟩ : ByteArray), .bool false, .int .i64 0]) (t := 64) ?hr ?_; (case hd => rfl); (case hg => rfl); (case hr => first | (go_simp; done) | (go_simp; rfl)); intro gb488 hg w4 hbox hb; have n0_ := aM (blk_below (g := gb486) (o := .cells #[.string a0_0, .bool a0_1, .int .i64 a0_2] 80 (0, 0)) (by (with_reducible repeat (first | refine blk_drewN ?_ _ | refine blk_drew ?_ | refine blk_alloc ?_ _)); exact BK486.out) hb); have n1_ := aM (blk_below (g := gb487) (o := .cells #[.string (⟨#[]⟩ : ByteArray), .bool false, .int .i64 0] 64 (0, 0)) (by (with_reducible repeat (first | refine blk_drewN ?_ _ | refine blk_drew ?_ | refine blk_alloc ?_ _)); exact BK487.out) hb); have n2_ := aM (below_step (by repeat (first | (with_reducible first | exact HB.out | apply below_alloc | apply pw_below_drewN | apply below_drew1 | refine below_set ?_ GE486.out | refine below_set ?_ GE487.out) | exact HB.out)) hb); have n3_ := aM (hbox); have n4_ := aM ((by rw [hg]; exact (below_size (by repeat (first | (with_reducible first | exact HB.out | apply below_alloc | apply pw_below_drewN | apply below_drew1 | refine below_set ?_ GE486.out | refine below_set ?_ GE487.out) | exact HB.out))) : w.heap.size ≤ gb488)); have n5_ := aM ((by rw [hg]; exact (below_size (by repeat (first | (with_reducible first | exact HB.out | apply below_alloc | apply pw_below_drewN | apply below_drew1 | refine below_set ?_ GE486.out | refine below_set ?_ GE487.out) | exact HB.out))) : w.heap.size ≤ gb488)); have n6_ := aM ((by rw [hg]; exact Nat.ne_of_lt (blk_lt (g := gb486) (o := .cells #[.string a0_0, .bool a0_1, .int .i64 a0_2] 80 (0, 0)) (by (with_reducible repeat (first | refine blk_drewN ?_ _ | refine blk_drew ?_ | refine blk_alloc ?_ _)); exact BK486.out)) : gb486 ≠ gb488)); have n7_ := aM ((by rw [hg]; exact Nat.ne_of_gt (blk_lt (g := gb486) (o := .cells #[.string a0_0, .bool a0_1, .int .i64 a0_2] 80 (0, 0)) (by (with_reducible repeat (first | refine blk_drewN ?_ _ | refine blk_drew ?_ | refine blk_alloc ?_ _)); exact BK486.out)) : gb488 ≠ gb486)); have n8_ := aM ((by rw [hg]; exact Nat.ne_of_lt (blk_lt (g := gb487) (o := .cells #[.string (⟨#[]⟩ : ByteArray), .bool false, .int .i64 0] 64 (0, 0)) (by (with_reducible repeat (first | refine blk_drewN ?_ _ | refine blk_drew ?_ | refine blk_alloc ?_ _)); exact BK487.out)) : gb487 ≠ gb488)); have n9_ := aM ((by rw [hg]; exact Nat.ne_of_gt (blk_lt (g := gb487) (o := .cells #[.string (⟨#[]⟩ : ByteArray), .bool false, .int .i64 0] 64 (0, 0)) (by (with_reducible repeat (first | refine blk_drewN ?_ _ | refine blk_drew ?_ | refine blk_alloc ?_ _)); exact BK487.out)) : gb488 ≠ gb487)); clear BK486; clear BK487; clear HB; have BK486 := n0_; have BK487 := n1_; have HB := n2_; have BK488 := n3_; have GW488 := n4_; have GE488 := n5_; have NB486_488 := n6_; have NB488_486 := n7_; have NB487_488 := n8_; have NB488_487 := n9_; clear n0_ n1_ n2_ n3_ n4_ n5_ n6_ n7_ n8_ n9_; clear hb hbox hg; have hnb5 := NB486_487.out; have hnc5 := NB487_486.out; have hnb6 := NB486_488.out; have hnc6 := NB488_486.out; have hcz7_0 : w4.cell? ⟨gb486, 0, none⟩ = some (.string a0_0) := (blk_cell BK486.out 0).trans rfl; have hcz7_1 : w4.cell? ⟨gb486, 1, none⟩ = some (.bool a0_1) := (blk_cell BK486.out 1).trans rfl; have hcz7_2 : w4.cell? ⟨gb486, 2, none⟩ = some (.int .i64 a0_2) := (blk_cell BK486.out 2).trans rfl; have hfz7_0 := blk_frozen BK486.out 0; have hfz7_1 := blk_frozen BK486.out 1; have hfz7_2 := blk_frozen BK486.out 2; have hnb8 := NB488_487.out; have hnc8 := NB487_488.out; have hcz9_0 : w4.cell? ⟨gb488, 0, none⟩ = some (.string (⟨#[]⟩ : ByteArray)) := (blk_cell BK488.out 0).trans rfl; have hcz9_1 : w4.cell? ⟨gb488, 1, none⟩ = some (.bool false) := (blk_cell BK488.out 1).trans rfl; have hcz9_2 : w4.cell? ⟨gb488, 2, none⟩ = some (.int .i64 0) := (blk_cell BK488.out 2).trans rfl; have hfz9_0 := blk_frozen BK488.out 0; have hfz9_1 := blk_frozen BK488.out 1; have hfz9_2 := blk_frozen BK488.out 2; have hcz10_0 : w4.cell? ⟨gb487, 0, none⟩ = some (.string (⟨#[]⟩ : ByteArray)) := (blk_cell BK487.out 0).trans rfl; have hcz10_1 : w4.cell? ⟨gb487, 1, none⟩ = some (.bool false) := (blk_cell BK487.out 1).trans rfl; have hcz10_2 : w4.cell? ⟨gb487, 2, none⟩ = some (.int .i64 0) := (blk_cell BK487.out 2).trans rfl; have hfz10_0 := blk_frozen BK487.out 0; have hfz10_1 := blk_frozen BK487.out 1; have hfz10_2 := blk_frozen BK487.out 2))
 refine bodyPost_ret (results_cell_row rfl _ _ gb487 64 #[.string a0_0, .bool a0_1, .int .i64 a0_2] (0, 0) _ rfl (by (with_reducible repeat (first | refine blk_drewN ?_ _ | refine blk_drew ?_ | refine blk_alloc ?_ _)); refine blk_put (cs := #[.string a0_0, .bool a0_1, .int .i64 0]) ?_ 2 _ rfl; (with_reducible repeat (first | refine blk_drewN ?_ _ | refine blk_drew ?_ | refine blk_alloc ?_ _)); refine blk_put (cs := #[.string a0_0, .bool false, .int .i64 0]) ?_ 1 _ rfl; (with_reducible repeat (first | refine blk_drewN ?_ _ | refine blk_drew ?_ | refine blk_alloc ?_ _)); refine blk_put (cs := #[.string (⟨#[]⟩ : ByteArray), .bool false, .int .i64 0]) ?_ 0 _ rfl; (with_reducible repeat (first | refine blk_drewN ?_ _ | refine blk_drew ?_ | refine blk_alloc ?_ _)); refine blk_far ?_ NB487_488.out _; (with_reducible repeat (first | refine blk_drewN ?_ _ | refine blk_drew ?_ | refine blk_alloc ?_ _)); refine blk_far ?_ NB487_488.out _; (with_reducible repeat (first | refine blk_drewN ?_ _ | refine blk_drew ?_ | refine blk_alloc ?_ _)); refine blk_far ?_ NB487_488.out _; (with_reducible repeat (first | refine blk_drewN ?_ _ | refine blk_drew ?_ | refine blk_alloc ?_ _)); exact BK487.out) Try.underlying64 rfl (by kernel_rfl)) rfl ?_
 exact ⟨by first | rfl | (simp [errW_none, errW_some] <;> rfl) | (simp [*, errW_none, errW_some] <;> rfl), by repeat (first | (with_reducible first | exact HB.out | apply below_alloc | apply pw_below_drewN | apply below_drew1 | refine below_set ?_ GE486.out | refine below_set ?_ GE487.out | refine below_set ?_ GE488.out) | exact HB.out)⟩

def laws_toEdgeS.l0 : Nat → List (S80) → List (S64) → Int → Option ((List (S64)))
 | 0, _, _, _ => none
 | k + 1, x0, x3, x4 => if x4 < (x0.length : Int) then (if 0 ≤ x4 then ((laws_toEdge.f ((rd_T80 x0 x4).f0) ((rd_T80 x0 x4).f1) ((rd_T80 x0 x4).f2)).bind fun bt493 => (if x4 < (x3.length : Int) then (laws_toEdgeS.l0 k x0 (x3.set (x4 : Int).toNat (⟨bt493.1, bt493.2.1, bt493.2.2⟩ : S64)) (wrap64 (x4 + 1))) else (none))) else (none)) else (some x3)
def laws_toEdgeS.f (k : Nat) (l0 : List (S80)) : Option ((List (S64))) := if 0 ≤ (l0.length : Int) then (if ((l0.length : Int) : Int).toNat ≤ 8796093022208 then (laws_toEdgeS.l0 k l0 (List.replicate ((l0.length : Int) : Int).toNat z64) 0) else (none)) else (none)
set_option maxHeartbeats 8000000 in
set_option maxRecDepth 100000 in
theorem laws_toEdgeS.calls (k : Nat) (A0 : Option Addr) (c0 : Nat) (l0 : List (S80)) (r : List (S64)) (w : World) (hr0 : Kd.C k80 w A0 l0.length l0) (hc0 : l0.length ≤ c0) (h : laws_toEdgeS.f k l0 = some r) :
  Calls Try.prog 53 #[.slice A0 l0.length c0] w fun e w' => ∃ v0_ : Value, e = .returned (v0_) ∧ Kd.R k64 64 w' w.heap.size (fun _ => True) v0_ r ∧ Below w.heap.size w w' := by
 have hu80 := Try.underlying80
 have hu64 := Try.underlying64
 have HR0 := aM hr0
 have HC0 := aM hc0
 clear hr0 hc0
 have HB := aM (Below.refl w.heap.size w)
 have H : (if 0 ≤ (l0.length : Int) then (if ((l0.length : Int) : Int).toNat ≤ 8796093022208 then (laws_toEdgeS.l0 k l0 (List.replicate ((l0.length : Int) : Int).toNat z64) 0) else (none)) else (none)) = some r := h
 clear h
 by_cases c2 : 0 ≤ (l0.length : Int)
 ·
  rw [if_pos c2] at H
  have c2b0 := eq_true c2
  have c2b1 : decide (0 ≤ (l0.length : Int)) = true := decide_eq_true c2
  clear c2
  by_cases c3 : ((l0.length : Int) : Int).toNat ≤ 8796093022208
  ·
   rw [if_pos c3] at H
   have c3b0 := eq_true c3
   have c3b1 : decide (((l0.length : Int) : Int).toNat ≤ 8796093022208) = true := decide_eq_true c3
   clear c3
   obtain ⟨y489, hy489⟩ : ∃ y_ : List (S64), y_ = (List.replicate ((l0.length : Int) : Int).toNat z64) := ⟨_, rfl⟩
   replace H : (laws_toEdgeS.l0 k l0 y489 0) = some r := by first | (rw [hy489]; with_reducible exact H) | (have H2_ := (Option.bind_some _ _).symm.trans H; rw [hy489]; with_reducible exact H2_) | (have H2_ := (Option.bind_some _ _).symm.trans H; with_reducible exact H2_) | with_reducible exact H | (rw [hy489]; exact H) | exact H
   have Ny489 := aM hy489
   clear hy489
   have H' := aM H
   clear H
   go_enter Try.func53, Try.ntmps53
   go_wp2_with (first | ((with_reducible refine gate_dst (N := 7) rfl ?_); refine Kd.R_make k64 _ 64 rfl (N := 7) rfl 24 _ _ rfl (l0.length : Int) rfl rfl Try.underlying24 (.agg #[(.string ⟨#[]⟩), (.bool false), (.int .i64 0)]) 32 info64 rfl (by decide) (by omega) z64 (ok := fun _ => True) (okp := fun _ => True) (k64_mkM _ _ _ z64 ) (fun _ hk => hk) trivial (of_decide_eq_true (by first | (with_reducible assumption) | assumption)) (Nat.le_trans (Nat.mul_le_mul_right _ (of_decide_eq_true (by first | (with_reducible assumption) | assumption) : (l0.length : Int).toNat ≤ 8796093022208)) (by omega)) (Below.refl _ _) (Nat.le_refl _) ?_; intro v490 w4 ho5 hb hg_ hnew_; clear hg_ hnew_; (first | rw [← Ny489.out] at ho5 | (simp only [Int.reduceToNat] at ho5; rw [← Ny489.out] at ho5)); have n0_ := aM (Kd.R_lower ho5 (below_size (by repeat (first | (with_reducible first | exact HB.out | apply below_alloc | apply pw_below_drewN | apply below_drew1) | exact HB.out)))); have n1_ := aM (below_step (by repeat (first | (with_reducible first | exact HB.out | apply below_alloc | apply pw_below_drewN | apply below_drew1) | exact HB.out)) hb); clear HB; have HO491 := n0_; have HB := n1_; clear n0_ n1_; clear hb ho5))
   go_loopg [4] k (fun kq v4 w' => ∃ (x3_1 : List (S64)) (x4_1 : Int), v4 = .int .i64 x4_1 ∧ Aside0 (laws_toEdgeS.l0 kq l0 x3_1 x4_1 = some r) ∧ Aside0 (kq ≤ k) ∧ Aside0 (Kd.R k64 64 w' w.heap.size (fun _ => True) v490 x3_1) ∧ Aside0 (Below w.heap.size w w'))
   case atStart => exact ⟨(y489), (0), (by first | rfl | (simp; done) | (simp [*]; done)), H', ⟨Nat.le_refl _⟩, ⟨by (with_reducible repeat (first | apply Kd.R_alloc | apply Kd.R_drewN | apply Kd.R_drew)); exact HO491.out⟩, ⟨by repeat (first | (with_reducible first | exact HB.out | apply below_alloc | apply pw_below_drewN | apply below_drew1) | exact HB.out)⟩⟩
   case round =>
    clear H'
    try clear c2
    try clear c2b0
    try clear c2b1
    try clear p2
    try clear c3
    try clear c3b0
    try clear c3b1
    try clear c5
    obtain ⟨x3_1, x4_1, rfl, HA, HK1, HO_3, HB⟩ := hrel
    cases gk with
    | zero => exact absurd HA.out (by simp [laws_toEdgeS.l0])
    | succ k1 =>
     have H := HA.out
     clear HA
     simp only [laws_toEdgeS.l0] at H
     by_cases c6 : x4_1 < (l0.length : Int)
     ·
      rw [if_pos c6] at H
      have c6b0 : decide (x4_1 < (l0.length : Int)) = true := decide_eq_true c6
      clear c6
      by_cases c7 : 0 ≤ x4_1
      ·
       rw [if_pos c7] at H
       have c7b0 : decide (0 ≤ x4_1) = true := decide_eq_true c7
       clear c7
       replace H := Option.bind_eq_some_iff.mp H
       obtain ⟨⟨t493, t494, t495⟩, A80, H⟩ := H
       replace H : (if x4_1 < (x3_1.length : Int) then (laws_toEdgeS.l0 k1 l0 (x3_1.set (x4_1 : Int).toNat (⟨t493, t494, t495⟩ : S64)) (wrap64 (x4_1 + 1))) else (none)) = some r := H
       have A8 := aM A80
       clear A80
       by_cases c9 : x4_1 < (x3_1.length : Int)
       ·
        rw [if_pos c9] at H
        have c9b0 : decide (x4_1 < (x3_1.length : Int)) = true := decide_eq_true c9
        clear c9
        obtain ⟨y496, hy496⟩ : ∃ y_ : List (S64), y_ = (x3_1.set (x4_1 : Int).toNat (⟨t493, t494, t495⟩ : S64)) := ⟨_, rfl⟩
        replace H : (laws_toEdgeS.l0 k1 l0 y496 (wrap64 (x4_1 + 1))) = some r := by first | (rw [hy496]; with_reducible exact H) | (have H2_ := (Option.bind_some _ _).symm.trans H; rw [hy496]; with_reducible exact H2_) | (have H2_ := (Option.bind_some _ _).symm.trans H; with_reducible exact H2_) | with_reducible exact H | (rw [hy496]; exact H) | exact H
        have Ny496 := aM hy496
        clear hy496
        have H' := aM H
        clear H
        have p492 : 0 ≤ (x4_1 : Int) := of_decide_eq_true (by first | (with_reducible assumption) | assumption)
        have q492 : x4_1 < (l0.length : Int) := of_decide_eq_true (by first | (with_reducible assumption) | assumption)
        obtain ⟨ad492, e492, hx492_0, hx492_1, hx492_2⟩ := at_T80 HR0.out x4_1 p492 q492
        cases e492
        try have hz_hx492_0 := aM hx492_0
        try have hz_hx492_1 := aM hx492_1
        try have hz_hx492_2 := aM hx492_2
        replace hx492_0 := (HB.out.cell (World.block_lt_of_cell? w _ hx492_0)).trans hx492_0
        replace hx492_1 := (HB.out.cell (World.block_lt_of_cell? w _ hx492_1)).trans hx492_1
        replace hx492_2 := (HB.out.cell (World.block_lt_of_cell? w _ hx492_2)).trans hx492_2
        replace p492 := eq_true p492
        replace q492 := eq_true q492
        go_wp2_with (first | ((with_reducible refine gate_callee (f := 77) rfl ?_); refine goesL_ (some 20) rfl rfl Try.func77 (by kernel_rfl) rfl #[.agg #[.string ((rd_T80 l0 x4_1).f0), .bool ((rd_T80 l0 x4_1).f1), .int .i64 ((rd_T80 l0 x4_1).f2)]] rfl (by (try simp only [List.map_toArray, List.map_cons, List.map_nil]); first | done | rfl | (simp only [List.length_drop, List.length_take]; rfl)) ?_; (with_reducible refine (laws_toEdge.calls ((rd_T80 l0 x4_1).f0) ((rd_T80 l0 x4_1).f1) ((rd_T80 l0 x4_1).f2) t493 t494 t495 _ A8.out).mono ?_); rintro e w11 ⟨rfl, hb⟩; refine ⟨_, rfl, ?_⟩; have n0_ := aM (Kd.R_below (by (with_reducible repeat (first | apply Kd.R_alloc | apply Kd.R_drewN | apply Kd.R_drew)); exact HO_3.out) hb); have n1_ := aM (below_step (by repeat (first | (with_reducible first | exact HB.out | apply below_alloc | apply pw_below_drewN | apply below_drew1) | exact HB.out)) hb); clear HO_3; clear HB; have HO_3 := n0_; have HB := n1_; clear n0_ n1_; (try clear hb); (try clear hb2); (try clear hk); (try clear hi); have p10 : 0 ≤ (x4_1 : Int) := of_decide_eq_true (by first | (with_reducible assumption) | assumption); have q10 : (x4_1 : Int) < ((x3_1.length : Int) : Int) := of_decide_eq_true (by first | (with_reducible assumption) | assumption); obtain ⟨go10, co10, eo10, gb10, gl10, cl10, HG10⟩ := Kd.R_form HO_3.out (by omega); (first | cases eo10 | (injection eo10 with ea_ en_ ec_; (first | subst ea_ | (injection ea_ with ea_; subst ea_)); subst ec_; clear en_)); have GB10 := aM gb10; have GG10 := aM HG10; clear gb10 gl10 HG10; obtain ⟨ce10, hcl10, hM10, hcc10, hfr10⟩ := Kd.R_elem HO_3.out z64 (x4_1 : Int) p10 q10; obtain rfl := k64_openM hM10; have hx10_0 : w11.cell? ⟨go10, (x4_1 : Int).toNat * 3, none⟩ = some (.string ((rd_T64 x3_1 x4_1).f0)) := hcc10 0 _ rfl; have hx10_1 : w11.cell? ⟨go10, (x4_1 : Int).toNat * 3 + 1, none⟩ = some (.bool ((rd_T64 x3_1 x4_1).f1)) := hcc10 1 _ rfl; have hx10_2 : w11.cell? ⟨go10, (x4_1 : Int).toNat * 3 + 2, none⟩ = some (.int .i64 ((rd_T64 x3_1 x4_1).f2)) := hcc10 2 _ rfl; have hf10_0 : w11.frozen? ⟨go10, (x4_1 : Int).toNat * 3, none⟩ = false := hfr10 0; have hf10_1 : w11.frozen? ⟨go10, (x4_1 : Int).toNat * 3 + 1, none⟩ = false := hfr10 1; have hf10_2 : w11.frozen? ⟨go10, (x4_1 : Int).toNat * 3 + 2, none⟩ = false := hfr10 2; clear hcl10 hcc10 hfr10 hM10; replace p10 := eq_true p10; replace q10 := eq_true q10; have HX12 := aM (show Kd.R k64 64 w11 w.heap.size (fun _ => True) (.slice (some ⟨go10, 0, none⟩) x3_1.length co10) x3_1 from (by (with_reducible repeat (first | apply Kd.R_alloc | apply Kd.R_drewN | apply Kd.R_drew)); exact HO_3.out)); obtain ⟨ce12, hcl12, hM12, hcc12, hfr12⟩ := Kd.R_elem HX12.out z64 (x4_1 : Int) (of_decide_eq_true (by first | (with_reducible assumption) | assumption)) (by have h_ : (x4_1 : Int) < ((x3_1.length : Int) : Int) := of_decide_eq_true (by first | (with_reducible assumption) | assumption); first | exact h_ | (have e_ := (Kd.R_reads' HO_3.out).1; omega) | simpa using h_); obtain rfl := k64_openM hM12; have HP12 := Kd.R_seg HX12.out (x4_1 : Int) (of_decide_eq_true (by first | (with_reducible assumption) | assumption)) (by have h_ : (x4_1 : Int) < ((x3_1.length : Int) : Int) := of_decide_eq_true (by first | (with_reducible assumption) | assumption); first | exact h_ | (have e_ := (Kd.R_reads' HO_3.out).1; omega) | simpa using h_) (seg := [.string t493, .bool t494, .int .i64 t495]) (j := 0) hcl12 hcc12 (show 3 ≤ 3 from by decide) (x' := (⟨t493, t494, t495⟩ : S64)) (k64_mkM _ _ _ (⟨t493, t494, t495⟩ : S64) ) (fun _ hk => hk); have hx12_0 := hcc12 0 _ rfl; (try simp only [show (k64).sz = 3 from rfl, Nat.mul_one, Nat.add_zero] at hx12_0); have hf12_0 := hfr12 0; (try simp only [show (k64).sz = 3 from rfl, Nat.mul_one, Nat.add_zero] at hf12_0); have hx12_1 := hcc12 1 _ rfl; (try simp only [show (k64).sz = 3 from rfl, Nat.mul_one, Nat.add_zero] at hx12_1); have hf12_1 := hfr12 1; (try simp only [show (k64).sz = 3 from rfl, Nat.mul_one, Nat.add_zero] at hf12_1); have hx12_2 := hcc12 2 _ rfl; (try simp only [show (k64).sz = 3 from rfl, Nat.mul_one, Nat.add_zero] at hx12_2); have hf12_2 := hfr12 2; (try simp only [show (k64).sz = 3 from rfl, Nat.mul_one, Nat.add_zero] at hf12_2); clear hcl12 hcc12 hfr12 hM12) | ((with_reducible refine gate_store (t := 64) (p := 21) rfl ?_); refine store_event (t := 64) (p := 21) (v := ?vo_w13) (w1 := (((w11.setCell ⟨go10, (x4_1 : Int).toNat * 3, none⟩ (.string t493)).setCell ⟨go10, (x4_1 : Int).toNat * 3 + 1, none⟩ (.bool t494)).setCell ⟨go10, (x4_1 : Int).toNat * 3 + 2, none⟩ (.int .i64 t495))) ?hg ?ho ?hn ?hr ?_; (case ho => rfl); (case hg => rfl); (case hn => rfl); (case hr => first | (go_simp; done) | (go_simp; rfl)); intro w13 hw; have hg : w11.grownBy w13 (some go10) := (by rw [hw]; exact HP12.2); have hp_ : Kd.R k64 64 w13 w.heap.size (fun _ => True) (.slice (some ⟨go10, 0, none⟩) x3_1.length co10) y496 := (by rw [hw, Ny496.out]; exact HP12.1); clear HP12; have n0_ := aM (hp_); have n1_ := aM ((by rw [hw]; exact below_set (below_set (below_set (HB.out) GB10.out) GB10.out) GB10.out : Below w.heap.size w w13)); clear HO_3; clear HB; have HO_3 := n0_; have HB := n1_; clear n0_ n1_; clear hg hw hp_))
        go_roundg k1
        case measure => have := HK1.out; omega
        case rel => exact ⟨(y496), (wrap64 (x4_1 + 1)), (by first | rfl | (simp; done) | (simp [*]; done)), H', ⟨by have := HK1.out; omega⟩, ⟨by (with_reducible repeat (first | apply Kd.R_alloc | apply Kd.R_drewN | apply Kd.R_drew)); exact HO_3.out⟩, ⟨by repeat (first | (with_reducible first | exact HB.out | apply below_alloc | apply pw_below_drewN | apply below_drew1) | exact HB.out)⟩⟩
       ·
        rw [if_neg c9] at H
        exact absurd H (by simp)
      ·
       rw [if_neg c7] at H
       exact absurd H (by simp)
     ·
      rw [if_neg c6] at H
      have c6b0 : decide (x4_1 < (l0.length : Int)) = false := decide_eq_false c6
      clear c6
      obtain rfl := Option.some.inj H
      go_wp2
      go_ret
      exact ⟨_, by first | rfl | (simp [errW_none, errW_some] <;> rfl) | (simp [*, errW_none, errW_some] <;> rfl), by (with_reducible repeat (first | apply Kd.R_alloc | apply Kd.R_drewN | apply Kd.R_drew)); exact HO_3.out, by repeat (first | (with_reducible first | exact HB.out | apply below_alloc | apply pw_below_drewN | apply below_drew1) | exact HB.out)⟩
  ·
   rw [if_neg c3] at H
   exact absurd H (by simp)
 ·
  rw [if_neg c2] at H
  exact absurd H (by simp)

def laws_toRadix.f (k : Nat) (l0_0 : List (S80)) : Option ((List (S64))) := (laws_toEdgeS.f k l0_0).bind fun t500 => (some t500)
set_option maxHeartbeats 8000000 in
set_option maxRecDepth 100000 in
theorem laws_toRadix.calls (k : Nat) (A0_0 : Option Addr) (c0_0 : Nat) (l0_0 : List (S80)) (r : List (S64)) (w : World) (hr0_0 : Kd.C k80 w A0_0 l0_0.length l0_0) (hc0_0 : l0_0.length ≤ c0_0) (h : laws_toRadix.f k l0_0 = some r) :
  Calls Try.prog 22 #[.agg #[.slice A0_0 l0_0.length c0_0]] w fun e w' => ∃ v0_ : Value, e = .returned (.agg #[v0_]) ∧ Kd.R k64 64 w' w.heap.size (fun _ => True) v0_ r ∧ Below w.heap.size w w' := by
 have hu36 := Try.underlying36
 have hu26 := Try.underlying26
 have HR0_0 := aM hr0_0
 have HC0_0 := aM hc0_0
 clear hr0_0 hc0_0
 have HB := aM (Below.refl w.heap.size w)
 have H : ((laws_toEdgeS.f k l0_0).bind fun t500 => (some t500)) = some r := h
 clear h
 replace H := Option.bind_eq_some_iff.mp H
 obtain ⟨t500, A20, H⟩ := H
 replace H : (some t500) = some r := H
 have A2 := aM A20
 clear A20
 obtain rfl := Option.some.inj H
 go_enter Try.func22, Try.ntmps22
 go_wp2_with (first | ((with_reducible refine gate_dst (N := 1) rfl ?_); refine box_event ?hg (N := 1) ?hd (cs := #[.slice A0_0 l0_0.length c0_0]) (t := 36) ?hr ?_; (case hd => rfl); (case hg => rfl); (case hr => first | (go_simp; done) | (go_simp; rfl)); intro gb497 hg w3 hbox hb; have n0_ := aM (below_step (by repeat (first | (with_reducible first | exact HB.out | apply below_alloc | apply pw_below_drewN | apply below_drew1) | exact HB.out)) hb); have n1_ := aM (hbox); have n2_ := aM ((by rw [hg]; exact (below_size (by repeat (first | (with_reducible first | exact HB.out | apply below_alloc | apply pw_below_drewN | apply below_drew1) | exact HB.out))) : w.heap.size ≤ gb497)); have n3_ := aM ((by rw [hg]; exact (below_size (by repeat (first | (with_reducible first | exact HB.out | apply below_alloc | apply pw_below_drewN | apply below_drew1) | exact HB.out))) : w.heap.size ≤ gb497)); clear HB; have HB := n0_; have BK497 := n1_; have GW497 := n2_; have GE497 := n3_; clear n0_ n1_ n2_ n3_; clear hb hbox hg) | ((with_reducible refine gate_dst (N := 2) rfl ?_); refine box_event ?hg (N := 2) ?hd (cs := #[.slice none 0 0]) (t := 26) ?hr ?_; (case hd => rfl); (case hg => rfl); (case hr => first | (go_simp; done) | (go_simp; rfl)); intro gb498 hg w4 hbox hb; have n0_ := aM (blk_below (g := gb497) (o := .cells #[.slice A0_0 l0_0.length c0_0] 36 (0, 0)) (by (with_reducible repeat (first | refine blk_drewN ?_ _ | refine blk_drew ?_ | refine blk_alloc ?_ _)); exact BK497.out) hb); have n1_ := aM (below_step (by repeat (first | (with_reducible first | exact HB.out | apply below_alloc | apply pw_below_drewN | apply below_drew1 | refine below_set ?_ GE497.out) | exact HB.out)) hb); have n2_ := aM (hbox); have n3_ := aM ((by rw [hg]; exact (below_size (by repeat (first | (with_reducible first | exact HB.out | apply below_alloc | apply pw_below_drewN | apply below_drew1 | refine below_set ?_ GE497.out) | exact HB.out))) : w.heap.size ≤ gb498)); have n4_ := aM ((by rw [hg]; exact (below_size (by repeat (first | (with_reducible first | exact HB.out | apply below_alloc | apply pw_below_drewN | apply below_drew1 | refine below_set ?_ GE497.out) | exact HB.out))) : w.heap.size ≤ gb498)); have n5_ := aM ((by rw [hg]; exact Nat.ne_of_lt (blk_lt (g := gb497) (o := .cells #[.slice A0_0 l0_0.length c0_0] 36 (0, 0)) (by (with_reducible repeat (first | refine blk_drewN ?_ _ | refine blk_drew ?_ | refine blk_alloc ?_ _)); exact BK497.out)) : gb497 ≠ gb498)); have n6_ := aM ((by rw [hg]; exact Nat.ne_of_gt (blk_lt (g := gb497) (o := .cells #[.slice A0_0 l0_0.length c0_0] 36 (0, 0)) (by (with_reducible repeat (first | refine blk_drewN ?_ _ | refine blk_drew ?_ | refine blk_alloc ?_ _)); exact BK497.out)) : gb498 ≠ gb497)); clear BK497; clear HB; have BK497 := n0_; have HB := n1_; have BK498 := n2_; have GW498 := n3_; have GE498 := n4_; have NB497_498 := n5_; have NB498_497 := n6_; clear n0_ n1_ n2_ n3_ n4_ n5_ n6_; clear hb hbox hg) | ((with_reducible refine gate_dst (N := 3) rfl ?_); refine box_event ?hg (N := 3) ?hd (cs := #[.slice none 0 0]) (t := 26) ?hr ?_; (case hd => rfl); (case hg => rfl); (case hr => first | (go_simp; done) | (go_simp; rfl)); intro gb499 hg w5 hbox hb; have n0_ := aM (blk_below (g := gb497) (o := .cells #[.slice A0_0 l0_0.length c0_0] 36 (0, 0)) (by (with_reducible repeat (first | refine blk_drewN ?_ _ | refine blk_drew ?_ | refine blk_alloc ?_ _)); exact BK497.out) hb); have n1_ := aM (blk_below (g := gb498) (o := .cells #[.slice none 0 0] 26 (0, 0)) (by (with_reducible repeat (first | refine blk_drewN ?_ _ | refine blk_drew ?_ | refine blk_alloc ?_ _)); exact BK498.out) hb); have n2_ := aM (below_step (by repeat (first | (with_reducible first | exact HB.out | apply below_alloc | apply pw_below_drewN | apply below_drew1 | refine below_set ?_ GE497.out | refine below_set ?_ GE498.out) | exact HB.out)) hb); have n3_ := aM (hbox); have n4_ := aM ((by rw [hg]; exact (below_size (by repeat (first | (with_reducible first | exact HB.out | apply below_alloc | apply pw_below_drewN | apply below_drew1 | refine below_set ?_ GE497.out | refine below_set ?_ GE498.out) | exact HB.out))) : w.heap.size ≤ gb499)); have n5_ := aM ((by rw [hg]; exact (below_size (by repeat (first | (with_reducible first | exact HB.out | apply below_alloc | apply pw_below_drewN | apply below_drew1 | refine below_set ?_ GE497.out | refine below_set ?_ GE498.out) | exact HB.out))) : w.heap.size ≤ gb499)); have n6_ := aM ((by rw [hg]; exact Nat.ne_of_lt (blk_lt (g := gb497) (o := .cells #[.slice A0_0 l0_0.length c0_0] 36 (0, 0)) (by (with_reducible repeat (first | refine blk_drewN ?_ _ | refine blk_drew ?_ | refine blk_alloc ?_ _)); exact BK497.out)) : gb497 ≠ gb499)); have n7_ := aM ((by rw [hg]; exact Nat.ne_of_gt (blk_lt (g := gb497) (o := .cells #[.slice A0_0 l0_0.length c0_0] 36 (0, 0)) (by (with_reducible repeat (first | refine blk_drewN ?_ _ | refine blk_drew ?_ | refine blk_alloc ?_ _)); exact BK497.out)) : gb499 ≠ gb497)); have n8_ := aM ((by rw [hg]; exact Nat.ne_of_lt (blk_lt (g := gb498) (o := .cells #[.slice none 0 0] 26 (0, 0)) (by (with_reducible repeat (first | refine blk_drewN ?_ _ | refine blk_drew ?_ | refine blk_alloc ?_ _)); exact BK498.out)) : gb498 ≠ gb499)); have n9_ := aM ((by rw [hg]; exact Nat.ne_of_gt (blk_lt (g := gb498) (o := .cells #[.slice none 0 0] 26 (0, 0)) (by (with_reducible repeat (first | refine blk_drewN ?_ _ | refine blk_drew ?_ | refine blk_alloc ?_ _)); exact BK498.out)) : gb499 ≠ gb498)); clear BK497; clear BK498; clear HB; have BK497 := n0_; have BK498 := n1_; have HB := n2_; have BK499 := n3_; have GW499 := n4_; have GE499 := n5_; have NB497_499 := n6_; have NB499_497 := n7_; have NB498_499 := n8_; have NB499_498 := n9_; clear n0_ n1_ n2_ n3_ n4_ n5_ n6_ n7_ n8_ n9_; clear hb hbox hg; have hnb6 := NB497_498.out; have hnc6 := NB498_497.out; have hnb7 := NB497_499.out; have hnc7 := NB499_497.out; have hcz8_0 : w5.cell? ⟨gb497, 0, none⟩ = some (.slice A0_0 l0_0.length c0_0) := (blk_cell BK497.out 0).trans rfl; have hfz8_0 := blk_frozen BK497.out 0) | ((with_reducible refine gate_callee (f := 53) rfl ?_); refine goesL_ (some 6) rfl rfl Try.func53 (by kernel_rfl) rfl #[.slice A0_0 l0_0.length c0_0] rfl (by (try simp only [List.map_toArray, List.map_cons, List.map_nil]); first | done | rfl | (simp only [List.length_drop, List.length_take]; rfl)) ?_; (with_reducible refine (laws_toEdgeS.calls k _ _ l0_0 t500 _ ?side1 ?side2 A2.out).mono ?_); (case side1 => repeat (first | exact (Kd.C_below HR0_0.out HB.out) | (with_reducible refine Kd.C_alloc ?_ _) | (with_reducible refine Kd.C_drewN ?_ _) | (with_reducible refine Kd.C_drew ?_))); (case side2 => exact HC0_0.out); rintro e w9 ⟨v501, rfl, ho0, hb⟩; refine ⟨_, rfl, ?_⟩; have n0_ := aM (Kd.R_lower ho0 (below_size (by repeat (first | (with_reducible first | exact HB.out | apply below_alloc | apply pw_below_drewN | apply below_drew1 | refine below_set ?_ GE497.out | refine below_set ?_ GE498.out | refine below_set ?_ GE499.out) | exact HB.out)))); have n1_ := aM (blk_below (g := gb497) (o := .cells #[.slice A0_0 l0_0.length c0_0] 36 (0, 0)) (by (with_reducible repeat (first | refine blk_drewN ?_ _ | refine blk_drew ?_ | refine blk_alloc ?_ _)); exact BK497.out) hb); have n2_ := aM (blk_below (g := gb498) (o := .cells #[.slice none 0 0] 26 (0, 0)) (by (with_reducible repeat (first | refine blk_drewN ?_ _ | refine blk_drew ?_ | refine blk_alloc ?_ _)); exact BK498.out) hb); have n3_ := aM (blk_below (g := gb499) (o := .cells #[.slice none 0 0] 26 (0, 0)) (by (with_reducible repeat (first | refine blk_drewN ?_ _ | refine blk_drew ?_ | refine blk_alloc ?_ _)); exact BK499.out) hb); have n4_ := aM (below_step (by repeat (first | (with_reducible first | exact HB.out | apply below_alloc | apply pw_below_drewN | apply below_drew1 | refine below_set ?_ GE497.out | refine below_set ?_ GE498.out | refine below_set ?_ GE499.out) | exact HB.out)) hb); clear BK497; clear BK498; clear BK499; clear HB; have HO502 := n0_; have BK497 := n1_; have BK498 := n2_; have BK499 := n3_; have HB := n4_; clear n0_ n1_ n2_ n3_ n4_; (try clear hb); (try clear hb2); (try clear hk); (try clear hi); (try clear ho0); obtain ⟨Ao10, co10, eo10⟩ := Kd.R_slice HO502.out; subst eo10; have hnb11 := NB499_498.out; have hnc11 := NB498_499.out; have hcz12_0 : w9.cell? ⟨gb499, 0, none⟩ = some (.slice none 0 0) := (blk_cell BK499.out 0).trans rfl; have hfz12_0 := blk_frozen BK499.out 0; have hcz13_0 : w9.cell? ⟨gb498, 0, none⟩ = some (.slice none 0 0) := (blk_cell BK498.out 0).trans rfl; have hfz13_0 := blk_frozen BK498.out 0))
 refine bodyPost_ret (results_cell_row rfl _ _ gb498 26 #[.slice Ao10 t500.length co10] (0, 0) _ rfl (by (with_reducible repeat (first | refine blk_drewN ?_ _ | refine blk_drew ?_ | refine blk_alloc ?_ _)); refine blk_put (cs := #[.slice none 0 0]) ?_ 0 _ rfl; (with_reducible repeat (first | refine blk_drewN ?_ _ | refine blk_drew ?_ | refine blk_alloc ?_ _)); refine blk_far ?_ NB498_499.out _; (with_reducible repeat (first | refine blk_drewN ?_ _ | refine blk_drew ?_ | refine blk_alloc ?_ _)); exact BK498.out) Try.underlying26 rfl (by kernel_rfl)) rfl ?_
 exact ⟨_, by first | rfl | (simp [errW_none, errW_some] <;> rfl) | (simp [*, errW_none, errW_some] <;> rfl), by (with_reducible repeat (first | apply Kd.R_alloc | apply Kd.R_drewN | apply Kd.R_drew)); exact Kd.R_mono (Kd.R_far (p := ⟨gb498, 0, none⟩) (Kd.R_far (p := ⟨gb499, 0, none⟩) (Kd.R_types (Kd.R_types HO502.out BK499.out (by decide)) BK498.out (by decide)) (fun _ hk => hk.1.2) (.slice Ao10 t500.length co10)) (fun _ hk => hk.2) (.slice Ao10 t500.length co10)) (fun _ hk => trivial), by repeat (first | (with_reducible first | exact HB.out | apply below_alloc | apply pw_below_drewN | apply below_drew1 | refine below_set ?_ GE497.out | refine below_set ?_ GE498.out | refine below_set ?_ GE499.out) | exact HB.out)⟩

def impl_common.l0 : Nat → ByteArray → ByteArray → Int → Option (Int)
 | 0, _, _, _ => none
 | k + 1, x0, x1, x5 => if x5 < (x0.size : Int) then (if x5 < (x1.size : Int) then (if 0 ≤ x5 then (if (bt x0 x5) = (bt x1 x5) then (impl_common.l0 k x0 x1 (wrap64 (x5 + 1))) else (some x5)) else (none)) else (some x5)) else (some x5)
def impl_common.f (k : Nat) (a0 : ByteArray) (a1 : ByteArray) : Option (Int) := impl_common.l0 k a0 a1 0
set_option maxHeartbeats 8000000 in
set_option maxRecDepth 100000 in
theorem impl_common.calls (k : Nat) (a0 : ByteArray) (a1 : ByteArray) (r : Int) (w : World) (h : impl_common.f k a0 a1 = some r) :
  Calls Try.prog 96 #[.string a0, .string a1] w fun e w' => e = .returned (.int .i64 r) ∧ Drawn0 w w' := by
 have H : (impl_common.l0 k a0 a1 0) = some r := h
 clear h
 have H' := aM H
 clear H
 go_enter Try.func96, Try.ntmps96
 go_wp2
 repeat (go_quiet (fail); try go_wp2)
 go_loopg [5] k (fun kq v5 w' => ∃ (x5_1 : Int), v5 = .int .i64 x5_1 ∧ Aside0 (impl_common.l0 kq a0 a1 x5_1 = some r) ∧ Aside0 (kq ≤ k) ∧ Drawn0 w w')
 case atStart => exact ⟨(0), (by first | rfl | (simp; done) | (simp [*]; done)), H', ⟨Nat.le_refl _⟩, by repeat (first | exact Drawn0.refl _ | apply Drawn0.step)⟩
 case round =>
  clear H'
  try clear p2
  obtain ⟨x5_1, rfl, HA, HK1, ⟨m1, rfl⟩⟩ := hrel
  cases gk with
  | zero => exact absurd HA.out (by simp [impl_common.l0])
  | succ k1 =>
   have H := HA.out
   clear HA
   simp only [impl_common.l0] at H
   by_cases c3 : x5_1 < (a0.size : Int)
   ·
    rw [if_pos c3] at H
    have c3b0 : decide (x5_1 < (a0.size : Int)) = true := decide_eq_true c3
    clear c3
    by_cases c4 : x5_1 < (a1.size : Int)
    ·
     rw [if_pos c4] at H
     have c4b0 : decide (x5_1 < (a1.size : Int)) = true := decide_eq_true c4
     clear c4
     by_cases c5 : 0 ≤ x5_1
     ·
      rw [if_pos c5] at H
      have c5b0 : decide (0 ≤ x5_1) = true := decide_eq_true c5
      clear c5
      by_cases c8 : (bt a0 x5_1) = (bt a1 x5_1)
      ·
       rw [if_pos c8] at H
       have c8b0 : ((bt a0 x5_1) == (bt a1 x5_1)) = true := beq_iff_eq.mpr c8
       have c8b1 : ((bt a0 x5_1) != (bt a1 x5_1)) = false := bne_eq_false_iff_eq.mpr c8
       clear c8
       have H' := aM H
       clear H
       have p6 : 0 ≤ (x5_1 : Int) := of_decide_eq_true (by first | (with_reducible assumption) | assumption)
       have q6 : x5_1 < (a0.size : Int) := of_decide_eq_true (by first | (with_reducible assumption) | assumption)
       have hx6 := bt_at a0 x5_1
       replace p6 := eq_true p6
       replace q6 := eq_true q6
       have p7 : 0 ≤ (x5_1 : Int) := of_decide_eq_true (by first | (with_reducible assumption) | assumption)
       have q7 : x5_1 < (a1.size : Int) := of_decide_eq_true (by first | (with_reducible assumption) | assumption)
       have hx7 := bt_at a1 x5_1
       replace p7 := eq_true p7
       replace q7 := eq_true q7
       go_wp2
       repeat (go_quiet (fail); try go_wp2)
       go_roundg k1
       case measure => have := HK1.out; omega
       case rel => exact ⟨(wrap64 (x5_1 + 1)), (by first | rfl | (simp; done) | (simp [*]; done)), H', ⟨by have := HK1.out; omega⟩, by repeat (first | exact Drawn0.refl _ | apply Drawn0.step)⟩
      ·
       rw [if_neg c8] at H
       have c8b0 : ((bt a0 x5_1) == (bt a1 x5_1)) = false := beq_eq_false_iff_ne.mpr c8
       have c8b1 : ((bt a0 x5_1) != (bt a1 x5_1)) = true := bne_iff_ne.mpr c8
       obtain rfl := Option.some.inj H
       have p6 : 0 ≤ (x5_1 : Int) := of_decide_eq_true (by first | (with_reducible assumption) | assumption)
       have q6 : x5_1 < (a0.size : Int) := of_decide_eq_true (by first | (with_reducible assumption) | assumption)
       have hx6 := bt_at a0 x5_1
       replace p6 := eq_true p6
       replace q6 := eq_true q6
       have p7 : 0 ≤ (x5_1 : Int) := of_decide_eq_true (by first | (with_reducible assumption) | assumption)
       have q7 : x5_1 < (a1.size : Int) := of_decide_eq_true (by first | (with_reducible assumption) | assumption)
       have hx7 := bt_at a1 x5_1
       replace p7 := eq_true p7
       replace q7 := eq_true q7
       go_wp2
       repeat (go_quiet (fail); try go_wp2)
       go_ret
       exact ⟨by first | rfl | (simp; done) | (simp [*]; done), by repeat (first | exact Drawn0.refl _ | apply Drawn0.step)⟩
     ·
      rw [if_neg c5] at H
      exact absurd H (by simp)
    ·
     rw [if_neg c4] at H
     have c4b0 : decide (x5_1 < (a1.size : Int)) = false := decide_eq_false c4
     clear c4
     obtain rfl := Option.some.inj H
     go_wp2
     repeat (go_quiet (fail); try go_wp2)
     go_ret
     exact ⟨by first | rfl | (simp; done) | (simp [*]; done), by repeat (first | exact Drawn0.refl _ | apply Drawn0.step)⟩
   ·
    rw [if_neg c3] at H
    have c3b0 : decide (x5_1 < (a0.size : Int)) = false := decide_eq_false c3
    clear c3
    obtain rfl := Option.some.inj H
    go_wp2
    repeat (go_quiet (fail); try go_wp2)
    go_ret
    exact ⟨by first | rfl | (simp; done) | (simp [*]; done), by repeat (first | exact Drawn0.refl _ | apply Drawn0.step)⟩

mutual
def impl_grow.l0 : Nat → List (S64) → List ByteArray → Int → Int → Option ((List (S64)))
 | 0, _, _, _, _ => none
 | k + 1, x0, x1, x2, x3 => if (x1.length : Int) > 0 then (impl_grow.l1 k x0 x1 x2 x3 1) else (some x0)
def impl_grow.j2 : Nat → List (S64) → List ByteArray → Int → Int → Int → Option ((List (S64)))
 | 0, _, _, _, _, _ => none
 | k + 1, x0, x1, x2, x3, x9 => if 0 < (x1.length : Int) then (if 0 ≤ x2 then (if x2 ≤ ((rdOf ByteArray.empty x1 0).size : Int) then (if 0 ≤ (wrap64 (x9 - 1)) then (if (wrap64 (x9 - 1)) < (x1.length : Int) then (if x2 ≤ ((rdOf ByteArray.empty x1 (wrap64 (x9 - 1))).size : Int) then ((impl_common.f k ((rdOf ByteArray.empty x1 0).extract (x2 : Int).toNat (rdOf ByteArray.empty x1 0).size) ((rdOf ByteArray.empty x1 (wrap64 (x9 - 1))).extract (x2 : Int).toNat (rdOf ByteArray.empty x1 (wrap64 (x9 - 1))).size)).bind fun t106 => (if x2 ≤ (wrap64 (x2 + t106)) then (if (wrap64 (x2 + t106)) ≤ ((rdOf ByteArray.empty x1 0).size : Int) then (if x0.length < 4398046511104 then ((some (x0 ++ [(⟨(rdOf ByteArray.empty x1 0).extract (x2 : Int).toNat ((wrap64 (x2 + t106)) : Int).toNat, (((rdOf ByteArray.empty x1 0).size : Int) == (wrap64 (x2 + t106))), x3⟩ : S64)] : List (S64))).bind fun y109 => (if 0 ≤ x9 then (if x9 ≤ (x1.length : Int) then ((some (x1.take (x9 : Int).toNat : List ByteArray)).bind fun y112 => (if 0 ≤ (x0.length : Int) then (if (x0.length : Int) < (y109.length : Int) then (if (rd_T64 y109 (x0.length : Int)).f1 = true then (if 1 ≤ (y112.length : Int) then ((impl_grow.f k y109 (y112.drop 1) (wrap64 (x2 + t106)) (x0.length : Int)).bind fun t123 => (impl_grow.l0 k t123 (x1.drop (x9 : Int).toNat) x2 x3)) else (none)) else ((impl_grow.f k y109 y112 (wrap64 (x2 + t106)) (x0.length : Int)).bind fun t131 => (impl_grow.l0 k t131 (x1.drop (x9 : Int).toNat) x2 x3))) else (none)) else (none))) else (none)) else (none))) else (none)) else (none)) else (none))) else (none)) else (none)) else (none)) else (none)) else (none)) else (none)
def impl_grow.l1 : Nat → List (S64) → List ByteArray → Int → Int → Int → Option ((List (S64)))
 | 0, _, _, _, _, _ => none
 | k + 1, x0, x1, x2, x3, x9 => if x9 < (x1.length : Int) then (if 0 ≤ x9 then (if 0 ≤ x2 then (if x2 < ((rdOf ByteArray.empty x1 x9).size : Int) then (if 0 < (x1.length : Int) then (if x2 < ((rdOf ByteArray.empty x1 0).size : Int) then (if (bt (rdOf ByteArray.empty x1 x9) x2) = (bt (rdOf ByteArray.empty x1 0) x2) then (impl_grow.l1 k x0 x1 x2 x3 (wrap64 (x9 + 1))) else (impl_grow.j2 k x0 x1 x2 x3 x9)) else (none)) else (none)) else (none)) else (none)) else (none)) else (impl_grow.j2 k x0 x1 x2 x3 x9)
def impl_grow.f : Nat → List (S64) → List ByteArray → Int → Int → Option ((List (S64)))
 | 0, _, _, _, _ => none
 | k + 1, l0, l1, a2, a3 => impl_grow.l0 k l0 l1 a2 a3
end
def impl_grow.T3 : Bool × List (List Nat × List Nat) := (true, [([], []), ([], []), ([1], [1]), ([0, 2], [0, 2]), ([3], [3]), ([4], [4]), ([4], [4]), ([5, 6, 4], [4, 5, 6]), ([7, 4], [4, 7]), ([4], [4]), ([8, 9, 4], [4, 8, 9]), ([4], [4]), ([11, 4], [4, 11]), ([12, 4], [4, 12]), ([4], [4]), ([13, 14, 4], [4, 13, 14]), ([10, 15, 4], [4, 10, 15]), ([4, 16], [4, 16])])
def impl_grow.B3 : List Nat := [0, 0, 2, 7, 15, 31, 31, 127, 255, 31, 1023, 31, 2079, 6175, 31, 30751, 65535, 131071]
theorem impl_grow.tab3 : rtab .any (opsOf Try.f72 3) = impl_grow.T3 := by kernel_rfl
theorem impl_grow.bits3 : waitsOk impl_grow.T3.2 impl_grow.B3 = true := by kernel_rfl
def impl_grow.T5 : Bool × List (List Nat × List Nat) := (true, [([], []), ([0], [0]), ([1], [1]), ([], []), ([2, 3], [2, 3]), ([], []), ([], []), ([6], [6]), ([5, 7], [5, 7]), ([8], [8]), ([], []), ([9, 10], [9, 10]), ([4, 11], [4, 11]), ([12, 12, 0, 1, 2, 3, 4, 5, 6, 7, 8, 9, 10, 11, 12], [12])])
def impl_grow.B5 : List Nat := [0, 1, 3, 0, 15, 0, 0, 64, 224, 480, 0, 2016, 4095, 8191]
theorem impl_grow.tab5 : rtab .any (opsOf Try.f72 5) = impl_grow.T5 := by kernel_rfl
theorem impl_grow.bits5 : waitsOk impl_grow.T5.2 impl_grow.B5 = true := by kernel_rfl
def impl_grow.T8 : Bool × List (List Nat × List Nat) := (true, [([], []), ([], []), ([1], [1]), ([2], [2]), ([], []), ([], []), ([3, 4, 5], [3, 4, 5]), ([], []), ([7], [7]), ([8], [8]), ([9], [9]), ([], []), ([10, 11], [10, 11]), ([], []), ([6, 12, 13], [6, 12, 13]), ([14], [14]), ([0, 15], [0, 15]), ([16, 16, 0, 1, 2, 3, 4, 5, 6, 7, 8, 9, 10, 11, 12, 13, 14, 15, 16], [0, 16])])
def impl_grow.B8 : List Nat := [0, 0, 2, 6, 0, 0, 62, 0, 128, 384, 896, 0, 3968, 0, 16382, 32766, 65535, 131071]
theorem impl_grow.tab8 : rtab .any (opsOf Try.f72 8) = impl_grow.T8 := by kernel_rfl
theorem impl_grow.bits8 : waitsOk impl_grow.T8.2 impl_grow.B8 = true := by kernel_rfl
set_option maxHeartbeats 8000000 in
set_option maxRecDepth 100000 in
theorem impl_grow.calls (k : Nat) : ∀ (P0_ : Nat → Prop) (u9000_ : Value) (l0 : List (S64)) (P1_ : Nat → Prop) (A1 : Option Addr) (c1 : Nat) (l1 : List ByteArray) (a2 : Int) (a3 : Int) (r : List (S64)) (w0 w : World) (hB : Below w0.heap.size w0 w) (ho0 : Kd.R k64 64 w w0.heap.size P0_ u9000_ l0) (hs1 : Kd.V Kd.string 9 w w0.heap.size (fun k_ => P1_ k_ ∧ some k_ ≠ (u9000_ : Value).ownBlock) (.slice A1 l1.length c1) l1) (h : impl_grow.f k l0 l1 a2 a3 = some r),
  Calls Try.prog 72 #[u9000_, .slice A1 l1.length c1, .int .i64 a2, .int .i64 a3] w fun e w' => ∃ v0_ : Value, e = .returned (v0_) ∧ Kd.R k64 64 w' w0.heap.size (fun k_ => (P0_ k_ ∨ w.heap.size ≤ k_)) v0_ r ∧ Below w0.heap.size w0 w' ∧ Kept w w' (fun k_ => P0_ k_) := by
 induction k using Nat.strongRecOn with
 | _ k ih =>
 intro P0_ u9000_ l0 P1_ A1 c1 l1 a2 a3 r w0 w hB ho0 hs1 h
 cases k with
 | zero => exact absurd h (by simp [impl_grow.f])
 | succ k =>
 simp only [impl_grow.f] at h
 have hu64 := Try.underlying64
 have HO0 := aM (show Kd.R k64 64 w w0.heap.size (fun k_ => (P0_ k_ ∨ w.heap.size ≤ k_)) u9000_ l0 from Kd.R_mono ho0 (fun k_ hk => (.inl hk)))
 have HO1 := aM (show Kd.V Kd.string 9 w w0.heap.size (fun k_ => ((P0_ k_ ∨ P1_ k_) ∨ w.heap.size ≤ k_) ∧ some k_ ≠ (u9000_ : Value).ownBlock) (.slice A1 l1.length c1) l1 from Kd.V_mono hs1 (fun k_ hk => ⟨.inl (.inr hk.1), hk.2⟩))
 have HK := aM (Kept.refl w (fun k_ => P0_ k_))
 have HW0 := aM hB.size
 have HB := aM hB
 clear hB
 have H : (impl_grow.l0 k l0 l1 a2 a3) = some r := h
 clear h
 have H' := aM H
 clear H
 go_enter Try.func72, Try.ntmps72
 go_wp2
 go_loopg [0, 1] k (fun kq v0 v1 w' => ∃ (x0_1 : List (S64)) (x1_1 : List ByteArray), Aside0 (impl_grow.l0 kq x0_1 x1_1 a2 a3 = some r) ∧ Aside0 (kq ≤ k) ∧ Aside0 (Kd.R k64 64 w' w0.heap.size (fun k_ => (P0_ k_ ∨ w.heap.size ≤ k_)) v0 x0_1) ∧ Aside0 (Kd.V Kd.string 9 w' w0.heap.size (fun k_ => ((P0_ k_ ∨ P1_ k_) ∨ w.heap.size ≤ k_) ∧ some k_ ≠ (v0 : Value).ownBlock) v1 x1_1) ∧ Aside0 (Kept w w' (fun k_ => P0_ k_)) ∧ Aside0 (Below w0.heap.size w0 w'))
 case atStart => exact ⟨(l0), (l1), H', ⟨Nat.le_refl _⟩, ⟨by (with_reducible repeat (first | apply Kd.R_alloc | apply Kd.R_drewN | apply Kd.R_drew)); exact HO0.out⟩, ⟨by (with_reducible repeat (first | apply Kd.V_alloc | apply Kd.V_drewN | apply Kd.V_drew)); exact HO1.out⟩, ⟨by repeat (first | (with_reducible first | exact HK.out | apply Kept.alloc | apply Kept.drewN | apply Kept.drew) | exact HK.out)⟩, ⟨by repeat (first | (with_reducible first | exact HB.out | apply below_alloc | apply pw_below_drewN | apply below_drew1) | exact HB.out)⟩⟩
 case round =>
  clear H'
  try clear c1
  try clear p2
  obtain ⟨x0_1, x1_1, HA, HK1, HO_0, HO_1, HK, HB⟩ := hrel
  cases gk with
  | zero => exact absurd HA.out (by simp [impl_grow.l0])
  | succ k1 =>
   have H := HA.out
   clear HA
   simp only [impl_grow.l0] at H
   by_cases c5 : (x1_1.length : Int) > 0
   ·
    rw [if_pos c5] at H
    have c5b0 : decide (0 < (x1_1.length : Int)) = true := decide_eq_true c5
    have c5b1 : decide (0 < x1_1.length) = true := decide_eq_true (by omega)
    clear c5
    have HC6 := aM H
    clear H
    obtain ⟨Ao7, co7, eo7⟩ := Kd.V_slice HO_1.out
    subst eo7
    go_upto_block 2 with (fail)
    go_cut [9] (fun v9 wc => ∃ (kq : Nat) (x9_5 : Int), v9 = .int .i64 x9_5 ∧ Aside0 (impl_grow.j2 kq x0_1 x1_1 a2 a3 x9_5 = some r) ∧ Aside0 (kq ≤ k1) ∧ Aside0 (Kd.R k64 64 wc w0.heap.size (fun k_ => (P0_ k_ ∨ w.heap.size ≤ k_)) u0 x0_1) ∧ Aside0 (Kd.V Kd.string 9 wc w0.heap.size (fun k_ => ((P0_ k_ ∨ P1_ k_) ∨ w.heap.size ≤ k_) ∧ some k_ ≠ (u0 : Value).ownBlock) (.slice Ao7 x1_1.length co7) x1_1) ∧ Aside0 (Kept w wc (fun k_ => P0_ k_)) ∧ Aside0 (Below w0.heap.size w0 wc))
    case first =>
     have H := HC6.out
     clear HC6
     have H' := aM H
     clear H
     go_wp2
     go_loopg [9] k1 (fun kq v9 w' => ∃ (x9_2 : Int), v9 = .int .i64 x9_2 ∧ Aside0 (impl_grow.l1 kq x0_1 x1_1 a2 a3 x9_2 = some r) ∧ Aside0 (kq ≤ k1) ∧ Aside0 (Kd.R k64 64 w' w0.heap.size (fun k_ => (P0_ k_ ∨ w.heap.size ≤ k_)) u0 x0_1) ∧ Aside0 (Kd.V Kd.string 9 w' w0.heap.size (fun k_ => ((P0_ k_ ∨ P1_ k_) ∨ w.heap.size ≤ k_) ∧ some k_ ≠ (u0 : Value).ownBlock) (.slice Ao7 x1_1.length co7) x1_1) ∧ Aside0 (Kept w w' (fun k_ => P0_ k_)) ∧ Aside0 (Below w0.heap.size w0 w'))
     case atStart => exact ⟨(1), (by first | rfl | (simp; done) | (simp [*]; done)), H', ⟨Nat.le_refl _⟩, ⟨by (with_reducible repeat (first | apply Kd.R_alloc | apply Kd.R_drewN | apply Kd.R_drew)); exact HO_0.out⟩, ⟨by (with_reducible repeat (first | apply Kd.V_alloc | apply Kd.V_drewN | apply Kd.V_drew)); exact HO_1.out⟩, ⟨by repeat (first | (with_reducible first | exact HK.out | apply Kept.alloc | apply Kept.drewN | apply Kept.drew) | exact HK.out)⟩, ⟨by repeat (first | (with_reducible first | exact HB.out | apply below_alloc | apply pw_below_drewN | apply below_drew1) | exact HB.out)⟩⟩
     case round =>
      clear H'
      try clear c1
      try clear p2
      try clear c5
      try clear c5b0
      try clear c5b1
      try clear c7
      try clear p2
      obtain ⟨x9_2, rfl, HA, HK2, HO_0, HO_1, HK, HB⟩ := hrel
      cases gk with
      | zero => exact absurd HA.out (by simp [impl_grow.l1])
      | succ k2 =>
       have H := HA.out
       clear HA
       simp only [impl_grow.l1] at H
       by_cases c8 : x9_2 < (x1_1.length : Int)
       ·
        rw [if_pos c8] at H
        have c8b0 : decide (x9_2 < (x1_1.length : Int)) = true := decide_eq_true c8
        clear c8
        (first | rw [c8b0] | (simp only [i64_w, i32_w]; rw [c8b0]) | skip)
        by_cases c9 : 0 ≤ x9_2
        ·
         rw [if_pos c9] at H
         have c9b0 : decide (0 ≤ x9_2) = true := decide_eq_true c9
         clear c9
         by_cases c10 : 0 ≤ a2
         ·
          rw [if_pos c10] at H
          have c10b0 : decide (0 ≤ a2) = true := decide_eq_true c10
          clear c10
          by_cases c11 : a2 < ((rdOf ByteArray.empty x1_1 x9_2).size : Int)
          ·
           rw [if_pos c11] at H
           have c11b0 : decide (a2 < ((rdOf ByteArray.empty x1_1 x9_2).size : Int)) = true := decide_eq_true c11
           clear c11
           by_cases c13 : 0 < (x1_1.length : Int)
           ·
            rw [if_pos c13] at H
            have c13b0 : decide (0 < (x1_1.length : Int)) = true := decide_eq_true c13
            have c13b1 : decide (0 < x1_1.length) = true := decide_eq_true (by omega)
            clear c13
            by_cases c14 : a2 < ((rdOf ByteArray.empty x1_1 0).size : Int)
            ·
             rw [if_pos c14] at H
             have c14b0 : decide (a2 < ((rdOf ByteArray.empty x1_1 0).size : Int)) = true := decide_eq_true c14
             clear c14
             by_cases c16 : (bt (rdOf ByteArray.empty x1_1 x9_2) a2) = (bt (rdOf ByteArray.empty x1_1 0) a2)
             ·
              rw [if_pos c16] at H
              have c16b0 : ((bt (rdOf ByteArray.empty x1_1 x9_2) a2) == (bt (rdOf ByteArray.empty x1_1 0) a2)) = true := beq_iff_eq.mpr c16
              have c16b1 : ((bt (rdOf ByteArray.empty x1_1 x9_2) a2) != (bt (rdOf ByteArray.empty x1_1 0) a2)) = false := bne_eq_false_iff_eq.mpr c16
              clear c16
              have H' := aM H
              clear H
              try go_wp2
              have n0_ := aM (Kd.R_drew HO_0.out)
              have n1_ := aM (Kd.V_drew HO_1.out)
              have n2_ := aM (Kept.drew HK.out)
              have n3_ := aM (below_drew1 HB.out)
              clear HO_0
              clear HO_1
              clear HK
              clear HB
              have HO_0 := n0_
              have HO_1 := n1_
              have HK := n2_
              have HB := n3_
              clear n0_ n1_ n2_ n3_
              have p102 : 0 ≤ (x9_2 : Int) := of_decide_eq_true (by first | (with_reducible assumption) | assumption)
              have q102 : x9_2 < (x1_1.length : Int) := of_decide_eq_true (by first | (with_reducible assumption) | assumption)
              obtain ⟨ad102, e102, hx102_0⟩ := Kd.at_string (Kd.V_reads' HO_1.out).2.2 x9_2 p102 q102
              cases e102
              replace p102 := eq_true p102
              replace q102 := eq_true q102
              have p12 : 0 ≤ (a2 : Int) := of_decide_eq_true (by first | (with_reducible assumption) | assumption)
              have q12 : a2 < ((rdOf ByteArray.empty x1_1 x9_2).size : Int) := of_decide_eq_true (by first | (with_reducible assumption) | assumption)
              have hx12 := bt_at (rdOf ByteArray.empty x1_1 x9_2) a2
              replace p12 := eq_true p12
              replace q12 := eq_true q12
              have p103 : 0 ≤ (0 : Int) := (by omega)
              have q103 : 0 < (x1_1.length : Int) := of_decide_eq_true (by first | (with_reducible assumption) | assumption)
              obtain ⟨ad103, e103, hx103_0⟩ := Kd.at_string (Kd.V_reads' HO_1.out).2.2 0 p103 q103
              obtain rfl : ad102 = ad103 := (by injection e103)
              have qi103 : (0 < x1_1.length) = True := eq_true (by omega)
              (try rw [show ((0 : Int)).toNat = 0 from rfl] at hx103_0)
              (try rw [Addr.add_zero'] at hx103_0)
              replace p103 := eq_true p103
              replace q103 := eq_true q103
              have p15 : 0 ≤ (a2 : Int) := of_decide_eq_true (by first | (with_reducible assumption) | assumption)
              have q15 : a2 < ((rdOf ByteArray.empty x1_1 0).size : Int) := of_decide_eq_true (by first | (with_reducible assumption) | assumption)
              have hx15 := bt_at (rdOf ByteArray.empty x1_1 0) a2
              replace p15 := eq_true p15
              replace q15 := eq_true q15
              refine start_ (n := 18) (S := fun w' => w'.cell? (ad102.add (x9_2).toNat) = some (.string (rdOf ByteArray.empty x1_1 x9_2)) ∧ w'.cell? ad102 = some (.string (rdOf ByteArray.empty x1_1 0))) (ds := []) (bq 18 0) (by kernel_rfl) rfl (by kernel_rfl) ⟨hx102_0, hx103_0⟩ (fun hHeld => ?_); refine with_tabW impl_grow.tab3 impl_grow.bits3 (fun HT_ HW_ => ?_)
              generalize wr.drew = w17 at HO_0 HO_1 HK HB hx102_0 hx103_0 hHeld ⊢
              refine pure_ (i := 0) (N := some 17) (v := ?_) (a' := ?_) (bq 18 1) rfl rfl (any_of HT_.out (by kernel_rfl)) (fun _ _ _ h => h) (Or.inl ⟨by rfl, ?_⟩) ?_ ?_; rotate_left; (intro w'; go_simp; (with_reducible rfl)); rotate_left; (simp only [Act.put, zSA, zSB, zSC, i64_w, i32_w]; rfl)
              refine pure_ (i := 1) (N := some 18) (v := ?_) (a' := ?_) (bq 18 3) rfl rfl (any_of HT_.out (by kernel_rfl)) (fun _ _ _ h => h) (Or.inl ⟨by rfl, ?_⟩) ?_ ?_; rotate_left; (intro w'; go_simp; (with_reducible rfl)); rotate_left; (simp only [Act.put, zSA, zSB, zSC, i64_w, i32_w]; rfl)
              refine pure_ (i := 2) (N := some 19) (v := ?_) (a' := ?_) (bq 18 7) rfl rfl (any_of HT_.out (by kernel_rfl)) (fun _ _ _ h => h) (Or.inl ⟨by rfl, ?_⟩) ?_ ?_; rotate_left; (intro w'; go_simp; (with_reducible rfl)); rotate_left; (simp only [Act.put, zSA, zSB, zSC, i64_w, i32_w]; rfl)
              refine pure_ (i := 3) (N := some 20) (v := ?_) (a' := ?_) (bq 18 15) rfl rfl (any_of HT_.out (by kernel_rfl)) (fun _ _ _ h => h) (Or.inl ⟨by rfl, ?_⟩) ?_ ?_; rotate_left; (intro w'; go_simp; (with_reducible rfl)); rotate_left; (simp only [Act.put, zSA, zSB, zSC, i64_w, i32_w]; rfl)
              refine pure_ (i := 4) (N := some 21) (v := ?_) (a' := ?_) (bq 18 31) rfl rfl (any_of HT_.out (by kernel_rfl)) (fun _ _ _ h => h) (Or.inl ⟨by rfl, ?_⟩) ?_ ?_; rotate_left; (intro w'; go_simp; (with_reducible rfl)); rotate_left; (simp only [Act.put, zSA, zSB, zSC, i64_w, i32_w]; rfl)
              refine pure_ (i := 5) (N := some 22) (v := ?_) (a' := ?_) (bq 18 63) rfl rfl (any_of HT_.out (by kernel_rfl)) (fun _ _ _ h => h) (Or.inl ⟨by rfl, ?_⟩) ?_ ?_; rotate_left; (intro w'; go_simp; (with_reducible rfl)); rotate_left; (simp only [Act.put, zSA, zSB, zSC, i64_w, i32_w]; rfl)
              refine pure_ (i := 6) (N := some 23) (v := ?_) (a' := ?_) (bq 18 127) rfl rfl (any_of HT_.out (by kernel_rfl)) (fun _ _ _ h => h) (Or.inl ⟨by rfl, ?_⟩) ?_ ?_; rotate_left; (intro w'; go_simp; (with_reducible rfl)); rotate_left; (simp only [Act.put, zSA, zSB, zSC, i64_w, i32_w]; rfl)
              refine pure_ (i := 7) (N := some 24) (v := ?_) (a' := ?_) (bq 18 255) rfl rfl (any_of HT_.out (by kernel_rfl)) (fun _ _ _ h => h) (Or.inl ⟨by rfl, ?_⟩) ?_ ?_; rotate_left; (intro w'; go_simp; (with_reducible rfl)); rotate_left; (simp only [Act.put, zSA, zSB, zSC, i64_w, i32_w]; rfl)
              refine pure_ (i := 9) (N := some 26) (v := ?_) (a' := ?_) (bq 18 767) rfl rfl (any_of HT_.out (by kernel_rfl)) (fun _ _ _ h => h) (Or.inl ⟨by rfl, ?_⟩) ?_ ?_; rotate_left; (intro w'; go_simp; (with_reducible rfl)); rotate_left; (simp only [Act.put, zSA, zSB, zSC, i64_w, i32_w]; rfl)
              refine pure_ (i := 11) (N := some 28) (v := ?_) (a' := ?_) (bq 18 2815) rfl rfl (any_of HT_.out (by kernel_rfl)) (fun _ _ _ h => h) (Or.inl ⟨by rfl, ?_⟩) ?_ ?_; rotate_left; (intro w'; go_simp; (with_reducible rfl)); rotate_left; (simp only [Act.put, zSA, zSB, zSC, i64_w, i32_w]; rfl)
              refine pure_ (i := 12) (N := some 29) (v := ?_) (a' := ?_) (bq 18 6911) rfl rfl (any_of HT_.out (by kernel_rfl)) (fun _ _ _ h => h) (Or.inl ⟨by rfl, ?_⟩) ?_ ?_; rotate_left; (intro w'; go_simp; (with_reducible rfl)); rotate_left; (simp only [Act.put, zSA, zSB, zSC, i64_w, i32_w]; rfl)
              refine pure_ (i := 14) (N := some 31) (v := ?_) (a' := ?_) (bq 18 23295) rfl rfl (any_of HT_.out (by kernel_rfl)) (fun _ _ _ h => h) (Or.inl ⟨by rfl, ?_⟩) ?_ ?_; rotate_left; (intro w'; go_simp; (with_reducible rfl)); rotate_left; (simp only [Act.put, zSA, zSB, zSC, i64_w, i32_w]; rfl)
              refine take_ (i := 8) (N := some 25) (v := ?_) (a' := ?_) (bq 18 23551) rfl rfl (take_ofW HT_.out HW_.out (by kernel_rfl)) (fun _ _ _ h => h) (Or.inl ⟨by rfl, ?_⟩) hHeld ?_ ?_; rotate_left; (rintro w' ⟨s0, s1⟩; go_simp; (with_reducible rfl)); rotate_left; (simp only [Act.put, zSA, zSB, zSC, i64_w, i32_w]; rfl)
              refine take_ (i := 10) (N := some 27) (v := ?_) (a' := ?_) (bq 18 24575) rfl rfl (take_ofW HT_.out HW_.out (by kernel_rfl)) (fun _ _ _ h => h) (Or.inl ⟨by rfl, ?_⟩) hHeld ?_ ?_; rotate_left; (rintro w' ⟨s0, s1⟩; go_simp; (with_reducible rfl)); rotate_left; (simp only [Act.put, zSA, zSB, zSC, i64_w, i32_w]; rfl)
              refine take_ (i := 13) (N := some 30) (v := ?_) (a' := ?_) (bq 18 32767) rfl rfl (take_ofW HT_.out HW_.out (by kernel_rfl)) (fun _ _ _ h => h) (Or.inl ⟨by rfl, ?_⟩) hHeld ?_ ?_; rotate_left; (rintro w' ⟨s0, s1⟩; go_simp; (with_reducible rfl)); rotate_left; (simp only [Act.put, zSA, zSB, zSC, i64_w, i32_w]; rfl)
              refine take_ (i := 15) (N := some 32) (v := ?_) (a' := ?_) (bq 18 65535) rfl rfl (take_ofW HT_.out HW_.out (by kernel_rfl)) (fun _ _ _ h => h) (Or.inl ⟨by rfl, ?_⟩) hHeld ?_ ?_; rotate_left; (rintro w' ⟨s0, s1⟩; go_simp; (with_reducible rfl)); rotate_left; (simp only [Act.put, zSA, zSB, zSC, i64_w, i32_w]; rfl)
              refine pure_ (i := 16) (N := some 33) (v := ?_) (a' := ?_) (bq 18 131071) rfl rfl (any_of HT_.out (by kernel_rfl)) (fun _ _ _ h => h) (Or.inl ⟨by rfl, ?_⟩) ?_ ?_; rotate_left; (intro w'; go_simp; (with_reducible rfl)); rotate_left; (simp only [Act.put, zSA, zSB, zSC, i64_w, i32_w]; rfl)
              refine pure_ (i := 17) (N := some 34) (v := ?_) (a' := ?_) (bq 18 262143) rfl rfl (any_of HT_.out (by kernel_rfl)) (fun _ _ _ h => h) (Or.inl ⟨by rfl, ?_⟩) ?_ ?_; rotate_left; (intro w'; go_simp; (with_reducible rfl)); rotate_left; (simp only [Act.put, zSA, zSB, zSC, i64_w, i32_w]; rfl)
              refine done_ (done_of HT_.out (by kernel_rfl)) ?_
              try go_wp2
              go_roundg k2
              case measure => have := HK1.out; have := HK2.out; omega
              case rel => exact ⟨(wrap64 (x9_2 + 1)), (by first | rfl | (simp; done) | (simp [*]; done)), H', ⟨by have := HK1.out; have := HK2.out; omega⟩, ⟨by (with_reducible repeat (first | apply Kd.R_alloc | apply Kd.R_drewN | apply Kd.R_drew)); exact HO_0.out⟩, ⟨by (with_reducible repeat (first | apply Kd.V_alloc | apply Kd.V_drewN | apply Kd.V_drew)); exact HO_1.out⟩, ⟨by repeat (first | (with_reducible first | exact HK.out | apply Kept.alloc | apply Kept.drewN | apply Kept.drew) | exact HK.out)⟩, ⟨by repeat (first | (with_reducible first | exact HB.out | apply below_alloc | apply pw_below_drewN | apply below_drew1) | exact HB.out)⟩⟩
             ·
              rw [if_neg c16] at H
              have c16b0 : ((bt (rdOf ByteArray.empty x1_1 x9_2) a2) == (bt (rdOf ByteArray.empty x1_1 0) a2)) = false := beq_eq_false_iff_ne.mpr c16
              have c16b1 : ((bt (rdOf ByteArray.empty x1_1 x9_2) a2) != (bt (rdOf ByteArray.empty x1_1 0) a2)) = true := bne_iff_ne.mpr c16
              have H' := aM H
              clear H
              try go_wp2
              have n0_ := aM (Kd.R_drew HO_0.out)
              have n1_ := aM (Kd.V_drew HO_1.out)
              have n2_ := aM (Kept.drew HK.out)
              have n3_ := aM (below_drew1 HB.out)
              clear HO_0
              clear HO_1
              clear HK
              clear HB
              have HO_0 := n0_
              have HO_1 := n1_
              have HK := n2_
              have HB := n3_
              clear n0_ n1_ n2_ n3_
              have p102 : 0 ≤ (x9_2 : Int) := of_decide_eq_true (by first | (with_reducible assumption) | assumption)
              have q102 : x9_2 < (x1_1.length : Int) := of_decide_eq_true (by first | (with_reducible assumption) | assumption)
              obtain ⟨ad102, e102, hx102_0⟩ := Kd.at_string (Kd.V_reads' HO_1.out).2.2 x9_2 p102 q102
              cases e102
              replace p102 := eq_true p102
              replace q102 := eq_true q102
              have p12 : 0 ≤ (a2 : Int) := of_decide_eq_true (by first | (with_reducible assumption) | assumption)
              have q12 : a2 < ((rdOf ByteArray.empty x1_1 x9_2).size : Int) := of_decide_eq_true (by first | (with_reducible assumption) | assumption)
              have hx12 := bt_at (rdOf ByteArray.empty x1_1 x9_2) a2
              replace p12 := eq_true p12
              replace q12 := eq_true q12
              have p103 : 0 ≤ (0 : Int) := (by omega)
              have q103 : 0 < (x1_1.length : Int) := of_decide_eq_true (by first | (with_reducible assumption) | assumption)
              obtain ⟨ad103, e103, hx103_0⟩ := Kd.at_string (Kd.V_reads' HO_1.out).2.2 0 p103 q103
              obtain rfl : ad102 = ad103 := (by injection e103)
              have qi103 : (0 < x1_1.length) = True := eq_true (by omega)
              (try rw [show ((0 : Int)).toNat = 0 from rfl] at hx103_0)
              (try rw [Addr.add_zero'] at hx103_0)
              replace p103 := eq_true p103
              replace q103 := eq_true q103
              have p15 : 0 ≤ (a2 : Int) := of_decide_eq_true (by first | (with_reducible assumption) | assumption)
              have q15 : a2 < ((rdOf ByteArray.empty x1_1 0).size : Int) := of_decide_eq_true (by first | (with_reducible assumption) | assumption)
              have hx15 := bt_at (rdOf ByteArray.empty x1_1 0) a2
              replace p15 := eq_true p15
              replace q15 := eq_true q15
              refine start_ (n := 18) (S := fun w' => w'.cell? (ad102.add (x9_2).toNat) = some (.string (rdOf ByteArray.empty x1_1 x9_2)) ∧ w'.cell? ad102 = some (.string (rdOf ByteArray.empty x1_1 0))) (ds := []) (bq 18 0) (by kernel_rfl) rfl (by kernel_rfl) ⟨hx102_0, hx103_0⟩ (fun hHeld => ?_); refine with_tabW impl_grow.tab3 impl_grow.bits3 (fun HT_ HW_ => ?_)
              generalize wr.drew = w18 at HO_0 HO_1 HK HB hx102_0 hx103_0 hHeld ⊢
              refine pure_ (i := 0) (N := some 17) (v := ?_) (a' := ?_) (bq 18 1) rfl rfl (any_of HT_.out (by kernel_rfl)) (fun _ _ _ h => h) (Or.inl ⟨by rfl, ?_⟩) ?_ ?_; rotate_left; (intro w'; go_simp; (with_reducible rfl)); rotate_left; (simp only [Act.put, zSA, zSB, zSC, i64_w, i32_w]; rfl)
              refine pure_ (i := 1) (N := some 18) (v := ?_) (a' := ?_) (bq 18 3) rfl rfl (any_of HT_.out (by kernel_rfl)) (fun _ _ _ h => h) (Or.inl ⟨by rfl, ?_⟩) ?_ ?_; rotate_left; (intro w'; go_simp; (with_reducible rfl)); rotate_left; (simp only [Act.put, zSA, zSB, zSC, i64_w, i32_w]; rfl)
              refine pure_ (i := 2) (N := some 19) (v := ?_) (a' := ?_) (bq 18 7) rfl rfl (any_of HT_.out (by kernel_rfl)) (fun _ _ _ h => h) (Or.inl ⟨by rfl, ?_⟩) ?_ ?_; rotate_left; (intro w'; go_simp; (with_reducible rfl)); rotate_left; (simp only [Act.put, zSA, zSB, zSC, i64_w, i32_w]; rfl)
              refine pure_ (i := 3) (N := some 20) (v := ?_) (a' := ?_) (bq 18 15) rfl rfl (any_of HT_.out (by kernel_rfl)) (fun _ _ _ h => h) (Or.inl ⟨by rfl, ?_⟩) ?_ ?_; rotate_left; (intro w'; go_simp; (with_reducible rfl)); rotate_left; (simp only [Act.put, zSA, zSB, zSC, i64_w, i32_w]; rfl)
              refine pure_ (i := 4) (N := some 21) (v := ?_) (a' := ?_) (bq 18 31) rfl rfl (any_of HT_.out (by kernel_rfl)) (fun _ _ _ h => h) (Or.inl ⟨by rfl, ?_⟩) ?_ ?_; rotate_left; (intro w'; go_simp; (with_reducible rfl)); rotate_left; (simp only [Act.put, zSA, zSB, zSC, i64_w, i32_w]; rfl)
              refine pure_ (i := 5) (N := some 22) (v := ?_) (a' := ?_) (bq 18 63) rfl rfl (any_of HT_.out (by kernel_rfl)) (fun _ _ _ h => h) (Or.inl ⟨by rfl, ?_⟩) ?_ ?_; rotate_left; (intro w'; go_simp; (with_reducible rfl)); rotate_left; (simp only [Act.put, zSA, zSB, zSC, i64_w, i32_w]; rfl)
              refine pure_ (i := 6) (N := some 23) (v := ?_) (a' := ?_) (bq 18 127) rfl rfl (any_of HT_.out (by kernel_rfl)) (fun _ _ _ h => h) (Or.inl ⟨by rfl, ?_⟩) ?_ ?_; rotate_left; (intro w'; go_simp; (with_reducible rfl)); rotate_left; (simp only [Act.put, zSA, zSB, zSC, i64_w, i32_w]; rfl)
              refine pure_ (i := 7) (N := some 24) (v := ?_) (a' := ?_) (bq 18 255) rfl rfl (any_of HT_.out (by kernel_rfl)) (fun _ _ _ h => h) (Or.inl ⟨by rfl, ?_⟩) ?_ ?_; rotate_left; (intro w'; go_simp; (with_reducible rfl)); rotate_left; (simp only [Act.put, zSA, zSB, zSC, i64_w, i32_w]; rfl)
              refine pure_ (i := 9) (N := some 26) (v := ?_) (a' := ?_) (bq 18 767) rfl rfl (any_of HT_.out (by kernel_rfl)) (fun _ _ _ h => h) (Or.inl ⟨by rfl, ?_⟩) ?_ ?_; rotate_left; (intro w'; go_simp; (with_reducible rfl)); rotate_left; (simp only [Act.put, zSA, zSB, zSC, i64_w, i32_w]; rfl)
              refine pure_ (i := 11) (N := some 28) (v := ?_) (a' := ?_) (bq 18 2815) rfl rfl (any_of HT_.out (by kernel_rfl)) (fun _ _ _ h => h) (Or.inl ⟨by rfl, ?_⟩) ?_ ?_; rotate_left; (intro w'; go_simp; (with_reducible rfl)); rotate_left; (simp only [Act.put, zSA, zSB, zSC, i64_w, i32_w]; rfl)
              refine pure_ (i := 12) (N := some 29) (v := ?_) (a' := ?_) (bq 18 6911) rfl rfl (any_of HT_.out (by kernel_rfl)) (fun _ _ _ h => h) (Or.inl ⟨by rfl, ?_⟩) ?_ ?_; rotate_left; (intro w'; go_simp; (with_reducible rfl)); rotate_left; (simp only [Act.put, zSA, zSB, zSC, i64_w, i32_w]; rfl)
              refine pure_ (i := 14) (N := some 31) (v := ?_) (a' := ?_) (bq 18 23295) rfl rfl (any_of HT_.out (by kernel_rfl)) (fun _ _ _ h => h) (Or.inl ⟨by rfl, ?_⟩) ?_ ?_; rotate_left; (intro w'; go_simp; (with_reducible rfl)); rotate_left; (simp only [Act.put, zSA, zSB, zSC, i64_w, i32_w]; rfl)
              refine take_ (i := 8) (N := some 25) (v := ?_) (a' := ?_) (bq 18 23551) rfl rfl (take_ofW HT_.out HW_.out (by kernel_rfl)) (fun _ _ _ h => h) (Or.inl ⟨by rfl, ?_⟩) hHeld ?_ ?_; rotate_left; (rintro w' ⟨s0, s1⟩; go_simp; (with_reducible rfl)); rotate_left; (simp only [Act.put, zSA, zSB, zSC, i64_w, i32_w]; rfl)
              refine take_ (i := 10) (N := some 27) (v := ?_) (a' := ?_) (bq 18 24575) rfl rfl (take_ofW HT_.out HW_.out (by kernel_rfl)) (fun _ _ _ h => h) (Or.inl ⟨by rfl, ?_⟩) hHeld ?_ ?_; rotate_left; (rintro w' ⟨s0, s1⟩; go_simp; (with_reducible rfl)); rotate_left; (simp only [Act.put, zSA, zSB, zSC, i64_w, i32_w]; rfl)
              refine take_ (i := 13) (N := some 30) (v := ?_) (a' := ?_) (bq 18 32767) rfl rfl (take_ofW HT_.out HW_.out (by kernel_rfl)) (fun _ _ _ h => h) (Or.inl ⟨by rfl, ?_⟩) hHeld ?_ ?_; rotate_left; (rintro w' ⟨s0, s1⟩; go_simp; (with_reducible rfl)); rotate_left; (simp only [Act.put, zSA, zSB, zSC, i64_w, i32_w]; rfl)
              refine take_ (i := 15) (N := some 32) (v := ?_) (a' := ?_) (bq 18 65535) rfl rfl (take_ofW HT_.out HW_.out (by kernel_rfl)) (fun _ _ _ h => h) (Or.inl ⟨by rfl, ?_⟩) hHeld ?_ ?_; rotate_left; (rintro w' ⟨s0, s1⟩; go_simp; (with_reducible rfl)); rotate_left; (simp only [Act.put, zSA, zSB, zSC, i64_w, i32_w]; rfl)
              refine pure_ (i := 16) (N := some 33) (v := ?_) (a' := ?_) (bq 18 131071) rfl rfl (any_of HT_.out (by kernel_rfl)) (fun _ _ _ h => h) (Or.inl ⟨by rfl, ?_⟩) ?_ ?_; rotate_left; (intro w'; go_simp; (with_reducible rfl)); rotate_left; (simp only [Act.put, zSA, zSB, zSC, i64_w, i32_w]; rfl)
              refine pure_ (i := 17) (N := some 34) (v := ?_) (a' := ?_) (bq 18 262143) rfl rfl (any_of HT_.out (by kernel_rfl)) (fun _ _ _ h => h) (Or.inl ⟨by rfl, ?_⟩) ?_ ?_; rotate_left; (intro w'; go_simp; (with_reducible rfl)); rotate_left; (simp only [Act.put, zSA, zSB, zSC, i64_w, i32_w]; rfl)
              refine done_ (done_of HT_.out (by kernel_rfl)) ?_
              try go_wp2
              go_meet
              case rel => exact ⟨_, (x9_2), (by first | rfl | (simp; done) | (simp [*]; done)), H', ⟨by have := HK1.out; have := HK2.out; first | omega | exact Nat.le_refl _⟩, ⟨by (with_reducible repeat (first | apply Kd.R_alloc | apply Kd.R_drewN | apply Kd.R_drew)); exact HO_0.out⟩, ⟨by (with_reducible repeat (first | apply Kd.V_alloc | apply Kd.V_drewN | apply Kd.V_drew)); exact HO_1.out⟩, ⟨by repeat (first | (with_reducible first | exact HK.out | apply Kept.alloc | apply Kept.drewN | apply Kept.drew) | exact HK.out)⟩, ⟨by repeat (first | (with_reducible first | exact HB.out | apply below_alloc | apply pw_below_drewN | apply below_drew1) | exact HB.out)⟩⟩
            ·
             rw [if_neg c14] at H
             exact absurd H (by simp)
           ·
            rw [if_neg c13] at H
            exact absurd H (by simp)
          ·
           rw [if_neg c11] at H
           exact absurd H (by simp)
         ·
          rw [if_neg c10] at H
          exact absurd H (by simp)
        ·
         rw [if_neg c9] at H
         exact absurd H (by simp)
       ·
        rw [if_neg c8] at H
        have c8b0 : decide (x9_2 < (x1_1.length : Int)) = false := decide_eq_false c8
        clear c8
        (first | rw [c8b0] | (simp only [i64_w, i32_w]; rw [c8b0]) | skip)
        have H' := aM H
        clear H
        try go_wp2
        have n0_ := aM (Kd.R_drew HO_0.out)
        have n1_ := aM (Kd.V_drew HO_1.out)
        have n2_ := aM (Kept.drew HK.out)
        have n3_ := aM (below_drew1 HB.out)
        clear HO_0
        clear HO_1
        clear HK
        clear HB
        have HO_0 := n0_
        have HO_1 := n1_
        have HK := n2_
        have HB := n3_
        clear n0_ n1_ n2_ n3_
        refine start_ (n := 18) (S := fun w' => True) (ds := []) (bq 18 0) (by kernel_rfl) rfl (by kernel_rfl) trivial (fun hHeld => ?_); refine with_tabW impl_grow.tab3 impl_grow.bits3 (fun HT_ HW_ => ?_)
        generalize wr.drew = w19 at HO_0 HO_1 HK HB hHeld ⊢
        refine pure_ (i := 0) (N := some 17) (v := ?_) (a' := ?_) (bq 18 1) rfl rfl (any_of HT_.out (by kernel_rfl)) (fun _ _ _ h => h) (Or.inl ⟨by rfl, ?_⟩) ?_ ?_; rotate_left; (intro w'; go_simp; (with_reducible rfl)); rotate_left; (simp only [Act.put, zSA, zSB, zSC, i64_w, i32_w]; rfl)
        refine pure_ (i := 1) (N := some 18) (v := ?_) (a' := ?_) (bq 18 3) rfl rfl (any_of HT_.out (by kernel_rfl)) (fun _ _ _ h => h) (Or.inl ⟨by rfl, ?_⟩) ?_ ?_; rotate_left; (intro w'; go_simp; (with_reducible rfl)); rotate_left; (simp only [Act.put, zSA, zSB, zSC, i64_w, i32_w]; rfl)
        refine pure_ (i := 2) (N := some 19) (v := ?_) (a' := ?_) (bq 18 7) rfl rfl (any_of HT_.out (by kernel_rfl)) (fun _ _ _ h => h) (Or.inl ⟨by rfl, ?_⟩) ?_ ?_; rotate_left; (intro w'; go_simp; (with_reducible rfl)); rotate_left; (simp only [Act.put, zSA, zSB, zSC, i64_w, i32_w]; rfl)
        refine pure_ (i := 3) (N := some 20) (v := ?_) (a' := ?_) (bq 18 15) rfl rfl (any_of HT_.out (by kernel_rfl)) (fun _ _ _ h => h) (Or.inl ⟨by rfl, ?_⟩) ?_ ?_; rotate_left; (intro w'; go_simp; (with_reducible rfl)); rotate_left; (simp only [Act.put, zSA, zSB, zSC, i64_w, i32_w]; rfl)
        refine pure_ (i := 4) (N := some 21) (v := ?_) (a' := ?_) (bq 18 31) rfl rfl (any_of HT_.out (by kernel_rfl)) (fun _ _ _ h => h) (Or.inl ⟨by rfl, ?_⟩) ?_ ?_; rotate_left; (intro w'; go_simp; (with_reducible rfl)); rotate_left; (simp only [Act.put, zSA, zSB, zSC, i64_w, i32_w]; rfl)
        refine pure_ (i := 5) (N := some 22) (v := undef) (a' := ?_) (bq 18 63) rfl rfl (any_of HT_.out (by kernel_rfl)) (fun _ _ _ h => h) (Or.inr ⟨by rfl, rfl⟩) ?_ ?_
        rotate_left
        ·
         simp only [Act.put, zSA, zSB, zSC, i64_w, i32_w]
         rfl
        refine pure_ (i := 6) (N := some 23) (v := undef) (a' := ?_) (bq 18 127) rfl rfl (any_of HT_.out (by kernel_rfl)) (fun _ _ _ h => h) (Or.inr ⟨by rfl, rfl⟩) ?_ ?_
        rotate_left
        ·
         simp only [Act.put, zSA, zSB, zSC, i64_w, i32_w]
         rfl
        refine pure_ (i := 7) (N := some 24) (v := undef) (a' := ?_) (bq 18 255) rfl rfl (any_of HT_.out (by kernel_rfl)) (fun _ _ _ h => h) (Or.inr ⟨by rfl, rfl⟩) ?_ ?_
        rotate_left
        ·
         simp only [Act.put, zSA, zSB, zSC, i64_w, i32_w]
         rfl
        refine pure_ (i := 8) (N := some 25) (v := undef) (a' := ?_) (bq 18 511) rfl rfl (any_of HT_.out (by kernel_rfl)) (fun _ _ _ h => h) (Or.inr ⟨by rfl, rfl⟩) ?_ ?_
        rotate_left
        ·
         simp only [Act.put, zSA, zSB, zSC, i64_w, i32_w]
         rfl
        refine pure_ (i := 9) (N := some 26) (v := undef) (a' := ?_) (bq 18 1023) rfl rfl (any_of HT_.out (by kernel_rfl)) (fun _ _ _ h => h) (Or.inr ⟨by rfl, rfl⟩) ?_ ?_
        rotate_left
        ·
         simp only [Act.put, zSA, zSB, zSC, i64_w, i32_w]
         rfl
        refine pure_ (i := 10) (N := some 27) (v := undef) (a' := ?_) (bq 18 2047) rfl rfl (any_of HT_.out (by kernel_rfl)) (fun _ _ _ h => h) (Or.inr ⟨by rfl, rfl⟩) ?_ ?_
        rotate_left
        ·
         simp only [Act.put, zSA, zSB, zSC, i64_w, i32_w]
         rfl
        refine pure_ (i := 11) (N := some 28) (v := undef) (a' := ?_) (bq 18 4095) rfl rfl (any_of HT_.out (by kernel_rfl)) (fun _ _ _ h => h) (Or.inr ⟨by rfl, rfl⟩) ?_ ?_
        rotate_left
        ·
         simp only [Act.put, zSA, zSB, zSC, i64_w, i32_w]
         rfl
        refine pure_ (i := 12) (N := some 29) (v := undef) (a' := ?_) (bq 18 8191) rfl rfl (any_of HT_.out (by kernel_rfl)) (fun _ _ _ h => h) (Or.inr ⟨by rfl, rfl⟩) ?_ ?_
        rotate_left
        ·
         simp only [Act.put, zSA, zSB, zSC, i64_w, i32_w]
         rfl
        refine pure_ (i := 13) (N := some 30) (v := undef) (a' := ?_) (bq 18 16383) rfl rfl (any_of HT_.out (by kernel_rfl)) (fun _ _ _ h => h) (Or.inr ⟨by rfl, rfl⟩) ?_ ?_
        rotate_left
        ·
         simp only [Act.put, zSA, zSB, zSC, i64_w, i32_w]
         rfl
        refine pure_ (i := 14) (N := some 31) (v := undef) (a' := ?_) (bq 18 32767) rfl rfl (any_of HT_.out (by kernel_rfl)) (fun _ _ _ h => h) (Or.inr ⟨by rfl, rfl⟩) ?_ ?_
        rotate_left
        ·
         simp only [Act.put, zSA, zSB, zSC, i64_w, i32_w]
         rfl
        refine pure_ (i := 15) (N := some 32) (v := undef) (a' := ?_) (bq 18 65535) rfl rfl (any_of HT_.out (by kernel_rfl)) (fun _ _ _ h => h) (Or.inr ⟨by rfl, rfl⟩) ?_ ?_
        rotate_left
        ·
         simp only [Act.put, zSA, zSB, zSC, i64_w, i32_w]
         rfl
        refine pure_ (i := 16) (N := some 33) (v := undef) (a' := ?_) (bq 18 131071) rfl rfl (any_of HT_.out (by kernel_rfl)) (fun _ _ _ h => h) (Or.inr ⟨by rfl, rfl⟩) ?_ ?_
        rotate_left
        ·
         simp only [Act.put, zSA, zSB, zSC, i64_w, i32_w]
         rfl
        refine pure_ (i := 17) (N := some 34) (v := ?_) (a' := ?_) (bq 18 262143) rfl rfl (any_of HT_.out (by kernel_rfl)) (fun _ _ _ h => h) (Or.inl ⟨by rfl, ?_⟩) ?_ ?_; rotate_left; (intro w'; go_simp; (with_reducible rfl)); rotate_left; (simp only [Act.put, zSA, zSB, zSC, i64_w, i32_w]; rfl)
        refine done_ (done_of HT_.out (by kernel_rfl)) ?_
        try go_wp2
        go_meet
        case rel => exact ⟨_, (x9_2), (by first | rfl | (simp; done) | (simp [*]; done)), H', ⟨by have := HK1.out; have := HK2.out; first | omega | exact Nat.le_refl _⟩, ⟨by (with_reducible repeat (first | apply Kd.R_alloc | apply Kd.R_drewN | apply Kd.R_drew)); exact HO_0.out⟩, ⟨by (with_reducible repeat (first | apply Kd.V_alloc | apply Kd.V_drewN | apply Kd.V_drew)); exact HO_1.out⟩, ⟨by repeat (first | (with_reducible first | exact HK.out | apply Kept.alloc | apply Kept.drewN | apply Kept.drew) | exact HK.out)⟩, ⟨by repeat (first | (with_reducible first | exact HB.out | apply below_alloc | apply pw_below_drewN | apply below_drew1) | exact HB.out)⟩⟩
    case rest =>
     clear HC6
     try clear c1
     try clear p1
     try clear q1
     try clear hx1
     try clear qi1
     try clear p2
     try clear c5
     try clear c5b0
     try clear c5b1
     try clear p6
     try clear c7
     try clear c8
     try clear c8b0
     try clear c9
     try clear c9b0
     try clear c10
     try clear c10b0
     try clear p10
     try clear q10
     try clear hx10
     try clear qi10
     try clear c11
     try clear c11b0
     try clear p12
     try clear q12
     try clear hx12
     try clear c13
     try clear c13b0
     try clear c13b1
     try clear c14
     try clear c14b0
     try clear p15
     try clear q15
     try clear hx15
     try clear c16
     try clear c16b0
     try clear c16b1
     try clear hx102_0
     try clear hx103_0
     try clear p102
     try clear p103
     try clear p12
     try clear p15
     try clear p2
     try clear q102
     try clear q103
     try clear q12
     try clear q15
     obtain ⟨kq, x9_5, rfl, HA, HJ5, HO_0, HO_1, HK, HB⟩ := hcut
     cases kq with
     | zero => exact absurd HA.out (by simp [impl_grow.j2])
     | succ kj5 =>
      have H := HA.out
      clear HA
      simp only [impl_grow.j2] at H
      by_cases c20 : 0 < (x1_1.length : Int)
      ·
       rw [if_pos c20] at H
       have c20b0 : decide (0 < (x1_1.length : Int)) = true := decide_eq_true c20
       have c20b1 : decide (0 < x1_1.length) = true := decide_eq_true (by omega)
       clear c20
       by_cases c21 : 0 ≤ a2
       ·
        rw [if_pos c21] at H
        have c21b0 := eq_true c21
        have c21b1 : decide (0 ≤ a2) = true := decide_eq_true c21
        clear c21
        by_cases c22 : a2 ≤ ((rdOf ByteArray.empty x1_1 0).size : Int)
        ·
         rw [if_pos c22] at H
         have c22b0 := eq_true c22
         have c22b1 : decide (a2 ≤ ((rdOf ByteArray.empty x1_1 0).size : Int)) = true := decide_eq_true c22
         clear c22
         obtain ⟨ji23, hji23⟩ : ∃ j_ : Int, (wrap64 (x9_5 - 1)) = j_ := ⟨_, rfl⟩
         replace H : (if 0 ≤ (ji23) then (if (ji23) < (x1_1.length : Int) then (if a2 ≤ ((rdOf ByteArray.empty x1_1 (ji23)).size : Int) then ((impl_common.f kj5 ((rdOf ByteArray.empty x1_1 0).extract (a2 : Int).toNat (rdOf ByteArray.empty x1_1 0).size) ((rdOf ByteArray.empty x1_1 (ji23)).extract (a2 : Int).toNat (rdOf ByteArray.empty x1_1 (ji23)).size)).bind fun t106 => (if a2 ≤ (wrap64 (a2 + t106)) then (if (wrap64 (a2 + t106)) ≤ ((rdOf ByteArray.empty x1_1 0).size : Int) then (if x0_1.length < 4398046511104 then ((some (x0_1 ++ [(⟨(rdOf ByteArray.empty x1_1 0).extract (a2 : Int).toNat ((wrap64 (a2 + t106)) : Int).toNat, (((rdOf ByteArray.empty x1_1 0).size : Int) == (wrap64 (a2 + t106))), a3⟩ : S64)] : List (S64))).bind fun y109 => (if 0 ≤ x9_5 then (if x9_5 ≤ (x1_1.length : Int) then ((some (x1_1.take (x9_5 : Int).toNat : List ByteArray)).bind fun y112 => (if 0 ≤ (x0_1.length : Int) then (if (x0_1.length : Int) < (y109.length : Int) then (if (rd_T64 y109 (x0_1.length : Int)).f1 = true then (if 1 ≤ (y112.length : Int) then ((impl_grow.f kj5 y109 (y112.drop 1) (wrap64 (a2 + t106)) (x0_1.length : Int)).bind fun t123 => (impl_grow.l0 kj5 t123 (x1_1.drop (x9_5 : Int).toNat) a2 a3)) else (none)) else ((impl_grow.f kj5 y109 y112 (wrap64 (a2 + t106)) (x0_1.length : Int)).bind fun t131 => (impl_grow.l0 kj5 t131 (x1_1.drop (x9_5 : Int).toNat) a2 a3))) else (none)) else (none))) else (none)) else (none))) else (none)) else (none)) else (none))) else (none)) else (none)) else (none)) = some r := by first | (rw [hji23] at H; exact H) | (simp only [hji23] at H ⊢; exact H)
         have hji23w : (IntKind.i64.wrap (x9_5 - 1)) = ji23 := (i64_w _).trans hji23
         by_cases c24 : 0 ≤ (ji23)
         ·
          rw [if_pos c24] at H
          have c24b0 : decide (0 ≤ (ji23)) = true := decide_eq_true c24
          clear c24
          by_cases c25 : (ji23) < (x1_1.length : Int)
          ·
           rw [if_pos c25] at H
           have c25b0 : decide ((ji23) < (x1_1.length : Int)) = true := decide_eq_true c25
           clear c25
           have c26b0 := eq_true (of_decide_eq_true (by first | (with_reducible assumption) | assumption) : 0 ≤ a2)
           by_cases c27 : a2 ≤ ((rdOf ByteArray.empty x1_1 (ji23)).size : Int)
           ·
            rw [if_pos c27] at H
            have c27b0 := eq_true c27
            have c27b1 : decide (a2 ≤ ((rdOf ByteArray.empty x1_1 (ji23)).size : Int)) = true := decide_eq_true c27
            clear c27
            replace H := Option.bind_eq_some_iff.mp H
            obtain ⟨t106, A280, H⟩ := H
            replace H : (if a2 ≤ (wrap64 (a2 + t106)) then (if (wrap64 (a2 + t106)) ≤ ((rdOf ByteArray.empty x1_1 0).size : Int) then (if x0_1.length < 4398046511104 then ((some (x0_1 ++ [(⟨(rdOf ByteArray.empty x1_1 0).extract (a2 : Int).toNat ((wrap64 (a2 + t106)) : Int).toNat, (((rdOf ByteArray.empty x1_1 0).size : Int) == (wrap64 (a2 + t106))), a3⟩ : S64)] : List (S64))).bind fun y109 => (if 0 ≤ x9_5 then (if x9_5 ≤ (x1_1.length : Int) then ((some (x1_1.take (x9_5 : Int).toNat : List ByteArray)).bind fun y112 => (if 0 ≤ (x0_1.length : Int) then (if (x0_1.length : Int) < (y109.length : Int) then (if (rd_T64 y109 (x0_1.length : Int)).f1 = true then (if 1 ≤ (y112.length : Int) then ((impl_grow.f kj5 y109 (y112.drop 1) (wrap64 (a2 + t106)) (x0_1.length : Int)).bind fun t123 => (impl_grow.l0 kj5 t123 (x1_1.drop (x9_5 : Int).toNat) a2 a3)) else (none)) else ((impl_grow.f kj5 y109 y112 (wrap64 (a2 + t106)) (x0_1.length : Int)).bind fun t131 => (impl_grow.l0 kj5 t131 (x1_1.drop (x9_5 : Int).toNat) a2 a3))) else (none)) else (none))) else (none)) else (none))) else (none)) else (none)) else (none)) = some r := H
            have A28 := aM A280
            clear A280
            have c29b0 := eq_true (of_decide_eq_true (by first | (with_reducible assumption) | assumption) : 0 ≤ a2)
            by_cases c30 : a2 ≤ (wrap64 (a2 + t106))
            ·
             rw [if_pos c30] at H
             have c30b0 := eq_true c30
             have c30b1 : decide (a2 ≤ (wrap64 (a2 + t106))) = true := decide_eq_true c30
             by_cases c31 : (wrap64 (a2 + t106)) ≤ ((rdOf ByteArray.empty x1_1 0).size : Int)
             ·
              rw [if_pos c31] at H
              have c31b0 := eq_true c31
              have c31b1 : decide ((wrap64 (a2 + t106)) ≤ ((rdOf ByteArray.empty x1_1 0).size : Int)) = true := decide_eq_true c31
              by_cases c32 : x0_1.length < 4398046511104
              ·
               rw [if_pos c32] at H
               have LMc32 := aM c32
               clear c32
               obtain ⟨y109, hy109⟩ : ∃ y_ : List (S64), y_ = (x0_1 ++ [(⟨(rdOf ByteArray.empty x1_1 0).extract (a2 : Int).toNat ((wrap64 (a2 + t106)) : Int).toNat, (((rdOf ByteArray.empty x1_1 0).size : Int) == (wrap64 (a2 + t106))), a3⟩ : S64)]) := ⟨_, rfl⟩
               replace H : (if 0 ≤ x9_5 then (if x9_5 ≤ (x1_1.length : Int) then ((some (x1_1.take (x9_5 : Int).toNat : List ByteArray)).bind fun y112 => (if 0 ≤ (x0_1.length : Int) then (if (x0_1.length : Int) < (y109.length : Int) then (if (rd_T64 y109 (x0_1.length : Int)).f1 = true then (if 1 ≤ (y112.length : Int) then ((impl_grow.f kj5 y109 (y112.drop 1) (wrap64 (a2 + t106)) (x0_1.length : Int)).bind fun t123 => (impl_grow.l0 kj5 t123 (x1_1.drop (x9_5 : Int).toNat) a2 a3)) else (none)) else ((impl_grow.f kj5 y109 y112 (wrap64 (a2 + t106)) (x0_1.length : Int)).bind fun t131 => (impl_grow.l0 kj5 t131 (x1_1.drop (x9_5 : Int).toNat) a2 a3))) else (none)) else (none))) else (none)) else (none)) = some r := by first | (rw [hy109]; with_reducible exact H) | (have H2_ := (Option.bind_some _ _).symm.trans H; rw [hy109]; with_reducible exact H2_) | (have H2_ := (Option.bind_some _ _).symm.trans H; with_reducible exact H2_) | with_reducible exact H | (rw [hy109]; exact H) | exact H
               have Ny109 := aM hy109
               clear hy109
               by_cases c33 : 0 ≤ x9_5
               ·
                rw [if_pos c33] at H
                have c33b0 := eq_true c33
                have c33b1 : decide (0 ≤ x9_5) = true := decide_eq_true c33
                clear c33
                by_cases c34 : x9_5 ≤ (x1_1.length : Int)
                ·
                 rw [if_pos c34] at H
                 have c34b0 := eq_true c34
                 have c34b1 : decide (x9_5 ≤ (x1_1.length : Int)) = true := decide_eq_true c34
                 clear c34
                 obtain ⟨y112, hy112⟩ : ∃ y_ : List ByteArray, y_ = (x1_1.take (x9_5 : Int).toNat) := ⟨_, rfl⟩
                 replace H : (if 0 ≤ (x0_1.length : Int) then (if (x0_1.length : Int) < (y109.length : Int) then (if (rd_T64 y109 (x0_1.length : Int)).f1 = true then (if 1 ≤ (y112.length : Int) then ((impl_grow.f kj5 y109 (y112.drop 1) (wrap64 (a2 + t106)) (x0_1.length : Int)).bind fun t123 => (impl_grow.l0 kj5 t123 (x1_1.drop (x9_5 : Int).toNat) a2 a3)) else (none)) else ((impl_grow.f kj5 y109 y112 (wrap64 (a2 + t106)) (x0_1.length : Int)).bind fun t131 => (impl_grow.l0 kj5 t131 (x1_1.drop (x9_5 : Int).toNat) a2 a3))) else (none)) else (none)) = some r := by first | (rw [hy112]; with_reducible exact H) | (have H2_ := (Option.bind_some _ _).symm.trans H; rw [hy112]; with_reducible exact H2_) | (have H2_ := (Option.bind_some _ _).symm.trans H; with_reducible exact H2_) | with_reducible exact H | (rw [hy112]; exact H) | exact H
                 have Ny112 := aM hy112
                 clear hy112
                 by_cases c35 : 0 ≤ (x0_1.length : Int)
                 ·
                  rw [if_pos c35] at H
                  have c35b0 : decide (0 ≤ (x0_1.length : Int)) = true := decide_eq_true c35
                  have c35b1 : decide (0 ≤ x0_1.length) = true := decide_eq_true (by omega)
                  clear c35
                  by_cases c36 : (x0_1.length : Int) < (y109.length : Int)
                  ·
                   rw [if_pos c36] at H
                   have c36b0 : decide ((x0_1.length : Int) < (y109.length : Int)) = true := decide_eq_true c36
                   have c36b1 : decide (x0_1.length < y109.length) = true := decide_eq_true (Int.ofNat_lt.mp c36)
                   clear c36
                   obtain ⟨bq37, hbq37⟩ : ∃ b_ : Bool, b_ = ((rd_T64 y109 (x0_1.length : Int)).f1) := ⟨_, rfl⟩
                   replace H : (if bq37 = true then (if 1 ≤ (y112.length : Int) then ((impl_grow.f kj5 y109 (y112.drop 1) (wrap64 (a2 + t106)) (x0_1.length : Int)).bind fun t123 => (impl_grow.l0 kj5 t123 (x1_1.drop (x9_5 : Int).toNat) a2 a3)) else (none)) else ((impl_grow.f kj5 y109 y112 (wrap64 (a2 + t106)) (x0_1.length : Int)).bind fun t131 => (impl_grow.l0 kj5 t131 (x1_1.drop (x9_5 : Int).toNat) a2 a3))) = some r := by rw [← hbq37] at H; exact H
                   have Nbq37 := aM hbq37
                   clear hbq37
                   by_cases c38 : bq37 = true
                   ·
                    subst c38
                    have H1 : (if 1 ≤ (y112.length : Int) then ((impl_grow.f kj5 y109 (y112.drop 1) (wrap64 (a2 + t106)) (x0_1.length : Int)).bind fun t123 => (impl_grow.l0 kj5 t123 (x1_1.drop (x9_5 : Int).toNat) a2 a3)) else (none)) = some r := by rw [if_pos rfl] at H; exact H
                    clear H
                    have H := H1
                    clear H1
                    by_cases c39 : 1 ≤ (y112.length : Int)
                    ·
                     rw [if_pos c39] at H
                     have c39b0 := eq_true c39
                     have c39b1 : decide (1 ≤ (y112.length : Int)) = true := decide_eq_true c39
                     clear c39
                     obtain ⟨y118, hy118⟩ : ∃ y_ : List ByteArray, y_ = (y112.drop 1) := ⟨_, rfl⟩
                     replace H : ((impl_grow.f kj5 y109 y118 (wrap64 (a2 + t106)) (x0_1.length : Int)).bind fun t123 => (impl_grow.l0 kj5 t123 (x1_1.drop (x9_5 : Int).toNat) a2 a3)) = some r := by first | (rw [hy118]; with_reducible exact H) | (have H2_ := (Option.bind_some _ _).symm.trans H; rw [hy118]; with_reducible exact H2_) | (have H2_ := (Option.bind_some _ _).symm.trans H; with_reducible exact H2_) | with_reducible exact H | (rw [hy118]; exact H) | exact H
                     have Ny118 := aM hy118
                     clear hy118
                     replace H := Option.bind_eq_some_iff.mp H
                     obtain ⟨t123, A400, H⟩ := H
                     replace H : (impl_grow.l0 kj5 t123 (x1_1.drop (x9_5 : Int).toNat) a2 a3) = some r := H
                     have A40 := aM A400
                     clear A400
                     have c41b0 := eq_true (of_decide_eq_true (by first | (with_reducible assumption) | assumption) : 0 ≤ x9_5)
                     have c42b0 := eq_true (of_decide_eq_true (by first | (with_reducible assumption) | assumption) : x9_5 ≤ (x1_1.length : Int))
                     obtain ⟨y126, hy126⟩ : ∃ y_ : List ByteArray, y_ = (x1_1.drop (x9_5 : Int).toNat) := ⟨_, rfl⟩
                     replace H : (impl_grow.l0 kj5 t123 y126 a2 a3) = some r := by first | (rw [hy126]; with_reducible exact H) | (have H2_ := (Option.bind_some _ _).symm.trans H; rw [hy126]; with_reducible exact H2_) | (have H2_ := (Option.bind_some _ _).symm.trans H; with_reducible exact H2_) | with_reducible exact H | (rw [hy126]; exact H) | exact H
                     have Ny126 := aM hy126
                     clear hy126
                     have H' := aM H
                     clear H
                     try go_wp2
                     have n0_ := aM (Kd.R_drew HO_0.out)
                     have n1_ := aM (Kd.V_drew HO_1.out)
                     have n2_ := aM (Kept.drew HK.out)
                     have n3_ := aM (below_drew1 HB.out)
                     clear HO_0
                     clear HO_1
                     clear HK
                     clear HB
                     have HO_0 := n0_
                     have HO_1 := n1_
                     have HK := n2_
                     have HB := n3_
                     clear n0_ n1_ n2_ n3_
                     have p104 : 0 ≤ (0 : Int) := (by omega)
                     have q104 : 0 < (x1_1.length : Int) := of_decide_eq_true (by first | (with_reducible assumption) | assumption)
                     obtain ⟨ad104, e104, hx104_0⟩ := Kd.at_string (Kd.V_reads' HO_1.out).2.2 0 p104 q104
                     cases e104
                     have qi104 : (0 < x1_1.length) = True := eq_true (by omega)
                     (try rw [show ((0 : Int)).toNat = 0 from rfl] at hx104_0)
                     (try rw [Addr.add_zero'] at hx104_0)
                     replace p104 := eq_true p104
                     replace q104 := eq_true q104
                     have p105 : 0 ≤ ((ji23) : Int) := of_decide_eq_true (by first | (with_reducible assumption) | assumption)
                     have q105 : (ji23) < (x1_1.length : Int) := of_decide_eq_true (by first | (with_reducible assumption) | assumption)
                     obtain ⟨ad105, e105, hx105_0⟩ := Kd.at_string (Kd.V_reads' HO_1.out).2.2 (ji23) p105 q105
                     obtain rfl : ad104 = ad105 := (by injection e105)
                     replace p105 := eq_true p105
                     replace q105 := eq_true q105
                     refine start_ (n := 14) (S := fun w' => w'.cell? ad104 = some (.string (rdOf ByteArray.empty x1_1 0)) ∧ w'.cell? (ad104.add ((ji23)).toNat) = some (.string (rdOf ByteArray.empty x1_1 (ji23)))) (ds := []) (bq 14 0) (by kernel_rfl) rfl (by kernel_rfl) ⟨hx104_0, hx105_0⟩ (fun hHeld => ?_); refine with_tabW impl_grow.tab5 impl_grow.bits5 (fun HT_ HW_ => ?_)
                     generalize wc.drew = w43 at HO_0 HO_1 HK HB hx104_0 hx105_0 hHeld ⊢
                     refine pure_ (i := 0) (N := some 37) (v := ?_) (a' := ?_) (bq 14 1) rfl rfl (any_of HT_.out (by kernel_rfl)) (fun _ _ _ h => h) (Or.inl ⟨by rfl, ?_⟩) ?_ ?_; rotate_left; (intro w'; go_simp; (with_reducible rfl)); rotate_left; (simp only [Act.put, zSA, zSB, zSC, i64_w, i32_w]; rfl)
                     refine pure_ (i := 1) (N := some 38) (v := ?_) (a' := ?_) (bq 14 3) rfl rfl (any_of HT_.out (by kernel_rfl)) (fun _ _ _ h => h) (Or.inl ⟨by rfl, ?_⟩) ?_ ?_; rotate_left; (intro w'; go_simp; (with_reducible rfl)); rotate_left; (simp only [Act.put, zSA, zSB, zSC, i64_w, i32_w]; rfl)
                     refine pure_ (i := 3) (N := some 40) (v := ?_) (a' := ?_) (bq 14 11) rfl rfl (any_of HT_.out (by kernel_rfl)) (fun _ _ _ h => h) (Or.inl ⟨by rfl, ?_⟩) ?_ ?_; rotate_left; (intro w'; go_simp; (with_reducible rfl)); rotate_left; (simp only [Act.put, zSA, zSB, zSC, i64_w, i32_w]; rfl)
                     refine pure_ (i := 5) (N := some 42) (v := ?_) (a' := ?_) (bq 14 43) rfl rfl (any_of HT_.out (by kernel_rfl)) (fun _ _ _ h => h) (Or.inl ⟨by rfl, ?_⟩) ?_ ?_; rotate_left; (intro w'; go_simp; (with_reducible rfl)); rotate_left; (simp only [Act.put, zSA, zSB, zSC, i64_w, i32_w]; rfl)
                     refine pure_ (i := 6) (N := some 43) (v := ?_) (a' := ?_) (bq 14 107) rfl rfl (any_of HT_.out (by kernel_rfl)) (fun _ _ _ h => h) (Or.inl ⟨by rfl, ?_⟩) ?_ ?_; rotate_left; (intro w'; go_simp; (with_reducible rfl)); rotate_left; (simp only [Act.put, zSA, zSB, zSC, i64_w, i32_w]; rfl)
                     refine pure_ (i := 7) (N := some 44) (v := ?_) (a' := ?_) (bq 14 235) rfl rfl (any_of HT_.out (by kernel_rfl)) (fun _ _ _ h => h) (Or.inl ⟨by rfl, ?_⟩) ?_ ?_; rotate_left; (intro w'; go_simp; (with_reducible rfl)); rotate_left; (simp only [Act.put, zSA, zSB, zSC, i64_w, i32_w]; rfl)
                     refine pure_ (i := 8) (N := some 45) (v := ?_) (a' := ?_) (bq 14 491) rfl rfl (any_of HT_.out (by kernel_rfl)) (fun _ _ _ h => h) (Or.inl ⟨by rfl, ?_⟩) ?_ ?_; rotate_left; (intro w'; go_simp; (with_reducible rfl)); rotate_left; (simp only [Act.put, zSA, zSB, zSC, i64_w, i32_w]; rfl)
                     refine pure_ (i := 10) (N := some 47) (v := ?_) (a' := ?_) (bq 14 1515) rfl rfl (any_of HT_.out (by kernel_rfl)) (fun _ _ _ h => h) (Or.inl ⟨by rfl, ?_⟩) ?_ ?_; rotate_left; (intro w'; go_simp; (with_reducible rfl)); rotate_left; (simp only [Act.put, zSA, zSB, zSC, i64_w, i32_w]; rfl)
                     refine take_ (i := 2) (N := some 39) (v := ?_) (a' := ?_) (bq 14 1519) rfl rfl (take_ofW HT_.out HW_.out (by kernel_rfl)) (fun _ _ _ h => h) (Or.inl ⟨by rfl, ?_⟩) hHeld ?_ ?_; rotate_left; (rintro w' ⟨s0, s1⟩; go_simp; (with_reducible rfl)); rotate_left; (simp only [Act.put, zSA, zSB, zSC, i64_w, i32_w]; rfl)
                     refine pure_ (i := 4) (N := some 41) (v := ?_) (a' := ?_) (bq 14 1535) rfl rfl (any_of HT_.out (by kernel_rfl)) (fun _ _ _ h => h) (Or.inl ⟨by rfl, ?_⟩) ?_ ?_; rotate_left; (intro w'; go_simp; (with_reducible rfl)); rotate_left; (simp only [Act.put, zSA, zSB, zSC, i64_w, i32_w]; rfl)
                     refine take_ (i := 9) (N := some 46) (v := ?_) (a' := ?_) (bq 14 2047) rfl rfl (take_ofW HT_.out HW_.out (by kernel_rfl)) (fun _ _ _ h => h) (Or.inl ⟨by rfl, ?_⟩) hHeld ?_ ?_; rotate_left; (rintro w' ⟨s0, s1⟩; go_simp; (with_reducible rfl)); rotate_left; (simp only [Act.put, zSA, zSB, zSC, i64_w, i32_w]; rfl)
                     refine pure_ (i := 11) (N := some 48) (v := ?_) (a' := ?_) (bq 14 4095) rfl rfl (any_of HT_.out (by kernel_rfl)) (fun _ _ _ h => h) (Or.inl ⟨by rfl, ?_⟩) ?_ ?_; rotate_left; (intro w'; go_simp; (with_reducible rfl)); rotate_left; (simp only [Act.put, zSA, zSB, zSC, i64_w, i32_w]; rfl)
                     refine one_ (i := 12) (N := some 49) (bq 14 8191) rfl rfl (one_of HT_.out (by kernel_rfl)) (by decide) (fun K hK => ?_)
                     refine goes_ Try.func96 (by kernel_rfl) rfl #[.string ((rdOf ByteArray.empty x1_1 0).extract (a2 : Int).toNat (rdOf ByteArray.empty x1_1 0).size), .string ((rdOf ByteArray.empty x1_1 (ji23)).extract (a2 : Int).toNat (rdOf ByteArray.empty x1_1 (ji23)).size)] (by rfl) rfl rfl (by (try simp only [List.map_toArray, List.map_cons, List.map_nil]); first | done | (simp only [hji23]; rfl) | rfl | (simp only [List.length_drop, List.length_take]; rfl)) ?_
                     with_reducible refine (impl_common.calls kj5 ((rdOf ByteArray.empty x1_1 0).extract (a2 : Int).toNat (rdOf ByteArray.empty x1_1 0).size) ((rdOf ByteArray.empty x1_1 (ji23)).extract (a2 : Int).toNat (rdOf ByteArray.empty x1_1 (ji23)).size) t106 _ A28.out).mono ?_
                     rintro e w' ⟨rfl, ⟨nd, rfl⟩⟩
                     refine ⟨_, rfl, ?_⟩
                     refine hK.out _ _ ⟨hHeld.1, hHeld.2⟩ (fun hHeld => ?_)
                     clear hK K
                     refine norm_ (a' := ?_) ?_ ?_
                     rotate_left
                     ·
                      show Act.put _ (some 49) _ = _
                      simp only [Act.put, zSA, zSB, zSC, i64_w, i32_w]
                      rfl
                     refine pure_ (i := 13) (N := some 10) (v := ?_) (a' := ?_) (bq 14 16383) rfl rfl (any_of HT_.out (by kernel_rfl)) (fun _ _ _ h => h) (Or.inl ⟨by rfl, ?_⟩) ?_ ?_; rotate_left; (intro w'; go_simp; (with_reducible rfl)); rotate_left; (simp only [Act.put, zSA, zSB, zSC, i64_w, i32_w]; rfl)
                     refine done_ (done_of HT_.out (by kernel_rfl)) ?_
                     obtain ⟨Ao44, co44, eo44⟩ := Kd.R_slice HO_0.out
                     subst eo44
                     try go_wp2
                     (try (rw [drewN_self w43]; generalize hq_ : World.drewN w43 _ = w43; have n0_ : Aside0 (Kd.R k64 64 w43 w0.heap.size (fun k_ => (P0_ k_ ∨ w.heap.size ≤ k_)) (.slice Ao44 x0_1.length co44) x0_1) := ⟨by rw [← hq_]; exact (by (with_reducible repeat (first | apply Kd.R_alloc | apply Kd.R_drewN | apply Kd.R_drew)); exact HO_0.out)⟩; have n1_ : Aside0 (Kd.V Kd.string 9 w43 w0.heap.size (fun k_ => ((P0_ k_ ∨ P1_ k_) ∨ w.heap.size ≤ k_) ∧ some k_ ≠ (.slice Ao44 x0_1.length co44 : Value).ownBlock) (.slice (some ad104) x1_1.length co7) x1_1) := ⟨by rw [← hq_]; exact (by (with_reducible repeat (first | apply Kd.V_alloc | apply Kd.V_drewN | apply Kd.V_drew)); exact HO_1.out)⟩; have n2_ : Aside0 (Kept w w43 (fun k_ => P0_ k_)) := ⟨by rw [← hq_]; exact (by repeat (first | (with_reducible first | exact HK.out | apply Kept.alloc | apply Kept.drewN | apply Kept.drew) | exact HK.out))⟩; have n3_ : Aside0 (Below w0.heap.size w0 w43) := ⟨by rw [← hq_]; exact (by repeat (first | (with_reducible first | exact HB.out | apply below_alloc | apply pw_below_drewN | apply below_drew1) | exact HB.out))⟩; clear HO_0 HO_1 HK HB hq_; have HO_0 := n0_; have HO_1 := n1_; have HK := n2_; have HB := n3_; clear n0_ n1_ n2_ n3_))
                     have n0_ := aM (Kd.R_drew HO_0.out)
                     have n1_ := aM (Kd.V_drew HO_1.out)
                     have n2_ := aM (Kept.drew HK.out)
                     have n3_ := aM (below_drew1 HB.out)
                     clear HO_0
                     clear HO_1
                     clear HK
                     clear HB
                     have HO_0 := n0_
                     have HO_1 := n1_
                     have HK := n2_
                     have HB := n3_
                     clear n0_ n1_ n2_ n3_
                     have p107 : 0 ≤ (0 : Int) := (by omega)
                     have q107 : 0 < (x1_1.length : Int) := of_decide_eq_true (by first | (with_reducible assumption) | assumption)
                     obtain ⟨ad107, e107, hx107_0⟩ := Kd.at_string (Kd.V_reads' HO_1.out).2.2 0 p107 q107
                     obtain rfl : ad104 = ad107 := (by injection e107)
                     have qi107 : (0 < x1_1.length) = True := eq_true (by omega)
                     (try rw [show ((0 : Int)).toNat = 0 from rfl] at hx107_0)
                     (try rw [Addr.add_zero'] at hx107_0)
                     replace p107 := eq_true p107
                     replace q107 := eq_true q107
                     have p108 : 0 ≤ (0 : Int) := (by omega)
                     have q108 : 0 < (x1_1.length : Int) := of_decide_eq_true (by first | (with_reducible assumption) | assumption)
                     obtain ⟨ad108, e108, hx108_0⟩ := Kd.at_string (Kd.V_reads' HO_1.out).2.2 0 p108 q108
                     obtain rfl : ad104 = ad108 := (by injection e108)
                     have qi108 : (0 < x1_1.length) = True := eq_true (by omega)
                     (try rw [show ((0 : Int)).toNat = 0 from rfl] at hx108_0)
                     (try rw [Addr.add_zero'] at hx108_0)
                     replace p108 := eq_true p108
                     replace q108 := eq_true q108
                     refine start_ (n := 18) (S := fun w' => w'.cell? ad104 = some (.string (rdOf ByteArray.empty x1_1 0)) ∧ w'.cell? ad104 = some (.string (rdOf ByteArray.empty x1_1 0))) (ds := [15, 16]) (bq 18 0) (by kernel_rfl) rfl (by kernel_rfl) ⟨hx107_0, hx108_0⟩ (fun hHeld => ?_); refine with_tabW impl_grow.tab8 impl_grow.bits8 (fun HT_ HW_ => ?_)
                     generalize w43.drew = w45 at HO_0 HO_1 HK HB hx107_0 hx108_0 hHeld ⊢
                     refine pure_ (i := 0) (N := some 55) (v := ?_) (a' := ?_) (bq 18 1) rfl rfl (any_of HT_.out (by kernel_rfl)) (fun _ _ _ h => h) (Or.inl ⟨by rfl, ?_⟩) ?_ ?_; rotate_left; (intro w'; go_simp; (with_reducible rfl)); rotate_left; (simp only [Act.put, zSA, zSB, zSC, i64_w, i32_w]; rfl)
                     refine pure_ (i := 1) (N := some 56) (v := ?_) (a' := ?_) (bq 18 3) rfl rfl (any_of HT_.out (by kernel_rfl)) (fun _ _ _ h => h) (Or.inl ⟨by rfl, ?_⟩) ?_ ?_; rotate_left; (intro w'; go_simp; (with_reducible rfl)); rotate_left; (simp only [Act.put, zSA, zSB, zSC, i64_w, i32_w]; rfl)
                     refine pure_ (i := 2) (N := some 57) (v := ?_) (a' := ?_) (bq 18 7) rfl rfl (any_of HT_.out (by kernel_rfl)) (fun _ _ _ h => h) (Or.inl ⟨by rfl, ?_⟩) ?_ ?_; rotate_left; (intro w'; go_simp; (with_reducible rfl)); rotate_left; (simp only [Act.put, zSA, zSB, zSC, i64_w, i32_w]; rfl)
                     refine pure_ (i := 4) (N := some 59) (v := ?_) (a' := ?_) (bq 18 23) rfl rfl (any_of HT_.out (by kernel_rfl)) (fun _ _ _ h => h) (Or.inl ⟨by rfl, ?_⟩) ?_ ?_; rotate_left; (intro w'; go_simp; (with_reducible rfl)); rotate_left; (simp only [Act.put, zSA, zSB, zSC, i64_w, i32_w]; rfl)
                     refine pure_ (i := 5) (N := some 60) (v := ?_) (a' := ?_) (bq 18 55) rfl rfl (any_of HT_.out (by kernel_rfl)) (fun _ _ _ h => h) (Or.inl ⟨by rfl, ?_⟩) ?_ ?_; rotate_left; (intro w'; go_simp; (with_reducible rfl)); rotate_left; (simp only [Act.put, zSA, zSB, zSC, i64_w, i32_w]; rfl)
                     refine pure_ (i := 7) (N := some 62) (v := ?_) (a' := ?_) (bq 18 183) rfl rfl (any_of HT_.out (by kernel_rfl)) (fun _ _ _ h => h) (Or.inl ⟨by rfl, ?_⟩) ?_ ?_; rotate_left; (intro w'; go_simp; (with_reducible rfl)); rotate_left; (simp only [Act.put, zSA, zSB, zSC, i64_w, i32_w]; rfl)
                     refine pure_ (i := 8) (N := some 63) (v := ?_) (a' := ?_) (bq 18 439) rfl rfl (any_of HT_.out (by kernel_rfl)) (fun _ _ _ h => h) (Or.inl ⟨by rfl, ?_⟩) ?_ ?_; rotate_left; (intro w'; go_simp; (with_reducible rfl)); rotate_left; (simp only [Act.put, zSA, zSB, zSC, i64_w, i32_w]; rfl)
                     refine pure_ (i := 11) (N := some 66) (v := ?_) (a' := ?_) (bq 18 2487) rfl rfl (any_of HT_.out (by kernel_rfl)) (fun _ _ _ h => h) (Or.inl ⟨by rfl, ?_⟩) ?_ ?_; rotate_left; (intro w'; go_simp; (with_reducible rfl)); rotate_left; (simp only [Act.put, zSA, zSB, zSC, i64_w, i32_w]; rfl)
                     refine pure_ (i := 13) (N := some 68) (v := ?_) (a' := ?_) (bq 18 10679) rfl rfl (any_of HT_.out (by kernel_rfl)) (fun _ _ _ h => h) (Or.inl ⟨by rfl, ?_⟩) ?_ ?_; rotate_left; (intro w'; go_simp; (with_reducible rfl)); rotate_left; (simp only [Act.put, zSA, zSB, zSC, i64_w, i32_w]; rfl)
                     refine take_ (i := 3) (N := some 58) (v := ?_) (a' := ?_) (bq 18 10687) rfl rfl (take_ofW HT_.out HW_.out (by kernel_rfl)) (fun _ _ _ h => h) (Or.inl ⟨by rfl, ?_⟩) hHeld ?_ ?_; rotate_left; (rintro w' ⟨s0, s1⟩; go_simp; (with_reducible rfl)); rotate_left; (simp only [Act.put, zSA, zSB, zSC, i64_w, i32_w]; rfl)
                     refine pure_ (i := 6) (N := some 61) (v := ?_) (a' := ?_) (bq 18 10751) rfl rfl (any_of HT_.out (by kernel_rfl)) (fun _ _ _ h => h) (Or.inl ⟨by rfl, ?_⟩) ?_ ?_; rotate_left; (intro w'; go_simp; (with_reducible rfl)); rotate_left; (simp only [Act.put, zSA, zSB, zSC, i64_w, i32_w]; rfl)
                     refine take_ (i := 9) (N := some 64) (v := ?_) (a' := ?_) (bq 18 11263) rfl rfl (take_ofW HT_.out HW_.out (by kernel_rfl)) (fun _ _ _ h => h) (Or.inl ⟨by rfl, ?_⟩) hHeld ?_ ?_; rotate_left; (rintro w' ⟨s0, s1⟩; go_simp; (with_reducible rfl)); rotate_left; (simp only [Act.put, zSA, zSB, zSC, i64_w, i32_w]; rfl)
                     refine pure_ (i := 10) (N := some 65) (v := ?_) (a' := ?_) (bq 18 12287) rfl rfl (any_of HT_.out (by kernel_rfl)) (fun _ _ _ h => h) (Or.inl ⟨by rfl, ?_⟩) ?_ ?_; rotate_left; (intro w'; go_simp; (with_reducible rfl)); rotate_left; (simp only [Act.put, zSA, zSB, zSC, i64_w, i32_w]; rfl)
                     refine pure_ (i := 12) (N := some 67) (v := ?_) (a' := ?_) (bq 18 16383) rfl rfl (any_of HT_.out (by kernel_rfl)) (fun _ _ _ h => h) (Or.inl ⟨by rfl, ?_⟩) ?_ ?_; rotate_left; (intro w'; go_simp; (with_reducible rfl)); rotate_left; (simp only [Act.put, zSA, zSB, zSC, i64_w, i32_w]; rfl)
                     refine pure_ (i := 14) (N := some 69) (v := ?_) (a' := ?_) (bq 18 32767) rfl rfl (any_of HT_.out (by kernel_rfl)) (fun _ _ _ h => h) (Or.inl ⟨by rfl, ?_⟩) ?_ ?_; rotate_left; (intro w'; go_simp; (with_reducible rfl)); rotate_left; (simp only [Act.put, zSA, zSB, zSC, i64_w, i32_w]; rfl)
                     refine last_ (i := 15) (N := some 70) #[true, true, true, true, true, true, true, true, true, true, true, true, true, true, true, true, false, false] rfl rfl (one_of HT_.out (by kernel_rfl)) (by decide) (fun K hK => ?_)
                     refine value_ (w1 := ?_) (v := ?_) (by rfl) rfl ?_ ?_
                     rotate_left 2
                     ·
                      go_simp
                      constructor
                      ·
                       rfl
                      ·
                       rfl
                     refine hK.out _ _ ?_
                     clear hK K
                     refine norm_ (a' := ?_) ?_ ?_
                     rotate_left
                     ·
                      show Act.put _ (some 70) _ = _
                      simp only [Act.put, zSA, zSB, zSC, i64_w, i32_w]
                      rfl
                     refine last_ (i := 16) (N := some 71) #[true, true, true, true, true, true, true, true, true, true, true, true, true, true, true, true, true, false] rfl rfl (one_of HT_.out (by kernel_rfl)) (by decide) (fun K hK => ?_)
                     refine Kd.R_append_step k64 (w0 := w0) w0.heap.size (by rfl) (.tmp 55) (.tmp 70) 24 64 (.agg #[(.string ⟨#[]⟩), (.bool false), (.int .i64 0)]) 32 rfl Try.underlying24 info64 rfl (by decide) (by omega) (.slice Ao44 x0_1.length co44) x0_1 (⟨(rdOf ByteArray.empty x1_1 0).extract (a2 : Int).toNat ((wrap64 (a2 + t106)) : Int).toNat, (((rdOf ByteArray.empty x1_1 0).size : Int) == (wrap64 (a2 + t106))), a3⟩ : S64) [.string ((rdOf ByteArray.empty x1_1 0).extract (a2 : Int).toNat ((wrap64 (a2 + t106)) : Int).toNat), .bool (((rdOf ByteArray.empty x1_1 0).size : Int) == (wrap64 (a2 + t106))), .int .i64 a3] (fun k_ => (P0_ k_ ∨ w.heap.size ≤ k_)) (fun _ => False) rfl rfl ?aP (fun _ hk => hk.elim) ?aF ?aO ?aB ?aS ?aL ?_
                     (case aP => exact k64_mkM _ _ _ (⟨(rdOf ByteArray.empty x1_1 0).extract (a2 : Int).toNat ((wrap64 (a2 + t106)) : Int).toNat, (((rdOf ByteArray.empty x1_1 0).size : Int) == (wrap64 (a2 + t106))), a3⟩ : S64))
                     (case aB => exact (by repeat (first | (with_reducible first | exact HB.out | apply below_alloc | apply pw_below_drewN | apply below_drew1) | exact HB.out)))
                     (case aF => exact (fun k_ hk => (.inr (Nat.le_trans (by first | exact HK.out.1 | exact (show Kept w _ (fun k_ => P0_ k_) from by repeat (first | (with_reducible first | exact HK.out | apply Kept.alloc | apply Kept.drewN | apply Kept.drew) | exact HK.out)).1) hk))))
                     (case aO => exact (by (with_reducible repeat (first | apply Kd.R_alloc | apply Kd.R_drewN | apply Kd.R_drew)); exact HO_0.out))
                     (case aS => exact (below_size (by repeat (first | (with_reducible first | exact HB.out | apply below_alloc | apply pw_below_drewN | apply below_drew1) | exact HB.out))))
                     (case aL => have := LMc32.out; omega)
                     intro v110 w46 ho hb hg hat
                     rw [← Ny109.out] at ho
                     have n0_ := aM (Kd.V_afterv (ok := (fun k_ => ((P0_ k_ ∨ P1_ k_) ∨ w.heap.size ≤ k_))) (by (with_reducible repeat (first | apply Kd.V_alloc | apply Kd.V_drewN | apply Kd.V_drew)); exact HO_1.out) hg hat)
                     have n1_ := aM (hb)
                     have n2_ := aM (Kept.of_grown (S := (fun k_ => P0_ k_)) hg (by repeat (first | (with_reducible first | exact HK.out | apply Kept.alloc | apply Kept.drewN | apply Kept.drew) | exact HK.out)) (fun k_ e_ => (HO_0.out.1 k_ e_)))
                     have n3_ := aM (ho)
                     clear HO_1
                     clear HB
                     clear HK
                     clear HO_0
                     have HO_1 := n0_
                     have HB := n1_
                     have HK := n2_
                     have HO111 := n3_
                     clear n0_ n1_ n2_ n3_
                     clear ho hb hg hat
                     refine hK.out _ _ ?_
                     clear hK K
                     refine norm_ (a' := ?_) ?_ ?_
                     rotate_left
                     ·
                      show Act.put _ (some 71) _ = _
                      simp only [Act.put, zSA, zSB, zSC, i64_w, i32_w]
                      rfl
                     refine pure_ (i := 17) (N := some 0) (v := ?_) (a' := ?_) (bq 18 262143) rfl rfl (any_of HT_.out (by kernel_rfl)) (fun _ _ _ h => h) (Or.inl ⟨by rfl, ?_⟩) ?_ ?_; rotate_left; (intro w'; go_simp; (with_reducible rfl)); rotate_left; (simp only [Act.put, zSA, zSB, zSC, i64_w, i32_w]; rfl)
                     refine done_ (done_of HT_.out (by kernel_rfl)) ?_
                     have q47 : (x9_5 : Int) ≤ ((x1_1.length : Int) : Int) := of_decide_eq_true (by first | (with_reducible assumption) | assumption)
                     obtain ⟨i047, hi047, _, hsz47, _⟩ := info_parts info9
                     have hroom47 : x1_1.length ≤ co7 := (Kd.V_reads' HO_1.out).2.1
                     have hC47 : Kd.F Kd.string _ _ (some ad104) x1_1.length x1_1 := (Kd.V_at (base := w0.heap.size) HO_1.out).2.2
                     have hcut47 := cut_to (P := Try.prog) 22 9 .i64 Try.underlying22 hi047 (some ad104) x1_1.length co7 x9_5 (of_decide_eq_true (by first | (with_reducible assumption) | assumption)) q47 hroom47
                     have hr47 := Kd.F_take (m := (x9_5 : Int).toNat) hC47 (by omega)
                     have hy47 : y112.length = (x9_5 : Int).toNat := (by rw [Ny112.out, List.length_take]; omega)
                     rw [← Ny112.out] at hr47
                     rw [← hy47] at hcut47
                     have HO116 := aM (show Kd.V Kd.string 9 _ w0.heap.size _ (.slice (some ad104) y112.length co7) y112 from Kd.V_mk (by omega) hr47)
                     have HC116 := aM (show y112.length ≤ co7 from by omega)
                     clear hr47 hC47 hroom47 hi047 hsz47
                     have KY47 := aM hy47
                     clear hy47
                     replace q47 := eq_true q47
                     obtain ⟨Ao48, co48, eo48⟩ := Kd.R_slice HO111.out
                     subst eo48
                     have p117 : 0 ≤ ((x0_1.length : Int) : Int) := of_decide_eq_true (by first | (with_reducible assumption) | assumption)
                     have q117 : (x0_1.length : Int) < (y109.length : Int) := of_decide_eq_true (by first | (with_reducible assumption) | assumption)
                     obtain ⟨ad117, e117, hx117_0, hx117_1, hx117_2⟩ := at_T64 (Kd.R_reads' HO111.out).2.2 (x0_1.length : Int) p117 q117
                     (try rw [← Nbq37.out] at hx117_1)
                     cases e117
                     try have hz_hx117_0 := aM hx117_0
                     try have hz_hx117_1 := aM hx117_1
                     try have hz_hx117_2 := aM hx117_2
                     (try simp only [Go.IntWalk.toNatUp] at hx117_0)
                     (try simp only [Go.IntWalk.toNatUp] at hx117_1)
                     (try simp only [Go.IntWalk.toNatUp] at hx117_2)
                     replace p117 := eq_true p117
                     replace q117 := eq_true q117
                     have q49 : (1 : Int) ≤ ((y112.length : Int) : Int) := of_decide_eq_true (by first | (with_reducible assumption) | assumption)
                     obtain ⟨i049, hi049, _, hsz49, _⟩ := info_parts info9
                     have hroom49 : y112.length ≤ co7 := (Kd.V_reads' HO116.out).2.1
                     have hC49 : Kd.F Kd.string _ _ (some ad104) y112.length y112 := (Kd.V_at (base := w0.heap.size) HO116.out).2.2
                     have hcut49 := cut_from (P := Try.prog) 22 9 .i64 Try.underlying22 hi049 1 hsz49 (some ad104) y112.length co7 1 (by omega) q49
                     have hr49 := Kd.F_cut (m := (1 : Int).toNat) (c := co7) hC49 (by omega) hroom49
                     obtain ⟨A49, hA49⟩ : ∃ A1, A1 = (if co7 = (1 : Int).toNat then (some ad104) else ((some ad104) : Option Addr).map (·.add ((1 : Int).toNat * 1))) := ⟨_, rfl⟩
                     obtain ⟨c49, hc49⟩ : ∃ c1, c1 = co7 - (1 : Int).toNat := ⟨_, rfl⟩
                     have hy49 : y118.length = y112.length - (1 : Int).toNat := (by rw [Ny118.out, List.length_drop] <;> omega)
                     rw [show (y112).drop (1 : Int).toNat = y118 from Ny118.out.symm] at hr49
                     replace hr49 : Kd.F Kd.string _ _ A49 y118.length y118 := (by rw [hA49]; exact hr49)
                     rw [← hy49, ← hA49, ← hc49] at hcut49
                     have HO122 := aM (show Kd.V Kd.string 9 _ w0.heap.size _ (.slice A49 y118.length c49) y118 from Kd.V_mk (by rw [hy49, hc49]; exact Nat.sub_le_sub_right hroom49 _) hr49)
                     have HC122 := aM (show y118.length ≤ c49 from by rw [hy49, hc49]; exact Nat.sub_le_sub_right hroom49 _)
                     clear hr49 hC49 hroom49 hi049 hsz49 hc49
                     have KY49 := aM hy49
                     have KA49 := aM hA49
                     clear hy49 hA49
                     replace q49 := eq_true q49
                     try go_wp2_with (first | ((with_reducible refine gate_callee (f := 72) rfl ?_); refine goesL_ (some 86) rfl rfl Try.func72 (by kernel_rfl) rfl #[.slice (some ad117) y109.length co48, .slice A49 y118.length c49, .int .i64 (wrap64 (a2 + t106)), .int .i64 (x0_1.length : Int)] rfl (by (try simp only [List.map_toArray, List.map_cons, List.map_nil]); first | done | rfl | (simp only [List.length_drop, List.length_take]; rfl)) ?_; (with_reducible refine (ih kj5 (by have := HK1.out; have := HJ5.out; omega) (fun k_ => some k_ = (.slice (some ad117) y109.length co48 : Value).ownBlock) (.slice (some ad117) y109.length co48) y109 (fun k_ => (((P0_ k_ ∨ P1_ k_) ∨ w.heap.size ≤ k_) ∧ some k_ ≠ (.slice (some ad117) y109.length co48 : Value).ownBlock)) _ _ y118 (wrap64 (a2 + t106)) (x0_1.length : Int) t123 w0 _ ?side1 ?side2 ?side3 A40.out).mono ?_); (case side1 => repeat (first | (with_reducible first | exact HB.out | apply below_alloc | apply pw_below_drewN | apply below_drew1) | exact HB.out)); (case side2 => exact Kd.R_tight rfl HO111.out); (case side3 => exact Kd.V_mono (HO122.out) (fun k_ hk_ => ⟨hk_, hk_.2⟩)); rintro e w50 ⟨v124, rfl, ho0, hb, hkp⟩; refine ⟨_, rfl, ?_⟩; have n0_ := aM (Kd.V_mono (ok' := fun k_ => ((P0_ k_ ∨ P1_ k_) ∨ w.heap.size ≤ k_) ∧ some k_ ≠ (v124 : Value).ownBlock) (Kd.V_keptB (HO_1.out) hkp (fun k_ hk_ hs_ => (hk_.2) hs_)) (fun k_ hk_ => ⟨hk_.1.1, fun e_ => Or.elim (ho0.1 k_ e_.symm) (fun hs_ => hk_.2.1 hs_) (fun hn_ => Nat.not_le.2 hk_.2.2 hn_)⟩)); have n1_ := aM (Kd.V_mono (ok' := fun k_ => ((P0_ k_ ∨ P1_ k_) ∨ w.heap.size ≤ k_) ∧ some k_ ≠ (v124 : Value).ownBlock) (Kd.V_keptB (HO116.out) hkp (fun k_ hk_ hs_ => (hk_.2) hs_)) (fun k_ hk_ => ⟨hk_.1.1, fun e_ => Or.elim (ho0.1 k_ e_.symm) (fun hs_ => hk_.2.1 hs_) (fun hn_ => Nat.not_le.2 hk_.2.2 hn_)⟩)); have n2_ := aM (Kd.V_mono (ok' := fun k_ => ((P0_ k_ ∨ P1_ k_) ∨ w.heap.size ≤ k_) ∧ some k_ ≠ (v124 : Value).ownBlock) (Kd.V_keptB (HO122.out) hkp (fun k_ hk_ hs_ => (hk_.2) hs_)) (fun k_ hk_ => ⟨hk_.1.1, fun e_ => Or.elim (ho0.1 k_ e_.symm) (fun hs_ => hk_.2.1 hs_) (fun hn_ => Nat.not_le.2 hk_.2.2 hn_)⟩)); have n3_ := aM (Kd.R_mono (ok' := fun k_ => (P0_ k_ ∨ w.heap.size ≤ k_)) ho0 (fun k_ hk_ => Or.elim hk_ (fun hs_ => (HO111.out.1 k_ (hs_).symm)) (fun hn_ => (.inr (Nat.le_trans (by first | exact HK.out.1 | exact (show Kept w _ (fun k_ => P0_ k_) from by repeat (first | (with_reducible first | exact HK.out | apply Kept.alloc | apply Kept.drewN | apply Kept.drew) | exact HK.out)).1) hn_))))); have n4_ := aM (Kept.then_ (S := (fun k_ => P0_ k_)) (by repeat (first | (with_reducible first | exact HK.out | apply Kept.alloc | apply Kept.drewN | apply Kept.drew) | exact HK.out)) hkp (fun k_ hs_ => (fun e_ => (HO111.out.1 k_ e_.symm)) hs_)); have n5_ := aM (hb); clear HO_1; clear HO116; clear HO122; clear HK; clear HB; clear HO111; have HO_1 := n0_; have HO116 := n1_; have HO122 := n2_; have HO125 := n3_; have HK := n4_; have HB := n5_; clear n0_ n1_ n2_ n3_ n4_ n5_; (try clear hb); (try clear hkp); (try clear ho0); have q51 : (x9_5 : Int) ≤ ((x1_1.length : Int) : Int) := of_decide_eq_true (by first | (with_reducible assumption) | assumption); obtain ⟨i051, hi051, _, hsz51, _⟩ := info_parts info9; have hroom51 : x1_1.length ≤ co7 := (Kd.V_reads' HO_1.out).2.1; have hC51 : Kd.F Kd.string _ _ (some ad104) x1_1.length x1_1 := (Kd.V_at (base := w0.heap.size) HO_1.out).2.2; have q051 : (0 : Int) ≤ (x9_5 : Int) := of_decide_eq_true (by first | (with_reducible assumption) | assumption); have hcut51 := cut_from (P := Try.prog) 22 9 .i64 Try.underlying22 hi051 1 hsz51 (some ad104) x1_1.length co7 x9_5 q051 q51; have hr51 := Kd.F_cut (m := (x9_5 : Int).toNat) (c := co7) hC51 (by omega) hroom51; obtain ⟨A51, hA51⟩ : ∃ A1, A1 = (if co7 = (x9_5 : Int).toNat then (some ad104) else ((some ad104) : Option Addr).map (·.add ((x9_5 : Int).toNat * 1))) := ⟨_, rfl⟩; obtain ⟨c51, hc51⟩ : ∃ c1, c1 = co7 - (x9_5 : Int).toNat := ⟨_, rfl⟩; have hy51 : y126.length = x1_1.length - (x9_5 : Int).toNat := (by rw [Ny126.out, List.length_drop] <;> omega); rw [show (x1_1).drop (x9_5 : Int).toNat = y126 from Ny126.out.symm] at hr51; replace hr51 : Kd.F Kd.string _ _ A51 y126.length y126 := (by rw [hA51]; exact hr51); rw [← hy51, ← hA51, ← hc51] at hcut51; have HO130 := aM (show Kd.V Kd.string 9 _ w0.heap.size _ (.slice A51 y126.length c51) y126 from Kd.V_mk (by rw [hy51, hc51]; exact Nat.sub_le_sub_right hroom51 _) hr51); have HC130 := aM (show y126.length ≤ c51 from by rw [hy51, hc51]; exact Nat.sub_le_sub_right hroom51 _); clear hr51 hC51 hroom51 hi051 hsz51 hc51; have KY51 := aM hy51; have KA51 := aM hA51; clear hy51 hA51; replace q51 := eq_true q51))
                     go_roundg kj5
                     case measure => have := HK1.out; have := HJ5.out; omega
                     case rel => exact ⟨(t123), (y126), H', ⟨by have := HK1.out; have := HJ5.out; omega⟩, ⟨by (with_reducible repeat (first | apply Kd.R_alloc | apply Kd.R_drewN | apply Kd.R_drew)); exact HO125.out⟩, ⟨by (with_reducible repeat (first | apply Kd.V_alloc | apply Kd.V_drewN | apply Kd.V_drew)); exact HO130.out⟩, ⟨by repeat (first | (with_reducible first | exact HK.out | apply Kept.alloc | apply Kept.drewN | apply Kept.drew) | exact HK.out)⟩, ⟨by repeat (first | (with_reducible first | exact HB.out | apply below_alloc | apply pw_below_drewN | apply below_drew1) | exact HB.out)⟩⟩
                    ·
                     rw [if_neg c39] at H
                     exact absurd H (by simp)
                   ·
                    replace c38 := Bool.eq_false_iff.mpr c38
                    subst c38
                    have H1 : ((impl_grow.f kj5 y109 y112 (wrap64 (a2 + t106)) (x0_1.length : Int)).bind fun t131 => (impl_grow.l0 kj5 t131 (x1_1.drop (x9_5 : Int).toNat) a2 a3)) = some r := by rw [if_neg (show ¬ (false = true) by decide)] at H; exact H
                    clear H
                    have H := H1
                    clear H1
                    replace H := Option.bind_eq_some_iff.mp H
                    obtain ⟨t131, A520, H⟩ := H
                    replace H : (impl_grow.l0 kj5 t131 (x1_1.drop (x9_5 : Int).toNat) a2 a3) = some r := H
                    have A52 := aM A520
                    clear A520
                    have c53b0 := eq_true (of_decide_eq_true (by first | (with_reducible assumption) | assumption) : 0 ≤ x9_5)
                    have c54b0 := eq_true (of_decide_eq_true (by first | (with_reducible assumption) | assumption) : x9_5 ≤ (x1_1.length : Int))
                    obtain ⟨y134, hy134⟩ : ∃ y_ : List ByteArray, y_ = (x1_1.drop (x9_5 : Int).toNat) := ⟨_, rfl⟩
                    replace H : (impl_grow.l0 kj5 t131 y134 a2 a3) = some r := by first | (rw [hy134]; with_reducible exact H) | (have H2_ := (Option.bind_some _ _).symm.trans H; rw [hy134]; with_reducible exact H2_) | (have H2_ := (Option.bind_some _ _).symm.trans H; with_reducible exact H2_) | with_reducible exact H | (rw [hy134]; exact H) | exact H
                    have Ny134 := aM hy134
                    clear hy134
                    have H' := aM H
                    clear H
                    try go_wp2
                    have n0_ := aM (Kd.R_drew HO_0.out)
                    have n1_ := aM (Kd.V_drew HO_1.out)
                    have n2_ := aM (Kept.drew HK.out)
                    have n3_ := aM (below_drew1 HB.out)
                    clear HO_0
                    clear HO_1
                    clear HK
                    clear HB
                    have HO_0 := n0_
                    have HO_1 := n1_
                    have HK := n2_
                    have HB := n3_
                    clear n0_ n1_ n2_ n3_
                    have p104 : 0 ≤ (0 : Int) := (by omega)
                    have q104 : 0 < (x1_1.length : Int) := of_decide_eq_true (by first | (with_reducible assumption) | assumption)
                    obtain ⟨ad104, e104, hx104_0⟩ := Kd.at_string (Kd.V_reads' HO_1.out).2.2 0 p104 q104
                    cases e104
                    have qi104 : (0 < x1_1.length) = True := eq_true (by omega)
                    (try rw [show ((0 : Int)).toNat = 0 from rfl] at hx104_0)
                    (try rw [Addr.add_zero'] at hx104_0)
                    replace p104 := eq_true p104
                    replace q104 := eq_true q104
                    have p105 : 0 ≤ ((ji23) : Int) := of_decide_eq_true (by first | (with_reducible assumption) | assumption)
                    have q105 : (ji23) < (x1_1.length : Int) := of_decide_eq_true (by first | (with_reducible assumption) | assumption)
                    obtain ⟨ad105, e105, hx105_0⟩ := Kd.at_string (Kd.V_reads' HO_1.out).2.2 (ji23) p105 q105
                    obtain rfl : ad104 = ad105 := (by injection e105)
                    replace p105 := eq_true p105
                    replace q105 := eq_true q105
                    refine start_ (n := 14) (S := fun w' => w'.cell? ad104 = some (.string (rdOf ByteArray.empty x1_1 0)) ∧ w'.cell? (ad104.add ((ji23)).toNat) = some (.string (rdOf ByteArray.empty x1_1 (ji23)))) (ds := []) (bq 14 0) (by kernel_rfl) rfl (by kernel_rfl) ⟨hx104_0, hx105_0⟩ (fun hHeld => ?_); refine with_tabW impl_grow.tab5 impl_grow.bits5 (fun HT_ HW_ => ?_)
                    generalize wc.drew = w55 at HO_0 HO_1 HK HB hx104_0 hx105_0 hHeld ⊢
                    refine pure_ (i := 0) (N := some 37) (v := ?_) (a' := ?_) (bq 14 1) rfl rfl (any_of HT_.out (by kernel_rfl)) (fun _ _ _ h => h) (Or.inl ⟨by rfl, ?_⟩) ?_ ?_; rotate_left; (intro w'; go_simp; (with_reducible rfl)); rotate_left; (simp only [Act.put, zSA, zSB, zSC, i64_w, i32_w]; rfl)
                    refine pure_ (i := 1) (N := some 38) (v := ?_) (a' := ?_) (bq 14 3) rfl rfl (any_of HT_.out (by kernel_rfl)) (fun _ _ _ h => h) (Or.inl ⟨by rfl, ?_⟩) ?_ ?_; rotate_left; (intro w'; go_simp; (with_reducible rfl)); rotate_left; (simp only [Act.put, zSA, zSB, zSC, i64_w, i32_w]; rfl)
                    refine pure_ (i := 3) (N := some 40) (v := ?_) (a' := ?_) (bq 14 11) rfl rfl (any_of HT_.out (by kernel_rfl)) (fun _ _ _ h => h) (Or.inl ⟨by rfl, ?_⟩) ?_ ?_; rotate_left; (intro w'; go_simp; (with_reducible rfl)); rotate_left; (simp only [Act.put, zSA, zSB, zSC, i64_w, i32_w]; rfl)
                    refine pure_ (i := 5) (N := some 42) (v := ?_) (a' := ?_) (bq 14 43) rfl rfl (any_of HT_.out (by kernel_rfl)) (fun _ _ _ h => h) (Or.inl ⟨by rfl, ?_⟩) ?_ ?_; rotate_left; (intro w'; go_simp; (with_reducible rfl)); rotate_left; (simp only [Act.put, zSA, zSB, zSC, i64_w, i32_w]; rfl)
                    refine pure_ (i := 6) (N := some 43) (v := ?_) (a' := ?_) (bq 14 107) rfl rfl (any_of HT_.out (by kernel_rfl)) (fun _ _ _ h => h) (Or.inl ⟨by rfl, ?_⟩) ?_ ?_; rotate_left; (intro w'; go_simp; (with_reducible rfl)); rotate_left; (simp only [Act.put, zSA, zSB, zSC, i64_w, i32_w]; rfl)
                    refine pure_ (i := 7) (N := some 44) (v := ?_) (a' := ?_) (bq 14 235) rfl rfl (any_of HT_.out (by kernel_rfl)) (fun _ _ _ h => h) (Or.inl ⟨by rfl, ?_⟩) ?_ ?_; rotate_left; (intro w'; go_simp; (with_reducible rfl)); rotate_left; (simp only [Act.put, zSA, zSB, zSC, i64_w, i32_w]; rfl)
                    refine pure_ (i := 8) (N := some 45) (v := ?_) (a' := ?_) (bq 14 491) rfl rfl (any_of HT_.out (by kernel_rfl)) (fun _ _ _ h => h) (Or.inl ⟨by rfl, ?_⟩) ?_ ?_; rotate_left; (intro w'; go_simp; (with_reducible rfl)); rotate_left; (simp only [Act.put, zSA, zSB, zSC, i64_w, i32_w]; rfl)
                    refine pure_ (i := 10) (N := some 47) (v := ?_) (a' := ?_) (bq 14 1515) rfl rfl (any_of HT_.out (by kernel_rfl)) (fun _ _ _ h => h) (Or.inl ⟨by rfl, ?_⟩) ?_ ?_; rotate_left; (intro w'; go_simp; (with_reducible rfl)); rotate_left; (simp only [Act.put, zSA, zSB, zSC, i64_w, i32_w]; rfl)
                    refine take_ (i := 2) (N := some 39) (v := ?_) (a' := ?_) (bq 14 1519) rfl rfl (take_ofW HT_.out HW_.out (by kernel_rfl)) (fun _ _ _ h => h) (Or.inl ⟨by rfl, ?_⟩) hHeld ?_ ?_; rotate_left; (rintro w' ⟨s0, s1⟩; go_simp; (with_reducible rfl)); rotate_left; (simp only [Act.put, zSA, zSB, zSC, i64_w, i32_w]; rfl)
                    refine pure_ (i := 4) (N := some 41) (v := ?_) (a' := ?_) (bq 14 1535) rfl rfl (any_of HT_.out (by kernel_rfl)) (fun _ _ _ h => h) (Or.inl ⟨by rfl, ?_⟩) ?_ ?_; rotate_left; (intro w'; go_simp; (with_reducible rfl)); rotate_left; (simp only [Act.put, zSA, zSB, zSC, i64_w, i32_w]; rfl)
                    refine take_ (i := 9) (N := some 46) (v := ?_) (a' := ?_) (bq 14 2047) rfl rfl (take_ofW HT_.out HW_.out (by kernel_rfl)) (fun _ _ _ h => h) (Or.inl ⟨by rfl, ?_⟩) hHeld ?_ ?_; rotate_left; (rintro w' ⟨s0, s1⟩; go_simp; (with_reducible rfl)); rotate_left; (simp only [Act.put, zSA, zSB, zSC, i64_w, i32_w]; rfl)
                    refine pure_ (i := 11) (N := some 48) (v := ?_) (a' := ?_) (bq 14 4095) rfl rfl (any_of HT_.out (by kernel_rfl)) (fun _ _ _ h => h) (Or.inl ⟨by rfl, ?_⟩) ?_ ?_; rotate_left; (intro w'; go_simp; (with_reducible rfl)); rotate_left; (simp only [Act.put, zSA, zSB, zSC, i64_w, i32_w]; rfl)
                    refine one_ (i := 12) (N := some 49) (bq 14 8191) rfl rfl (one_of HT_.out (by kernel_rfl)) (by decide) (fun K hK => ?_)
                    refine goes_ Try.func96 (by kernel_rfl) rfl #[.string ((rdOf ByteArray.empty x1_1 0).extract (a2 : Int).toNat (rdOf ByteArray.empty x1_1 0).size), .string ((rdOf ByteArray.empty x1_1 (ji23)).extract (a2 : Int).toNat (rdOf ByteArray.empty x1_1 (ji23)).size)] (by rfl) rfl rfl (by (try simp only [List.map_toArray, List.map_cons, List.map_nil]); first | done | (simp only [hji23]; rfl) | rfl | (simp only [List.length_drop, List.length_take]; rfl)) ?_
                    with_reducible refine (impl_common.calls kj5 ((rdOf ByteArray.empty x1_1 0).extract (a2 : Int).toNat (rdOf ByteArray.empty x1_1 0).size) ((rdOf ByteArray.empty x1_1 (ji23)).extract (a2 : Int).toNat (rdOf ByteArray.empty x1_1 (ji23)).size) t106 _ A28.out).mono ?_
                    rintro e w' ⟨rfl, ⟨nd, rfl⟩⟩
                    refine ⟨_, rfl, ?_⟩
                    refine hK.out _ _ ⟨hHeld.1, hHeld.2⟩ (fun hHeld => ?_)
                    clear hK K
                    refine norm_ (a' := ?_) ?_ ?_
                    rotate_left
                    ·
                     show Act.put _ (some 49) _ = _
                     simp only [Act.put, zSA, zSB, zSC, i64_w, i32_w]
                     rfl
                    refine pure_ (i := 13) (N := some 10) (v := ?_) (a' := ?_) (bq 14 16383) rfl rfl (any_of HT_.out (by kernel_rfl)) (fun _ _ _ h => h) (Or.inl ⟨by rfl, ?_⟩) ?_ ?_; rotate_left; (intro w'; go_simp; (with_reducible rfl)); rotate_left; (simp only [Act.put, zSA, zSB, zSC, i64_w, i32_w]; rfl)
                    refine done_ (done_of HT_.out (by kernel_rfl)) ?_
                    obtain ⟨Ao56, co56, eo56⟩ := Kd.R_slice HO_0.out
                    subst eo56
                    try go_wp2
                    (try (rw [drewN_self w55]; generalize hq_ : World.drewN w55 _ = w55; have n0_ : Aside0 (Kd.R k64 64 w55 w0.heap.size (fun k_ => (P0_ k_ ∨ w.heap.size ≤ k_)) (.slice Ao56 x0_1.length co56) x0_1) := ⟨by rw [← hq_]; exact (by (with_reducible repeat (first | apply Kd.R_alloc | apply Kd.R_drewN | apply Kd.R_drew)); exact HO_0.out)⟩; have n1_ : Aside0 (Kd.V Kd.string 9 w55 w0.heap.size (fun k_ => ((P0_ k_ ∨ P1_ k_) ∨ w.heap.size ≤ k_) ∧ some k_ ≠ (.slice Ao56 x0_1.length co56 : Value).ownBlock) (.slice (some ad104) x1_1.length co7) x1_1) := ⟨by rw [← hq_]; exact (by (with_reducible repeat (first | apply Kd.V_alloc | apply Kd.V_drewN | apply Kd.V_drew)); exact HO_1.out)⟩; have n2_ : Aside0 (Kept w w55 (fun k_ => P0_ k_)) := ⟨by rw [← hq_]; exact (by repeat (first | (with_reducible first | exact HK.out | apply Kept.alloc | apply Kept.drewN | apply Kept.drew) | exact HK.out))⟩; have n3_ : Aside0 (Below w0.heap.size w0 w55) := ⟨by rw [← hq_]; exact (by repeat (first | (with_reducible first | exact HB.out | apply below_alloc | apply pw_below_drewN | apply below_drew1) | exact HB.out))⟩; clear HO_0 HO_1 HK HB hq_; have HO_0 := n0_; have HO_1 := n1_; have HK := n2_; have HB := n3_; clear n0_ n1_ n2_ n3_))
                    have n0_ := aM (Kd.R_drew HO_0.out)
                    have n1_ := aM (Kd.V_drew HO_1.out)
                    have n2_ := aM (Kept.drew HK.out)
                    have n3_ := aM (below_drew1 HB.out)
                    clear HO_0
                    clear HO_1
                    clear HK
                    clear HB
                    have HO_0 := n0_
                    have HO_1 := n1_
                    have HK := n2_
                    have HB := n3_
                    clear n0_ n1_ n2_ n3_
                    have p107 : 0 ≤ (0 : Int) := (by omega)
                    have q107 : 0 < (x1_1.length : Int) := of_decide_eq_true (by first | (with_reducible assumption) | assumption)
                    obtain ⟨ad107, e107, hx107_0⟩ := Kd.at_string (Kd.V_reads' HO_1.out).2.2 0 p107 q107
                    obtain rfl : ad104 = ad107 := (by injection e107)
                    have qi107 : (0 < x1_1.length) = True := eq_true (by omega)
                    (try rw [show ((0 : Int)).toNat = 0 from rfl] at hx107_0)
                    (try rw [Addr.add_zero'] at hx107_0)
                    replace p107 := eq_true p107
                    replace q107 := eq_true q107
                    have p108 : 0 ≤ (0 : Int) := (by omega)
                    have q108 : 0 < (x1_1.length : Int) := of_decide_eq_true (by first | (with_reducible assumption) | assumption)
                    obtain ⟨ad108, e108, hx108_0⟩ := Kd.at_string (Kd.V_reads' HO_1.out).2.2 0 p108 q108
                    obtain rfl : ad104 = ad108 := (by injection e108)
                    have qi108 : (0 < x1_1.length) = True := eq_true (by omega)
                    (try rw [show ((0 : Int)).toNat = 0 from rfl] at hx108_0)
                    (try rw [Addr.add_zero'] at hx108_0)
                    replace p108 := eq_true p108
                    replace q108 := eq_true q108
                    refine start_ (n := 18) (S := fun w' => w'.cell? ad104 = some (.string (rdOf ByteArray.empty x1_1 0)) ∧ w'.cell? ad104 = some (.string (rdOf ByteArray.empty x1_1 0))) (ds := [15, 16]) (bq 18 0) (by kernel_rfl) rfl (by kernel_rfl) ⟨hx107_0, hx108_0⟩ (fun hHeld => ?_); refine with_tabW impl_grow.tab8 impl_grow.bits8 (fun HT_ HW_ => ?_)
                    generalize w55.drew = w57 at HO_0 HO_1 HK HB hx107_0 hx108_0 hHeld ⊢
                    refine pure_ (i := 0) (N := some 55) (v := ?_) (a' := ?_) (bq 18 1) rfl rfl (any_of HT_.out (by kernel_rfl)) (fun _ _ _ h => h) (Or.inl ⟨by rfl, ?_⟩) ?_ ?_; rotate_left; (intro w'; go_simp; (with_reducible rfl)); rotate_left; (simp only [Act.put, zSA, zSB, zSC, i64_w, i32_w]; rfl)
                    refine pure_ (i := 1) (N := some 56) (v := ?_) (a' := ?_) (bq 18 3) rfl rfl (any_of HT_.out (by kernel_rfl)) (fun _ _ _ h => h) (Or.inl ⟨by rfl, ?_⟩) ?_ ?_; rotate_left; (intro w'; go_simp; (with_reducible rfl)); rotate_left; (simp only [Act.put, zSA, zSB, zSC, i64_w, i32_w]; rfl)
                    refine pure_ (i := 2) (N := some 57) (v := ?_) (a' := ?_) (bq 18 7) rfl rfl (any_of HT_.out (by kernel_rfl)) (fun _ _ _ h => h) (Or.inl ⟨by rfl, ?_⟩) ?_ ?_; rotate_left; (intro w'; go_simp; (with_reducible rfl)); rotate_left; (simp only [Act.put, zSA, zSB, zSC, i64_w, i32_w]; rfl)
                    refine pure_ (i := 4) (N := some 59) (v := ?_) (a' := ?_) (bq 18 23) rfl rfl (any_of HT_.out (by kernel_rfl)) (fun _ _ _ h => h) (Or.inl ⟨by rfl, ?_⟩) ?_ ?_; rotate_left; (intro w'; go_simp; (with_reducible rfl)); rotate_left; (simp only [Act.put, zSA, zSB, zSC, i64_w, i32_w]; rfl)
                    refine pure_ (i := 5) (N := some 60) (v := ?_) (a' := ?_) (bq 18 55) rfl rfl (any_of HT_.out (by kernel_rfl)) (fun _ _ _ h => h) (Or.inl ⟨by rfl, ?_⟩) ?_ ?_; rotate_left; (intro w'; go_simp; (with_reducible rfl)); rotate_left; (simp only [Act.put, zSA, zSB, zSC, i64_w, i32_w]; rfl)
                    refine pure_ (i := 7) (N := some 62) (v := ?_) (a' := ?_) (bq 18 183) rfl rfl (any_of HT_.out (by kernel_rfl)) (fun _ _ _ h => h) (Or.inl ⟨by rfl, ?_⟩) ?_ ?_; rotate_left; (intro w'; go_simp; (with_reducible rfl)); rotate_left; (simp only [Act.put, zSA, zSB, zSC, i64_w, i32_w]; rfl)
                    refine pure_ (i := 8) (N := some 63) (v := ?_) (a' := ?_) (bq 18 439) rfl rfl (any_of HT_.out (by kernel_rfl)) (fun _ _ _ h => h) (Or.inl ⟨by rfl, ?_⟩) ?_ ?_; rotate_left; (intro w'; go_simp; (with_reducible rfl)); rotate_left; (simp only [Act.put, zSA, zSB, zSC, i64_w, i32_w]; rfl)
                    refine pure_ (i := 11) (N := some 66) (v := ?_) (a' := ?_) (bq 18 2487) rfl rfl (any_of HT_.out (by kernel_rfl)) (fun _ _ _ h => h) (Or.inl ⟨by rfl, ?_⟩) ?_ ?_; rotate_left; (intro w'; go_simp; (with_reducible rfl)); rotate_left; (simp only [Act.put, zSA, zSB, zSC, i64_w, i32_w]; rfl)
                    refine pure_ (i := 13) (N := some 68) (v := ?_) (a' := ?_) (bq 18 10679) rfl rfl (any_of HT_.out (by kernel_rfl)) (fun _ _ _ h => h) (Or.inl ⟨by rfl, ?_⟩) ?_ ?_; rotate_left; (intro w'; go_simp; (with_reducible rfl)); rotate_left; (simp only [Act.put, zSA, zSB, zSC, i64_w, i32_w]; rfl)
                    refine take_ (i := 3) (N := some 58) (v := ?_) (a' := ?_) (bq 18 10687) rfl rfl (take_ofW HT_.out HW_.out (by kernel_rfl)) (fun _ _ _ h => h) (Or.inl ⟨by rfl, ?_⟩) hHeld ?_ ?_; rotate_left; (rintro w' ⟨s0, s1⟩; go_simp; (with_reducible rfl)); rotate_left; (simp only [Act.put, zSA, zSB, zSC, i64_w, i32_w]; rfl)
                    refine pure_ (i := 6) (N := some 61) (v := ?_) (a' := ?_) (bq 18 10751) rfl rfl (any_of HT_.out (by kernel_rfl)) (fun _ _ _ h => h) (Or.inl ⟨by rfl, ?_⟩) ?_ ?_; rotate_left; (intro w'; go_simp; (with_reducible rfl)); rotate_left; (simp only [Act.put, zSA, zSB, zSC, i64_w, i32_w]; rfl)
                    refine take_ (i := 9) (N := some 64) (v := ?_) (a' := ?_) (bq 18 11263) rfl rfl (take_ofW HT_.out HW_.out (by kernel_rfl)) (fun _ _ _ h => h) (Or.inl ⟨by rfl, ?_⟩) hHeld ?_ ?_; rotate_left; (rintro w' ⟨s0, s1⟩; go_simp; (with_reducible rfl)); rotate_left; (simp only [Act.put, zSA, zSB, zSC, i64_w, i32_w]; rfl)
                    refine pure_ (i := 10) (N := some 65) (v := ?_) (a' := ?_) (bq 18 12287) rfl rfl (any_of HT_.out (by kernel_rfl)) (fun _ _ _ h => h) (Or.inl ⟨by rfl, ?_⟩) ?_ ?_; rotate_left; (intro w'; go_simp; (with_reducible rfl)); rotate_left; (simp only [Act.put, zSA, zSB, zSC, i64_w, i32_w]; rfl)
                    refine pure_ (i := 12) (N := some 67) (v := ?_) (a' := ?_) (bq 18 16383) rfl rfl (any_of HT_.out (by kernel_rfl)) (fun _ _ _ h => h) (Or.inl ⟨by rfl, ?_⟩) ?_ ?_; rotate_left; (intro w'; go_simp; (with_reducible rfl)); rotate_left; (simp only [Act.put, zSA, zSB, zSC, i64_w, i32_w]; rfl)
                    refine pure_ (i := 14) (N := some 69) (v := ?_) (a' := ?_) (bq 18 32767) rfl rfl (any_of HT_.out (by kernel_rfl)) (fun _ _ _ h => h) (Or.inl ⟨by rfl, ?_⟩) ?_ ?_; rotate_left; (intro w'; go_simp; (with_reducible rfl)); rotate_left; (simp only [Act.put, zSA, zSB, zSC, i64_w, i32_w]; rfl)
                    refine last_ (i := 15) (N := some 70) #[true, true, true, true, true, true, true, true, true, true, true, true, true, true, true, true, false, false] rfl rfl (one_of HT_.out (by kernel_rfl)) (by decide) (fun K hK => ?_)
                    refine value_ (w1 := ?_) (v := ?_) (by rfl) rfl ?_ ?_
                    rotate_left 2
                    ·
                     go_simp
                     constructor
                     ·
                      rfl
                     ·
                      rfl
                    refine hK.out _ _ ?_
                    clear hK K
                    refine norm_ (a' := ?_) ?_ ?_
                    rotate_left
                    ·
                     show Act.put _ (some 70) _ = _
                     simp only [Act.put, zSA, zSB, zSC, i64_w, i32_w]
                     rfl
                    refine last_ (i := 16) (N := some 71) #[true, true, true, true, true, true, true, true, true, true, true, true, true, true, true, true, true, false] rfl rfl (one_of HT_.out (by kernel_rfl)) (by decide) (fun K hK => ?_)
                    refine Kd.R_append_step k64 (w0 := w0) w0.heap.size (by rfl) (.tmp 55) (.tmp 70) 24 64 (.agg #[(.string ⟨#[]⟩), (.bool false), (.int .i64 0)]) 32 rfl Try.underlying24 info64 rfl (by decide) (by omega) (.slice Ao56 x0_1.length co56) x0_1 (⟨(rdOf ByteArray.empty x1_1 0).extract (a2 : Int).toNat ((wrap64 (a2 + t106)) : Int).toNat, (((rdOf ByteArray.empty x1_1 0).size : Int) == (wrap64 (a2 + t106))), a3⟩ : S64) [.string ((rdOf ByteArray.empty x1_1 0).extract (a2 : Int).toNat ((wrap64 (a2 + t106)) : Int).toNat), .bool (((rdOf ByteArray.empty x1_1 0).size : Int) == (wrap64 (a2 + t106))), .int .i64 a3] (fun k_ => (P0_ k_ ∨ w.heap.size ≤ k_)) (fun _ => False) rfl rfl ?aP (fun _ hk => hk.elim) ?aF ?aO ?aB ?aS ?aL ?_
                    (case aP => exact k64_mkM _ _ _ (⟨(rdOf ByteArray.empty x1_1 0).extract (a2 : Int).toNat ((wrap64 (a2 + t106)) : Int).toNat, (((rdOf ByteArray.empty x1_1 0).size : Int) == (wrap64 (a2 + t106))), a3⟩ : S64))
                    (case aB => exact (by repeat (first | (with_reducible first | exact HB.out | apply below_alloc | apply pw_below_drewN | apply below_drew1) | exact HB.out)))
                    (case aF => exact (fun k_ hk => (.inr (Nat.le_trans (by first | exact HK.out.1 | exact (show Kept w _ (fun k_ => P0_ k_) from by repeat (first | (with_reducible first | exact HK.out | apply Kept.alloc | apply Kept.drewN | apply Kept.drew) | exact HK.out)).1) hk))))
                    (case aO => exact (by (with_reducible repeat (first | apply Kd.R_alloc | apply Kd.R_drewN | apply Kd.R_drew)); exact HO_0.out))
                    (case aS => exact (below_size (by repeat (first | (with_reducible first | exact HB.out | apply below_alloc | apply pw_below_drewN | apply below_drew1) | exact HB.out))))
                    (case aL => have := LMc32.out; omega)
                    intro v110 w58 ho hb hg hat
                    rw [← Ny109.out] at ho
                    have n0_ := aM (Kd.V_afterv (ok := (fun k_ => ((P0_ k_ ∨ P1_ k_) ∨ w.heap.size ≤ k_))) (by (with_reducible repeat (first | apply Kd.V_alloc | apply Kd.V_drewN | apply Kd.V_drew)); exact HO_1.out) hg hat)
                    have n1_ := aM (hb)
                    have n2_ := aM (Kept.of_grown (S := (fun k_ => P0_ k_)) hg (by repeat (first | (with_reducible first | exact HK.out | apply Kept.alloc | apply Kept.drewN | apply Kept.drew) | exact HK.out)) (fun k_ e_ => (HO_0.out.1 k_ e_)))
                    have n3_ := aM (ho)
                    clear HO_1
                    clear HB
                    clear HK
                    clear HO_0
                    have HO_1 := n0_
                    have HB := n1_
                    have HK := n2_
                    have HO111 := n3_
                    clear n0_ n1_ n2_ n3_
                    clear ho hb hg hat
                    refine hK.out _ _ ?_
                    clear hK K
                    refine norm_ (a' := ?_) ?_ ?_
                    rotate_left
                    ·
                     show Act.put _ (some 71) _ = _
                     simp only [Act.put, zSA, zSB, zSC, i64_w, i32_w]
                     rfl
                    refine pure_ (i := 17) (N := some 0) (v := ?_) (a' := ?_) (bq 18 262143) rfl rfl (any_of HT_.out (by kernel_rfl)) (fun _ _ _ h => h) (Or.inl ⟨by rfl, ?_⟩) ?_ ?_; rotate_left; (intro w'; go_simp; (with_reducible rfl)); rotate_left; (simp only [Act.put, zSA, zSB, zSC, i64_w, i32_w]; rfl)
                    refine done_ (done_of HT_.out (by kernel_rfl)) ?_
                    have q59 : (x9_5 : Int) ≤ ((x1_1.length : Int) : Int) := of_decide_eq_true (by first | (with_reducible assumption) | assumption)
                    obtain ⟨i059, hi059, _, hsz59, _⟩ := info_parts info9
                    have hroom59 : x1_1.length ≤ co7 := (Kd.V_reads' HO_1.out).2.1
                    have hC59 : Kd.F Kd.string _ _ (some ad104) x1_1.length x1_1 := (Kd.V_at (base := w0.heap.size) HO_1.out).2.2
                    have hcut59 := cut_to (P := Try.prog) 22 9 .i64 Try.underlying22 hi059 (some ad104) x1_1.length co7 x9_5 (of_decide_eq_true (by first | (with_reducible assumption) | assumption)) q59 hroom59
                    have hr59 := Kd.F_take (m := (x9_5 : Int).toNat) hC59 (by omega)
                    have hy59 : y112.length = (x9_5 : Int).toNat := (by rw [Ny112.out, List.length_take]; omega)
                    rw [← Ny112.out] at hr59
                    rw [← hy59] at hcut59
                    have HO116 := aM (show Kd.V Kd.string 9 _ w0.heap.size _ (.slice (some ad104) y112.length co7) y112 from Kd.V_mk (by omega) hr59)
                    have HC116 := aM (show y112.length ≤ co7 from by omega)
                    clear hr59 hC59 hroom59 hi059 hsz59
                    have KY59 := aM hy59
                    clear hy59
                    replace q59 := eq_true q59
                    obtain ⟨Ao60, co60, eo60⟩ := Kd.R_slice HO111.out
                    subst eo60
                    have p117 : 0 ≤ ((x0_1.length : Int) : Int) := of_decide_eq_true (by first | (with_reducible assumption) | assumption)
                    have q117 : (x0_1.length : Int) < (y109.length : Int) := of_decide_eq_true (by first | (with_reducible assumption) | assumption)
                    obtain ⟨ad117, e117, hx117_0, hx117_1, hx117_2⟩ := at_T64 (Kd.R_reads' HO111.out).2.2 (x0_1.length : Int) p117 q117
                    (try rw [← Nbq37.out] at hx117_1)
                    cases e117
                    try have hz_hx117_0 := aM hx117_0
                    try have hz_hx117_1 := aM hx117_1
                    try have hz_hx117_2 := aM hx117_2
                    (try simp only [Go.IntWalk.toNatUp] at hx117_0)
                    (try simp only [Go.IntWalk.toNatUp] at hx117_1)
                    (try simp only [Go.IntWalk.toNatUp] at hx117_2)
                    replace p117 := eq_true p117
                    replace q117 := eq_true q117
                    try go_wp2_with (first | ((with_reducible refine gate_callee (f := 72) rfl ?_); refine goesL_ (some 86) rfl rfl Try.func72 (by kernel_rfl) rfl #[.slice (some ad117) y109.length co60, .slice (some ad104) y112.length co7, .int .i64 (wrap64 (a2 + t106)), .int .i64 (x0_1.length : Int)] rfl (by (try simp only [List.map_toArray, List.map_cons, List.map_nil]); first | done | rfl | (simp only [List.length_drop, List.length_take]; rfl)) ?_; (with_reducible refine (ih kj5 (by have := HK1.out; have := HJ5.out; omega) (fun k_ => some k_ = (.slice (some ad117) y109.length co60 : Value).ownBlock) (.slice (some ad117) y109.length co60) y109 (fun k_ => (((P0_ k_ ∨ P1_ k_) ∨ w.heap.size ≤ k_) ∧ some k_ ≠ (.slice (some ad117) y109.length co60 : Value).ownBlock)) _ _ y112 (wrap64 (a2 + t106)) (x0_1.length : Int) t131 w0 _ ?side1 ?side2 ?side3 A52.out).mono ?_); (case side1 => repeat (first | (with_reducible first | exact HB.out | apply below_alloc | apply pw_below_drewN | apply below_drew1) | exact HB.out)); (case side2 => exact Kd.R_tight rfl HO111.out); (case side3 => exact Kd.V_mono (HO116.out) (fun k_ hk_ => ⟨hk_, hk_.2⟩)); rintro e w61 ⟨v132, rfl, ho0, hb, hkp⟩; refine ⟨_, rfl, ?_⟩; have n0_ := aM (Kd.V_mono (ok' := fun k_ => ((P0_ k_ ∨ P1_ k_) ∨ w.heap.size ≤ k_) ∧ some k_ ≠ (v132 : Value).ownBlock) (Kd.V_keptB (HO_1.out) hkp (fun k_ hk_ hs_ => (hk_.2) hs_)) (fun k_ hk_ => ⟨hk_.1.1, fun e_ => Or.elim (ho0.1 k_ e_.symm) (fun hs_ => hk_.2.1 hs_) (fun hn_ => Nat.not_le.2 hk_.2.2 hn_)⟩)); have n1_ := aM (Kd.V_mono (ok' := fun k_ => ((P0_ k_ ∨ P1_ k_) ∨ w.heap.size ≤ k_) ∧ some k_ ≠ (v132 : Value).ownBlock) (Kd.V_keptB (HO116.out) hkp (fun k_ hk_ hs_ => (hk_.2) hs_)) (fun k_ hk_ => ⟨hk_.1.1, fun e_ => Or.elim (ho0.1 k_ e_.symm) (fun hs_ => hk_.2.1 hs_) (fun hn_ => Nat.not_le.2 hk_.2.2 hn_)⟩)); have n2_ := aM (Kd.R_mono (ok' := fun k_ => (P0_ k_ ∨ w.heap.size ≤ k_)) ho0 (fun k_ hk_ => Or.elim hk_ (fun hs_ => (HO111.out.1 k_ (hs_).symm)) (fun hn_ => (.inr (Nat.le_trans (by first | exact HK.out.1 | exact (show Kept w _ (fun k_ => P0_ k_) from by repeat (first | (with_reducible first | exact HK.out | apply Kept.alloc | apply Kept.drewN | apply Kept.drew) | exact HK.out)).1) hn_))))); have n3_ := aM (Kept.then_ (S := (fun k_ => P0_ k_)) (by repeat (first | (with_reducible first | exact HK.out | apply Kept.alloc | apply Kept.drewN | apply Kept.drew) | exact HK.out)) hkp (fun k_ hs_ => (fun e_ => (HO111.out.1 k_ e_.symm)) hs_)); have n4_ := aM (hb); clear HO_1; clear HO116; clear HK; clear HB; clear HO111; have HO_1 := n0_; have HO116 := n1_; have HO133 := n2_; have HK := n3_; have HB := n4_; clear n0_ n1_ n2_ n3_ n4_; (try clear hb); (try clear hkp); (try clear ho0); have q62 : (x9_5 : Int) ≤ ((x1_1.length : Int) : Int) := of_decide_eq_true (by first | (with_reducible assumption) | assumption); obtain ⟨i062, hi062, _, hsz62, _⟩ := info_parts info9; have hroom62 : x1_1.length ≤ co7 := (Kd.V_reads' HO_1.out).2.1; have hC62 : Kd.F Kd.string _ _ (some ad104) x1_1.length x1_1 := (Kd.V_at (base := w0.heap.size) HO_1.out).2.2; have q062 : (0 : Int) ≤ (x9_5 : Int) := of_decide_eq_true (by first | (with_reducible assumption) | assumption); have hcut62 := cut_from (P := Try.prog) 22 9 .i64 Try.underlying22 hi062 1 hsz62 (some ad104) x1_1.length co7 x9_5 q062 q62; have hr62 := Kd.F_cut (m := (x9_5 : Int).toNat) (c := co7) hC62 (by omega) hroom62; obtain ⟨A62, hA62⟩ : ∃ A1, A1 = (if co7 = (x9_5 : Int).toNat then (some ad104) else ((some ad104) : Option Addr).map (·.add ((x9_5 : Int).toNat * 1))) := ⟨_, rfl⟩; obtain ⟨c62, hc62⟩ : ∃ c1, c1 = co7 - (x9_5 : Int).toNat := ⟨_, rfl⟩; have hy62 : y134.length = x1_1.length - (x9_5 : Int).toNat := (by rw [Ny134.out, List.length_drop] <;> omega); rw [show (x1_1).drop (x9_5 : Int).toNat = y134 from Ny134.out.symm] at hr62; replace hr62 : Kd.F Kd.string _ _ A62 y134.length y134 := (by rw [hA62]; exact hr62); rw [← hy62, ← hA62, ← hc62] at hcut62; have HO138 := aM (show Kd.V Kd.string 9 _ w0.heap.size _ (.slice A62 y134.length c62) y134 from Kd.V_mk (by rw [hy62, hc62]; exact Nat.sub_le_sub_right hroom62 _) hr62); have HC138 := aM (show y134.length ≤ c62 from by rw [hy62, hc62]; exact Nat.sub_le_sub_right hroom62 _); clear hr62 hC62 hroom62 hi062 hsz62 hc62; have KY62 := aM hy62; have KA62 := aM hA62; clear hy62 hA62; replace q62 := eq_true q62))
                    go_roundg kj5
                    case measure => have := HK1.out; have := HJ5.out; omega
                    case rel => exact ⟨(t131), (y134), H', ⟨by have := HK1.out; have := HJ5.out; omega⟩, ⟨by (with_reducible repeat (first | apply Kd.R_alloc | apply Kd.R_drewN | apply Kd.R_drew)); exact HO133.out⟩, ⟨by (with_reducible repeat (first | apply Kd.V_alloc | apply Kd.V_drewN | apply Kd.V_drew)); exact HO138.out⟩, ⟨by repeat (first | (with_reducible first | exact HK.out | apply Kept.alloc | apply Kept.drewN | apply Kept.drew) | exact HK.out)⟩, ⟨by repeat (first | (with_reducible first | exact HB.out | apply below_alloc | apply pw_below_drewN | apply below_drew1) | exact HB.out)⟩⟩
                  ·
                   rw [if_neg c36] at H
                   exact absurd H (by simp)
                 ·
                  rw [if_neg c35] at H
                  exact absurd H (by simp)
                ·
                 rw [if_neg c34] at H
                 exact absurd H (by simp)
               ·
                rw [if_neg c33] at H
                exact absurd H (by simp)
              ·
               rw [if_neg c32] at H
               exact absurd H (by simp)
             ·
              rw [if_neg c31] at H
              exact absurd H (by simp)
            ·
             rw [if_neg c30] at H
             exact absurd H (by simp)
           ·
            rw [if_neg c27] at H
            exact absurd H (by simp)
          ·
           rw [if_neg c25] at H
           exact absurd H (by simp)
         ·
          rw [if_neg c24] at H
          exact absurd H (by simp)
        ·
         rw [if_neg c22] at H
         exact absurd H (by simp)
       ·
        rw [if_neg c21] at H
        exact absurd H (by simp)
      ·
       rw [if_neg c20] at H
       exact absurd H (by simp)
   ·
    rw [if_neg c5] at H
    have c5b0 : decide (0 < (x1_1.length : Int)) = false := decide_eq_false c5
    have c5b1 : decide (0 < x1_1.length) = false := decide_eq_false (by omega)
    clear c5
    obtain rfl := Option.some.inj H
    obtain ⟨Ao63, co63, eo63⟩ := Kd.V_slice HO_1.out
    subst eo63
    go_wp2
    go_ret
    exact ⟨_, by first | rfl | (simp [errW_none, errW_some] <;> rfl) | (simp [*, errW_none, errW_some] <;> rfl), by (with_reducible repeat (first | apply Kd.R_alloc | apply Kd.R_drewN | apply Kd.R_drew)); exact HO_0.out, by repeat (first | (with_reducible first | exact HB.out | apply below_alloc | apply pw_below_drewN | apply below_drew1) | exact HB.out), by repeat (first | (with_reducible first | exact HK.out | apply Kept.alloc | apply Kept.drewN | apply Kept.drew) | exact HK.out)⟩

def impl_smallLetters.l0 : Nat → ByteArray → Int → Int → Int → Option (Bool)
 | 0, _, _, _, _ => none
 | k + 1, x0, x1, x7, x8 => if x8 < x7 then (if 0 ≤ x8 then (if x8 < (x0.size : Int) then (if (bt x0 x8) < 97 then (some false) else (if (bt x0 x8) > 122 then (some false) else (impl_smallLetters.l0 k x0 x1 x7 (wrap64 (x8 + 1))))) else (none)) else (none)) else (some (decide ((x0.size : Int) ≤ x1)))
def impl_smallLetters.f (k : Nat) (a0 : ByteArray) (a1 : Int) : Option (Bool) := impl_smallLetters.l0 k a0 a1 (a0.size : Int) 0
set_option maxHeartbeats 8000000 in
set_option maxRecDepth 100000 in
theorem impl_smallLetters.calls (k : Nat) (a0 : ByteArray) (a1 : Int) (r : Bool) (w : World) (h : impl_smallLetters.f k a0 a1 = some r) :
  Calls Try.prog 69 #[.string a0, .int .i64 a1] w fun e w' => e = .returned (.bool r) ∧ Drawn0 w w' := by
 have H : (impl_smallLetters.l0 k a0 a1 (a0.size : Int) 0) = some r := h
 clear h
 have H' := aM H
 clear H
 go_enter Try.func69, Try.ntmps69
 go_wp2
 go_loopg [8] k (fun kq v8 w' => ∃ (x8_1 : Int), v8 = .int .i64 x8_1 ∧ Aside0 (impl_smallLetters.l0 kq a0 a1 (a0.size : Int) x8_1 = some r) ∧ Aside0 (kq ≤ k) ∧ Drawn0 w w')
 case atStart => exact ⟨(0), (by first | rfl | (simp; done) | (simp [*]; done)), H', ⟨Nat.le_refl _⟩, by repeat (first | exact Drawn0.refl _ | apply Drawn0.step)⟩
 case round =>
  clear H'
  try clear p2
  obtain ⟨x8_1, rfl, HA, HK1, ⟨m1, rfl⟩⟩ := hrel
  cases gk with
  | zero => exact absurd HA.out (by simp [impl_smallLetters.l0])
  | succ k1 =>
   have H := HA.out
   clear HA
   simp only [impl_smallLetters.l0] at H
   by_cases c3 : x8_1 < (a0.size : Int)
   ·
    rw [if_pos c3] at H
    have c3b0 : decide (x8_1 < (a0.size : Int)) = true := decide_eq_true c3
    clear c3
    by_cases c4 : 0 ≤ x8_1
    ·
     rw [if_pos c4] at H
     have c4b0 : decide (0 ≤ x8_1) = true := decide_eq_true c4
     clear c4
     by_cases c5 : x8_1 < (a0.size : Int)
     ·
      rw [if_pos c5] at H
      have c5b0 : decide (x8_1 < (a0.size : Int)) = true := decide_eq_true c5
      clear c5
      by_cases c7 : (bt a0 x8_1) < 97
      ·
       rw [if_pos c7] at H
       have c7b0 : decide ((bt a0 x8_1) < 97) = true := decide_eq_true c7
       clear c7
       obtain rfl := Option.some.inj H
       have p6 : 0 ≤ (x8_1 : Int) := of_decide_eq_true (by first | (with_reducible assumption) | assumption)
       have q6 : x8_1 < (a0.size : Int) := of_decide_eq_true (by first | (with_reducible assumption) | assumption)
       have hx6 := bt_at a0 x8_1
       replace p6 := eq_true p6
       replace q6 := eq_true q6
       go_wp2
       go_ret
       exact ⟨by first | rfl | (simp; done) | (simp [*]; done), by repeat (first | exact Drawn0.refl _ | apply Drawn0.step)⟩
      ·
       rw [if_neg c7] at H
       have c7b0 : decide ((bt a0 x8_1) < 97) = false := decide_eq_false c7
       clear c7
       by_cases c9 : (bt a0 x8_1) > 122
       ·
        rw [if_pos c9] at H
        have c9b0 : decide (122 < (bt a0 x8_1)) = true := decide_eq_true c9
        clear c9
        obtain rfl := Option.some.inj H
        have p6 : 0 ≤ (x8_1 : Int) := of_decide_eq_true (by first | (with_reducible assumption) | assumption)
        have q6 : x8_1 < (a0.size : Int) := of_decide_eq_true (by first | (with_reducible assumption) | assumption)
        have hx6 := bt_at a0 x8_1
        replace p6 := eq_true p6
        replace q6 := eq_true q6
        have p8 : 0 ≤ (x8_1 : Int) := of_decide_eq_true (by first | (with_reducible assumption) | assumption)
        have q8 : x8_1 < (a0.size : Int) := of_decide_eq_true (by first | (with_reducible assumption) | assumption)
        have hx8 := bt_at a0 x8_1
        replace p8 := eq_true p8
        replace q8 := eq_true q8
        go_wp2
        go_ret
        exact ⟨by first | rfl | (simp; done) | (simp [*]; done), by repeat (first | exact Drawn0.refl _ | apply Drawn0.step)⟩
       ·
        rw [if_neg c9] at H
        have c9b0 : decide (122 < (bt a0 x8_1)) = false := decide_eq_false c9
        clear c9
        have H' := aM H
        clear H
        have p6 : 0 ≤ (x8_1 : Int) := of_decide_eq_true (by first | (with_reducible assumption) | assumption)
        have q6 : x8_1 < (a0.size : Int) := of_decide_eq_true (by first | (with_reducible assumption) | assumption)
        have hx6 := bt_at a0 x8_1
        replace p6 := eq_true p6
        replace q6 := eq_true q6
        have p8 : 0 ≤ (x8_1 : Int) := of_decide_eq_true (by first | (with_reducible assumption) | assumption)
        have q8 : x8_1 < (a0.size : Int) := of_decide_eq_true (by first | (with_reducible assumption) | assumption)
        have hx8 := bt_at a0 x8_1
        replace p8 := eq_true p8
        replace q8 := eq_true q8
        go_wp2
        go_roundg k1
        case measure => have := HK1.out; omega
        case rel => exact ⟨(wrap64 (x8_1 + 1)), (by first | rfl | (simp; done) | (simp [*]; done)), H', ⟨by have := HK1.out; omega⟩, by repeat (first | exact Drawn0.refl _ | apply Drawn0.step)⟩
     ·
      rw [if_neg c5] at H
      exact absurd H (by simp)
    ·
     rw [if_neg c4] at H
     exact absurd H (by simp)
   ·
    rw [if_neg c3] at H
    have c3b0 : decide (x8_1 < (a0.size : Int)) = false := decide_eq_false c3
    clear c3
    obtain rfl := Option.some.inj H
    go_wp2
    go_ret
    exact ⟨by first | rfl | (simp; done) | (simp [*]; done), by repeat (first | exact Drawn0.refl _ | apply Drawn0.step)⟩

def impl_nameOK.f (k : Nat) (a0 : ByteArray) : Option (Bool) := if a0.toList = ([] : List UInt8) then (some false) else ((impl_smallLetters.f k a0 20).bind fun t101 => (some t101))
set_option maxHeartbeats 8000000 in
set_option maxRecDepth 100000 in
theorem impl_nameOK.calls (k : Nat) (a0 : ByteArray) (r : Bool) (w : World) (h : impl_nameOK.f k a0 = some r) :
  Calls Try.prog 42 #[.string a0] w fun e w' => e = .returned (.bool r) ∧ Drawn0 w w' := by
 have H : (if a0.toList = ([] : List UInt8) then (some false) else ((impl_smallLetters.f k a0 20).bind fun t101 => (some t101))) = some r := h
 clear h
 by_cases c2 : a0.toList = ([] : List UInt8)
 ·
  rw [if_pos c2] at H
  have c2b0 : (a0.toList == ([] : List UInt8)) = true := beq_iff_eq.mpr c2
  have c2b1 : (a0.toList != ([] : List UInt8)) = false := bne_eq_false_iff_eq.mpr c2
  clear c2
  obtain rfl := Option.some.inj H
  go_enter Try.func42, Try.ntmps42
  go_wp2
  go_ret
  exact ⟨by first | rfl | (rw [Go.Proofs.Ytcngebfcpobnnaa.Pre.bne_nil]; first | rfl | (simp; done) | (simp <;> rfl)) | (simp; done) | (simp [*]; done), by repeat (first | exact Drawn0.refl _ | apply Drawn0.step)⟩
 ·
  rw [if_neg c2] at H
  have c2b0 : (a0.toList == ([] : List UInt8)) = false := beq_eq_false_iff_ne.mpr c2
  have c2b1 : (a0.toList != ([] : List UInt8)) = true := bne_iff_ne.mpr c2
  replace H := Option.bind_eq_some_iff.mp H
  obtain ⟨t101, A30, H⟩ := H
  replace H : (some t101) = some r := H
  have A3 := aM A30
  clear A30
  obtain rfl := Option.some.inj H
  go_enter Try.func42, Try.ntmps42
  go_wp2_with (first | (go_at_call 69; (try simp only [i64_w]); (with_reducible refine (impl_smallLetters.calls k a0 20 t101 _ A3.out).mono ?_); rintro e w' ⟨rfl, ⟨nd, rfl⟩⟩))
  go_ret
  exact ⟨by first | rfl | (rw [Go.Proofs.Ytcngebfcpobnnaa.Pre.bne_nil]; first | rfl | (simp; done) | (simp <;> rfl)) | (simp; done) | (simp [*]; done), by repeat (first | exact Drawn0.refl _ | apply Drawn0.step)⟩

def impl_radixOf.f (k : Nat) (l0 : List ByteArray) : Option ((List (S64))) := (impl_grow.f k (([(⟨(⟨#[]⟩ : ByteArray), false, (-1)⟩ : S64)] : List (S64))) l0 0 0).bind fun t143 => (some t143)
set_option maxHeartbeats 8000000 in
set_option maxRecDepth 100000 in
theorem impl_radixOf.calls (k : Nat) (A0 : Option Addr) (c0 : Nat) (l0 : List ByteArray) (r : List (S64)) (w : World) (hr0 : Kd.C Kd.string w A0 l0.length l0) (hc0 : l0.length ≤ c0) (h : impl_radixOf.f k l0 = some r) :
  Calls Try.prog 46 #[.slice A0 l0.length c0] w fun e w' => ∃ v0_ : Value, e = .returned (.agg #[v0_]) ∧ Kd.R k64 64 w' w.heap.size (fun _ => True) v0_ r ∧ Below w.heap.size w w' := by
 have hu26 := Try.underlying26
 have hu64 := Try.underlying64
 have HR0 := aM hr0
 have HC0 := aM hc0
 clear hr0 hc0
 have HB := aM (Below.refl w.heap.size w)
 have H : ((impl_grow.f k (([(⟨(⟨#[]⟩ : ByteArray), false, (-1)⟩ : S64)] : List (S64))) l0 0 0).bind fun t143 => (some t143)) = some r := h
 clear h
 obtain ⟨y140, hy140⟩ : ∃ y_ : List (S64), y_ = (([(⟨(⟨#[]⟩ : ByteArray), false, (-1)⟩ : S64)] : List (S64))) := ⟨_, rfl⟩
 replace H : ((impl_grow.f k y140 l0 0 0).bind fun t143 => (some t143)) = some r := by first | (rw [hy140]; with_reducible exact H) | (have H2_ := (Option.bind_some _ _).symm.trans H; rw [hy140]; with_reducible exact H2_) | (have H2_ := (Option.bind_some _ _).symm.trans H; with_reducible exact H2_) | with_reducible exact H | (rw [hy140]; exact H) | exact H
 have Ny140 := aM hy140
 clear hy140
 replace H := Option.bind_eq_some_iff.mp H
 obtain ⟨t143, A20, H⟩ := H
 replace H : (some t143) = some r := H
 have A2 := aM A20
 clear A20
 obtain rfl := Option.some.inj H
 go_enter Try.func46, Try.ntmps46
 go_wp2_with (first | ((with_reducible refine gate_dst (N := 2) rfl ?_); refine box_event ?hg (N := 2) ?hd (cs := #[.slice none 0 0]) (t := 26) ?hr ?_; (case hd => rfl); (case hg => rfl); (case hr => first | (go_simp; done) | (go_simp; rfl)); intro gb139 hg w3 hbox hb; have n0_ := aM (below_step (by repeat (first | (with_reducible first | exact HB.out | apply below_alloc | apply pw_below_drewN | apply below_drew1) | exact HB.out)) hb); have n1_ := aM (hbox); have n2_ := aM ((by rw [hg]; exact (below_size (by repeat (first | (with_reducible first | exact HB.out | apply below_alloc | apply pw_below_drewN | apply below_drew1) | exact HB.out))) : w.heap.size ≤ gb139)); have n3_ := aM ((by rw [hg]; exact (below_size (by repeat (first | (with_reducible first | exact HB.out | apply below_alloc | apply pw_below_drewN | apply below_drew1) | exact HB.out))) : w.heap.size ≤ gb139)); clear HB; have HB := n0_; have BK139 := n1_; have GW139 := n2_; have GE139 := n3_; clear n0_ n1_ n2_ n3_; clear hb hbox hg) | ((with_reducible refine gate_dst (N := 4) rfl ?_); refine Kd.R_lit k64 _ 64 ?hg (N := 4) ?hd (xs := ([(⟨(⟨#[]⟩ : ByteArray), false, (-1)⟩ : S64)] : List (S64))) (inner := [.string (⟨#[]⟩ : ByteArray), .bool false, .int .i64 (-1)]) (ok := fun _ => True) (okp := fun _ => True) ?hr ?hp (fun _ hk => hk) trivial (Below.refl _ _) (Nat.le_refl _) (by simp) ?_; (case hd => rfl); (case hg => rfl); (case hr => first | (go_simp; done) | (go_simp; rfl)); (case hp => exact (Reps.c3 (show Kd.M k64 _ _ _ (⟨(⟨#[]⟩ : ByteArray), false, (-1)⟩ : S64) [.string (⟨#[]⟩ : ByteArray), .bool false, .int .i64 (-1)] from (k64_mkM _ _ _ (⟨(⟨#[]⟩ : ByteArray), false, (-1)⟩ : S64) )) (Reps.none _ _))); intro v141 w4 ho5 hb hg_ hnew_; clear hg_ hnew_; (first | rw [← Ny140.out] at ho5 | (simp only [Int.reduceToNat] at ho5; rw [← Ny140.out] at ho5)); have n0_ := aM (Kd.R_lower ho5 (below_size (by repeat (first | (with_reducible first | exact HB.out | apply below_alloc | apply pw_below_drewN | apply below_drew1 | refine below_set ?_ GE139.out) | exact HB.out)))); have n1_ := aM (blk_below (g := gb139) (o := .cells #[.slice none 0 0] 26 (0, 0)) (by (with_reducible repeat (first | refine blk_drewN ?_ _ | refine blk_drew ?_ | refine blk_alloc ?_ _)); exact BK139.out) hb); have n2_ := aM (below_step (by repeat (first | (with_reducible first | exact HB.out | apply below_alloc | apply pw_below_drewN | apply below_drew1 | refine below_set ?_ GE139.out) | exact HB.out)) hb); clear BK139; clear HB; have HO142 := n0_; have BK139 := n1_; have HB := n2_; clear n0_ n1_ n2_; clear hb ho5; obtain ⟨Ao6, co6, eo6⟩ := Kd.R_slice HO142.out; subst eo6) | ((with_reducible refine gate_callee (f := 72) rfl ?_); refine goesL_ (some 6) rfl rfl Try.func72 (by kernel_rfl) rfl #[.slice Ao6 y140.length co6, .slice A0 l0.length c0, .int .i64 0, .int .i64 0] rfl (by (try simp only [List.map_toArray, List.map_cons, List.map_nil]); first | done | rfl | (simp only [List.length_drop, List.length_take]; rfl)) ?_; (with_reducible refine (impl_grow.calls k (fun k_ => some k_ = (.slice Ao6 y140.length co6 : Value).ownBlock) (.slice Ao6 y140.length co6) y140 (fun k_ => k_ < w.heap.size) _ _ l0 0 0 t143 w _ ?side1 ?side2 ?side3 A2.out).mono ?_); (case side1 => repeat (first | (with_reducible first | exact HB.out | apply below_alloc | apply pw_below_drewN | apply below_drew1 | refine below_set ?_ GE139.out) | exact HB.out)); (case side2 => exact Kd.R_tight rfl HO142.out); (case side3 => exact Kd.V_mono (Kd.V_mk HC0.out (Kd.F_below (Kd.C_F Kd.heap_string HR0.out) (by repeat (first | (with_reducible first | exact HB.out | apply below_alloc | apply pw_below_drewN | apply below_drew1 | refine below_set ?_ GE139.out) | exact HB.out)))) (fun k_ hk_ => ⟨hk_, fun e_ => Nat.not_le.2 hk_ (Kd.R_base HO142.out k_ e_.symm)⟩)); rintro e w7 ⟨v144, rfl, ho0, hb, hkp⟩; refine ⟨_, rfl, ?_⟩; have n0_ := aM (blk_kept (by (with_reducible repeat (first | refine blk_drewN ?_ _ | refine blk_drew ?_ | refine blk_alloc ?_ _)); exact BK139.out) hkp (fun hs_ => (fun e_ => (Kd.R_ne HO142.out BK139.out (by decide)) e_) hs_)); have n1_ := aM (Kd.R_mono (ok' := fun k_ => True) ho0 (fun k_ hk_ => trivial)); have n2_ := aM (hb); clear BK139; clear HB; clear HO142; have BK139 := n0_; have HO145 := n1_; have HB := n2_; clear n0_ n1_ n2_; (try clear hb); (try clear hkp); (try clear ho0); obtain ⟨Ao8, co8, eo8⟩ := Kd.R_slice HO145.out; subst eo8; have hcz9_0 : w7.cell? ⟨gb139, 0, none⟩ = some (.slice none 0 0) := (blk_cell BK139.out 0).trans rfl; have hfz9_0 := blk_frozen BK139.out 0))
 refine bodyPost_ret (results_cell_row rfl _ _ gb139 26 #[.slice Ao8 t143.length co8] (0, 0) _ rfl (by (with_reducible repeat (first | refine blk_drewN ?_ _ | refine blk_drew ?_ | refine blk_alloc ?_ _)); refine blk_put (cs := #[.slice none 0 0]) ?_ 0 _ rfl; (with_reducible repeat (first | refine blk_drewN ?_ _ | refine blk_drew ?_ | refine blk_alloc ?_ _)); exact BK139.out) Try.underlying26 rfl (by kernel_rfl)) rfl ?_
 exact ⟨_, by first | rfl | (simp [errW_none, errW_some] <;> rfl) | (simp [*, errW_none, errW_some] <;> rfl), by (with_reducible repeat (first | apply Kd.R_alloc | apply Kd.R_drewN | apply Kd.R_drew)); exact Kd.R_mono (Kd.R_far (p := ⟨gb139, 0, none⟩) (Kd.R_types HO145.out BK139.out (by decide)) (fun _ hk => hk.2) (.slice Ao8 t143.length co8)) (fun _ hk => trivial), by repeat (first | (with_reducible first | exact HB.out | apply below_alloc | apply pw_below_drewN | apply below_drew1 | refine below_set ?_ GE139.out) | exact HB.out)⟩

def impl_within.f (a0 : Int) (a1 : Int) (a2 : Int) : Option (Bool) := if a0 ≥ a1 then (some (decide (a0 ≤ a2))) else (some false)
set_option maxHeartbeats 8000000 in
set_option maxRecDepth 100000 in
theorem impl_within.calls (a0 : Int) (a1 : Int) (a2 : Int) (r : Bool) (w : World) (h : impl_within.f a0 a1 a2 = some r) :
  Calls Try.prog 78 #[.int .i64 a0, .int .i64 a1, .int .i64 a2] w fun e w' => e = .returned (.bool r) ∧ Drawn0 w w' := by
 have H : (if a0 ≥ a1 then (some (decide (a0 ≤ a2))) else (some false)) = some r := h
 clear h
 by_cases c4 : a0 ≥ a1
 ·
  rw [if_pos c4] at H
  have c4b0 : decide (a1 ≤ a0) = true := decide_eq_true c4
  clear c4
  obtain rfl := Option.some.inj H
  go_enter Try.func78, Try.ntmps78
  go_wp2
  go_ret
  exact ⟨by first | rfl | (simp; done) | (simp [*]; done), by repeat (first | exact Drawn0.refl _ | apply Drawn0.step)⟩
 ·
  rw [if_neg c4] at H
  have c4b0 : decide (a1 ≤ a0) = false := decide_eq_false c4
  clear c4
  obtain rfl := Option.some.inj H
  go_enter Try.func78, Try.ntmps78
  go_wp2
  go_ret
  exact ⟨by first | rfl | (simp; done) | (simp [*]; done), by repeat (first | exact Drawn0.refl _ | apply Drawn0.step)⟩

end Go.Proofs.Ytcngebfcpobnnaa.PQ
end

section
namespace Go.Proofs.Ytcngebfcpobnnaa.PQ
open Go.RowKit Go.Proofs.YtcngebfcpobnnaaW.PrintWords Go.Proofs.YtcngebfcpobnnaaW.PrintLast Go.Proofs.YtcngebfcpobnnaaW.PrintMore
attribute [local go_sem] max2_int min2_int max_two min_two max_three min_three max_four min_four
set_option linter.unusedVariables false
set_option linter.unusedSimpArgs false
attribute [local go_sem high] eqA64
def impl_Edge_79.l0 : Nat → List (S64) → List (S64) → Int → Int → Option (Bool)
 | 0, _, _, _, _ => none
 | k + 1, x0, x1, x12, x13 => if x13 < x12 then (if 0 ≤ x13 then (if x13 < (x0.length : Int) then (if x13 < (x1.length : Int) then (if (!((((rd_T64 x0 x13).f0).toList) == (((rd_T64 x1 x13).f0).toList)) || (!(((rd_T64 x0 x13).f1) == ((rd_T64 x1 x13).f1)) || (!(((rd_T64 x0 x13).f2) == ((rd_T64 x1 x13).f2))))) = true then (some false) else (impl_Edge_79.l0 k x0 x1 x12 (wrap64 (x13 + 1)))) else (none)) else (none)) else (none)) else (some true)
def impl_Edge_79.f (k : Nat) (l0 : List (S64)) (l1 : List (S64)) : Option (Bool) := if (l0.length : Int) = (l1.length : Int) then (impl_Edge_79.l0 k l0 l1 (l0.length : Int) 0) else (some false)
set_option maxHeartbeats 8000000 in
set_option maxRecDepth 100000 in
theorem impl_Edge_79.calls (k : Nat) (A0 : Option Addr) (c0 : Nat) (l0 : List (S64)) (A1 : Option Addr) (c1 : Nat) (l1 : List (S64)) (r : Bool) (w : World) (hr0 : Kd.C k64 w A0 l0.length l0) (hc0 : l0.length ≤ c0) (hr1 : Kd.C k64 w A1 l1.length l1) (hc1 : l1.length ≤ c1) (h : impl_Edge_79.f k l0 l1 = some r) :
  Calls Try.prog 79 #[.slice A0 l0.length c0, .slice A1 l1.length c1] w fun e w' => e = .returned (.bool r) ∧ Drawn0 w w' := by
 have hu64 := Try.underlying64
 have HR0 := aM hr0
 have HC0 := aM hc0
 clear hr0 hc0
 have HR1 := aM hr1
 have HC1 := aM hc1
 clear hr1 hc1
 have H : (if (l0.length : Int) = (l1.length : Int) then (impl_Edge_79.l0 k l0 l1 (l0.length : Int) 0) else (some false)) = some r := h
 clear h
 by_cases c3 : (l0.length : Int) = (l1.length : Int)
 ·
  rw [if_pos c3] at H
  have c3b0 : ((l0.length : Int) == (l1.length : Int)) = true := beq_iff_eq.mpr c3
  have c3b1 : ((l0.length : Int) != (l1.length : Int)) = false := bne_eq_false_iff_eq.mpr c3
  have c3b2 : (l0.length == l1.length) = true := by first | simpa using c3 | (simp at c3 ⊢; omega)
  clear c3
  have H' := aM H
  clear H
  go_enter Try.func79, Try.ntmps79
  go_wp2
  repeat (go_quiet (fail); try go_wp2)
  go_loopg [13] k (fun kq v13 w' => ∃ (x13_1 : Int), v13 = .int .i64 x13_1 ∧ Aside0 (impl_Edge_79.l0 kq l0 l1 (l0.length : Int) x13_1 = some r) ∧ Aside0 (kq ≤ k) ∧ Drawn0 w w')
  case atStart => exact ⟨(0), (by first | rfl | (simp; done) | (simp [*]; done)), H', ⟨Nat.le_refl _⟩, by repeat (first | exact Drawn0.refl _ | apply Drawn0.step)⟩
  case round =>
   clear H'
   try clear c1
   try clear p2
   try clear c3
   try clear c3b0
   try clear c3b1
   try clear c3b2
   obtain ⟨x13_1, rfl, HA, HK1, ⟨m1, rfl⟩⟩ := hrel
   cases gk with
   | zero => exact absurd HA.out (by simp [impl_Edge_79.l0])
   | succ k1 =>
    have H := HA.out
    clear HA
    simp only [impl_Edge_79.l0] at H
    by_cases c4 : x13_1 < (l0.length : Int)
    ·
     rw [if_pos c4] at H
     have c4b0 : decide (x13_1 < (l0.length : Int)) = true := decide_eq_true c4
     clear c4
     by_cases c5 : 0 ≤ x13_1
     ·
      rw [if_pos c5] at H
      have c5b0 : decide (0 ≤ x13_1) = true := decide_eq_true c5
      clear c5
      by_cases c6 : x13_1 < (l0.length : Int)
      ·
       rw [if_pos c6] at H
       have c6b0 : decide (x13_1 < (l0.length : Int)) = true := decide_eq_true c6
       clear c6
       by_cases c7 : x13_1 < (l1.length : Int)
       ·
        rw [if_pos c7] at H
        have c7b0 : decide (x13_1 < (l1.length : Int)) = true := decide_eq_true c7
        clear c7
        by_cases c8 : (!((((rd_T64 l0 x13_1).f0).toList) == (((rd_T64 l1 x13_1).f0).toList)) || (!(((rd_T64 l0 x13_1).f1) == ((rd_T64 l1 x13_1).f1)) || (!(((rd_T64 l0 x13_1).f2) == ((rd_T64 l1 x13_1).f2))))) = true
        ·
         rw [if_pos c8] at H
         have c8b0 : (!((((rd_T64 l0 x13_1).f0).toList) == (((rd_T64 l1 x13_1).f0).toList)) || (!(((rd_T64 l0 x13_1).f1) == ((rd_T64 l1 x13_1).f1)) || (!(((rd_T64 l0 x13_1).f2) == ((rd_T64 l1 x13_1).f2))))) = true := c8
         clear c8
         obtain rfl := Option.some.inj H
         have p503 : 0 ≤ (x13_1 : Int) := of_decide_eq_true (by first | (with_reducible assumption) | assumption)
         have q503 : x13_1 < (l0.length : Int) := of_decide_eq_true (by first | (with_reducible assumption) | assumption)
         obtain ⟨ad503, e503, hx503_0, hx503_1, hx503_2⟩ := at_T64 HR0.out x13_1 p503 q503
         cases e503
         try have hz_hx503_0 := aM hx503_0
         try have hz_hx503_1 := aM hx503_1
         try have hz_hx503_2 := aM hx503_2
         replace p503 := eq_true p503
         replace q503 := eq_true q503
         have p504 : 0 ≤ (x13_1 : Int) := of_decide_eq_true (by first | (with_reducible assumption) | assumption)
         have q504 : x13_1 < (l1.length : Int) := of_decide_eq_true (by first | (with_reducible assumption) | assumption)
         obtain ⟨ad504, e504, hx504_0, hx504_1, hx504_2⟩ := at_T64 HR1.out x13_1 p504 q504
         cases e504
         try have hz_hx504_0 := aM hx504_0
         try have hz_hx504_1 := aM hx504_1
         try have hz_hx504_2 := aM hx504_2
         replace p504 := eq_true p504
         replace q504 := eq_true q504
         go_wp2
         repeat (go_quiet (fail); try go_wp2)
         go_ret
         exact ⟨by first | rfl | (simp; done) | (simp [*]; done), by repeat (first | exact Drawn0.refl _ | apply Drawn0.step)⟩
        ·
         rw [if_neg c8] at H
         have c8b0 : (!((((rd_T64 l0 x13_1).f0).toList) == (((rd_T64 l1 x13_1).f0).toList)) || (!(((rd_T64 l0 x13_1).f1) == ((rd_T64 l1 x13_1).f1)) || (!(((rd_T64 l0 x13_1).f2) == ((rd_T64 l1 x13_1).f2))))) = false := by simpa using c8
         clear c8
         have H' := aM H
         clear H
         have p503 : 0 ≤ (x13_1 : Int) := of_decide_eq_true (by first | (with_reducible assumption) | assumption)
         have q503 : x13_1 < (l0.length : Int) := of_decide_eq_true (by first | (with_reducible assumption) | assumption)
         obtain ⟨ad503, e503, hx503_0, hx503_1, hx503_2⟩ := at_T64 HR0.out x13_1 p503 q503
         cases e503
         try have hz_hx503_0 := aM hx503_0
         try have hz_hx503_1 := aM hx503_1
         try have hz_hx503_2 := aM hx503_2
         replace p503 := eq_true p503
         replace q503 := eq_true q503
         have p504 : 0 ≤ (x13_1 : Int) := of_decide_eq_true (by first | (with_reducible assumption) | assumption)
         have q504 : x13_1 < (l1.length : Int) := of_decide_eq_true (by first | (with_reducible assumption) | assumption)
         obtain ⟨ad504, e504, hx504_0, hx504_1, hx504_2⟩ := at_T64 HR1.out x13_1 p504 q504
         cases e504
         try have hz_hx504_0 := aM hx504_0
         try have hz_hx504_1 := aM hx504_1
         try have hz_hx504_2 := aM hx504_2
         replace p504 := eq_true p504
         replace q504 := eq_true q504
         go_wp2
         repeat (go_quiet (fail); try go_wp2)
         go_roundg k1
         case measure => have := HK1.out; omega
         case rel => exact ⟨(wrap64 (x13_1 + 1)), (by first | rfl | (simp; done) | (simp [*]; done)), H', ⟨by have := HK1.out; omega⟩, by repeat (first | exact Drawn0.refl _ | apply Drawn0.step)⟩
       ·
        rw [if_neg c7] at H
        exact absurd H (by simp)
      ·
       rw [if_neg c6] at H
       exact absurd H (by simp)
     ·
      rw [if_neg c5] at H
      exact absurd H (by simp)
    ·
     rw [if_neg c4] at H
     have c4b0 : decide (x13_1 < (l0.length : Int)) = false := decide_eq_false c4
     clear c4
     obtain rfl := Option.some.inj H
     go_wp2
     repeat (go_quiet (fail); try go_wp2)
     go_ret
     exact ⟨by first | rfl | (simp; done) | (simp [*]; done), by repeat (first | exact Drawn0.refl _ | apply Drawn0.step)⟩
 ·
  rw [if_neg c3] at H
  have c3b0 : ((l0.length : Int) == (l1.length : Int)) = false := beq_eq_false_iff_ne.mpr c3
  have c3b1 : ((l0.length : Int) != (l1.length : Int)) = true := bne_iff_ne.mpr c3
  have c3b2 : (l0.length == l1.length) = false := by first | simpa using c3 | (simp at c3 ⊢; omega)
  obtain rfl := Option.some.inj H
  go_enter Try.func79, Try.ntmps79
  go_wp2
  repeat (go_quiet (fail); try go_wp2)
  go_ret
  exact ⟨by first | rfl | (simp; done) | (simp [*]; done), by repeat (first | exact Drawn0.refl _ | apply Drawn0.step)⟩

end Go.Proofs.Ytcngebfcpobnnaa.PQ
end

section
namespace Go.Proofs.Ytcngebfcpobnnaa.PQ
open Go.RowKit Go.Proofs.YtcngebfcpobnnaaW.PrintWords Go.Proofs.YtcngebfcpobnnaaW.PrintLast Go.Proofs.YtcngebfcpobnnaaW.PrintMore
attribute [local go_sem] max2_int min2_int max_two min_two max_three min_three max_four min_four
set_option linter.unusedVariables false
set_option linter.unusedSimpArgs false
def laws_markText.l0 : Nat → Int → ByteArray → Option (ByteArray)
 | 0, _, _ => none
 | k + 1, x0, x3 => if x0 > 0 then ((some (([(wrap64 (48 + (Int.tmod x0 10))) % 256] : List Int) : List Int)).bind fun y386 => (if (strOfNums y386).size + x3.size ≤ 9223372036854775807 then (laws_markText.l0 k (wrap64 (Int.tdiv x0 10)) ((strOfNums y386) ++ x3)) else (none))) else (if 1 + x3.size ≤ 9223372036854775807 then (some ((⟨#[109]⟩ : ByteArray) ++ x3)) else (none))
def laws_markText.f (k : Nat) (a0 : Int) : Option (ByteArray) := if a0 ≤ 0 then (some (⟨#[109, 48]⟩ : ByteArray)) else (laws_markText.l0 k a0 (⟨#[]⟩ : ByteArray))
set_option maxHeartbeats 8000000 in
set_option maxRecDepth 100000 in
theorem laws_markText.calls (k : Nat) (a0 : Int) (r : ByteArray) (w : World) (h : laws_markText.f k a0 = some r) :
  Calls Try.prog 48 #[.int .i64 a0] w fun e w' => e = .returned (.string r) ∧ Below w.heap.size w w' := by
 have HB := aM (Below.refl w.heap.size w)
 have H : (if a0 ≤ 0 then (some (⟨#[109, 48]⟩ : ByteArray)) else (laws_markText.l0 k a0 (⟨#[]⟩ : ByteArray))) = some r := h
 clear h
 by_cases c2 : a0 ≤ 0
 ·
  rw [if_pos c2] at H
  have c2b0 : decide (a0 ≤ 0) = true := decide_eq_true c2
  clear c2
  obtain rfl := Option.some.inj H
  go_enter Try.func48, Try.ntmps48
  go_wp2
  go_ret
  exact ⟨by first | rfl | (simp [errW_none, errW_some] <;> rfl) | (simp [*, errW_none, errW_some] <;> rfl), by repeat (first | (with_reducible first | exact HB.out | apply below_alloc | apply pw_below_drewN | apply below_drew1) | exact HB.out)⟩
 ·
  rw [if_neg c2] at H
  have c2b0 : decide (a0 ≤ 0) = false := decide_eq_false c2
  clear c2
  have H' := aM H
  clear H
  go_enter Try.func48, Try.ntmps48
  go_wp2
  go_loopg [0, 3] k (fun kq v0 v3 w' => ∃ (x0_1 : Int) (x3_1 : ByteArray), v0 = .int .i64 x0_1 ∧ v3 = .string x3_1 ∧ Aside0 (laws_markText.l0 kq x0_1 x3_1 = some r) ∧ Aside0 (kq ≤ k) ∧ Aside0 (Below w.heap.size w w'))
  case atStart => exact ⟨(a0), ((⟨#[]⟩ : ByteArray)), (by first | rfl | (simp; done) | (simp [*]; done)), (by first | rfl | (simp; done) | (simp [*]; done)), H', ⟨Nat.le_refl _⟩, ⟨by repeat (first | (with_reducible first | exact HB.out | apply below_alloc | apply pw_below_drewN | apply below_drew1) | exact HB.out)⟩⟩
  case round =>
   clear H'
   try clear c2
   try clear c2b0
   try clear p2
   obtain ⟨x0_1, x3_1, rfl, rfl, HA, HK1, HB⟩ := hrel
   cases gk with
   | zero => exact absurd HA.out (by simp [laws_markText.l0])
   | succ k1 =>
    have H := HA.out
    clear HA
    simp only [laws_markText.l0] at H
    by_cases c3 : x0_1 > 0
    ·
     rw [if_pos c3] at H
     have c3b0 : decide (0 < x0_1) = true := decide_eq_true c3
     clear c3
     obtain ⟨y386, hy386⟩ : ∃ y_ : List Int, y_ = (([(wrap64 (48 + (Int.tmod x0_1 10))) % 256] : List Int)) := ⟨_, rfl⟩
     replace H : (if (strOfNums y386).size + x3_1.size ≤ 9223372036854775807 then (laws_markText.l0 k1 (wrap64 (Int.tdiv x0_1 10)) ((strOfNums y386) ++ x3_1)) else (none)) = some r := by first | (rw [hy386]; with_reducible exact H) | (have H2_ := (Option.bind_some _ _).symm.trans H; rw [hy386]; with_reducible exact H2_) | (have H2_ := (Option.bind_some _ _).symm.trans H; with_reducible exact H2_) | with_reducible exact H | (rw [hy386]; exact H) | exact H
     have Ny386 := aM hy386
     clear hy386
     by_cases c4 : (strOfNums y386).size + x3_1.size ≤ 9223372036854775807
     ·
      rw [if_pos c4] at H
      have c4b0 := eq_true c4
      have c4b1 : decide ((strOfNums y386).size + x3_1.size ≤ 9223372036854775807) = true := decide_eq_true c4
      try have c4b2 : (9223372036854775807 < (strOfNums y386).size + x3_1.size) = False := eq_false (Nat.not_lt.2 c4)
      try have c4b3 := c4b2
      try simp only [ByteArray.size_append] at c4b3
      have H' := aM H
      clear H
      go_wp2_with (first | ((with_reducible refine gate_dst (N := 12) rfl ?_); refine Kd.R_lit (Kd.int .u8) _ 5 ?hg (N := 12) ?hd (xs := ([(wrap64 (48 + (Int.tmod x0_1 10))) % 256] : List Int)) (inner := [.int .u8 ((wrap64 (48 + (Int.tmod x0_1 10))) % 256)]) (ok := fun _ => True) (okp := fun _ => True) ?hr ?hp (fun _ hk => hk) trivial (Below.refl _ _) (Nat.le_refl _) (by simp) ?_; (case hd => rfl); (case hg => rfl); (case hr => first | (go_simp; done) | (go_simp; rfl)); (case hp => exact (Reps.one (show Kd.M (Kd.int .u8) _ _ _ ((wrap64 (48 + (Int.tmod x0_1 10))) % 256) [.int .u8 ((wrap64 (48 + (Int.tmod x0_1 10))) % 256)] from rfl) (Reps.none _ _))); intro v387 w5 ho6 hb hg_ hnew_; clear hg_ hnew_; (first | rw [← Ny386.out] at ho6 | (simp only [Int.reduceToNat] at ho6; rw [← Ny386.out] at ho6)); have n0_ := aM (Kd.R_lower ho6 (below_size (by repeat (first | (with_reducible first | exact HB.out | apply below_alloc | apply pw_below_drewN | apply below_drew1) | exact HB.out)))); have n1_ := aM (below_step (by repeat (first | (with_reducible first | exact HB.out | apply below_alloc | apply pw_below_drewN | apply below_drew1) | exact HB.out)) hb); clear HB; have HO388 := n0_; have HB := n1_; clear n0_ n1_; clear hb ho6; have hcv7 := own_string (P := Try.prog) Try.underlying78 Try.underlying5 Try.underlying9 (Kd.own_of_R HO388.out)))
      go_roundg k1
      case measure => have := HK1.out; omega
      case rel => exact ⟨(wrap64 (Int.tdiv x0_1 10)), ((strOfNums y386) ++ x3_1), (by first | rfl | (simp; done) | (simp [*]; done)), (by first | rfl | (simp; done) | (simp [*]; done)), H', ⟨by have := HK1.out; omega⟩, ⟨by repeat (first | (with_reducible first | exact HB.out | apply below_alloc | apply pw_below_drewN | apply below_drew1) | exact HB.out)⟩⟩
     ·
      rw [if_neg c4] at H
      exact absurd H (by simp)
    ·
     rw [if_neg c3] at H
     have c3b0 : decide (0 < x0_1) = false := decide_eq_false c3
     clear c3
     by_cases c8 : 1 + x3_1.size ≤ 9223372036854775807
     ·
      rw [if_pos c8] at H
      have c8b0 := eq_true c8
      have c8b1 : decide (1 + x3_1.size ≤ 9223372036854775807) = true := decide_eq_true c8
      try have c8b2 : (9223372036854775807 < 1 + x3_1.size) = False := eq_false (Nat.not_lt.2 c8)
      try have c8b3 := c8b2
      try simp only [ByteArray.size_append] at c8b3
      obtain rfl := Option.some.inj H
      go_wp2
      go_ret
      exact ⟨by first | rfl | (simp [errW_none, errW_some] <;> rfl) | (simp [*, errW_none, errW_some] <;> rfl), by repeat (first | (with_reducible first | exact HB.out | apply below_alloc | apply pw_below_drewN | apply below_drew1) | exact HB.out)⟩
     ·
      rw [if_neg c8] at H
      exact absurd H (by simp)

def laws_eqStringS.l0 : Nat → List ByteArray → List ByteArray → Int → Option (Bool)
 | 0, _, _, _ => none
 | k + 1, x0, x1, x5 => if x5 < (x0.length : Int) then (if 0 ≤ x5 then (if x5 < (x1.length : Int) then (if (rdOf ByteArray.empty x0 x5).toList = (rdOf ByteArray.empty x1 x5).toList then (laws_eqStringS.l0 k x0 x1 (wrap64 (x5 + 1))) else (some false)) else (none)) else (none)) else (some true)
def laws_eqStringS.f (k : Nat) (l0 : List ByteArray) (l1 : List ByteArray) : Option (Bool) := if (l0.length : Int) = (l1.length : Int) then (laws_eqStringS.l0 k l0 l1 0) else (some false)
set_option maxHeartbeats 8000000 in
set_option maxRecDepth 100000 in
theorem laws_eqStringS.calls (k : Nat) (A0 : Option Addr) (c0 : Nat) (l0 : List ByteArray) (A1 : Option Addr) (c1 : Nat) (l1 : List ByteArray) (r : Bool) (w : World) (hr0 : Kd.C Kd.string w A0 l0.length l0) (hc0 : l0.length ≤ c0) (hr1 : Kd.C Kd.string w A1 l1.length l1) (hc1 : l1.length ≤ c1) (h : laws_eqStringS.f k l0 l1 = some r) :
  Calls Try.prog 16 #[.slice A0 l0.length c0, .slice A1 l1.length c1] w fun e w' => e = .returned (.bool r) ∧ Drawn0 w w' := by
 have HR0 := aM hr0
 have HC0 := aM hc0
 clear hr0 hc0
 have HR1 := aM hr1
 have HC1 := aM hc1
 clear hr1 hc1
 have H : (if (l0.length : Int) = (l1.length : Int) then (laws_eqStringS.l0 k l0 l1 0) else (some false)) = some r := h
 clear h
 by_cases c3 : (l0.length : Int) = (l1.length : Int)
 ·
  rw [if_pos c3] at H
  have c3b0 : ((l0.length : Int) == (l1.length : Int)) = true := beq_iff_eq.mpr c3
  have c3b1 : ((l0.length : Int) != (l1.length : Int)) = false := bne_eq_false_iff_eq.mpr c3
  have c3b2 : (l0.length == l1.length) = true := by first | simpa using c3 | (simp at c3 ⊢; omega)
  clear c3
  have H' := aM H
  clear H
  go_enter Try.func16, Try.ntmps16
  go_wp2
  repeat (go_quiet (fail); try go_wp2)
  go_loopg [5] k (fun kq v5 w' => ∃ (x5_1 : Int), v5 = .int .i64 x5_1 ∧ Aside0 (laws_eqStringS.l0 kq l0 l1 x5_1 = some r) ∧ Aside0 (kq ≤ k) ∧ Drawn0 w w')
  case atStart => exact ⟨(0), (by first | rfl | (simp; done) | (simp [*]; done)), H', ⟨Nat.le_refl _⟩, by repeat (first | exact Drawn0.refl _ | apply Drawn0.step)⟩
  case round =>
   clear H'
   try clear c1
   try clear p2
   try clear c3
   try clear c3b0
   try clear c3b1
   try clear c3b2
   obtain ⟨x5_1, rfl, HA, HK1, ⟨m1, rfl⟩⟩ := hrel
   cases gk with
   | zero => exact absurd HA.out (by simp [laws_eqStringS.l0])
   | succ k1 =>
    have H := HA.out
    clear HA
    simp only [laws_eqStringS.l0] at H
    by_cases c4 : x5_1 < (l0.length : Int)
    ·
     rw [if_pos c4] at H
     have c4b0 : decide (x5_1 < (l0.length : Int)) = true := decide_eq_true c4
     clear c4
     by_cases c5 : 0 ≤ x5_1
     ·
      rw [if_pos c5] at H
      have c5b0 : decide (0 ≤ x5_1) = true := decide_eq_true c5
      clear c5
      by_cases c6 : x5_1 < (l1.length : Int)
      ·
       rw [if_pos c6] at H
       have c6b0 : decide (x5_1 < (l1.length : Int)) = true := decide_eq_true c6
       clear c6
       by_cases c7 : (rdOf ByteArray.empty l0 x5_1).toList = (rdOf ByteArray.empty l1 x5_1).toList
       ·
        rw [if_pos c7] at H
        have c7b0 : ((rdOf ByteArray.empty l0 x5_1).toList == (rdOf ByteArray.empty l1 x5_1).toList) = true := beq_iff_eq.mpr c7
        have c7b1 : ((rdOf ByteArray.empty l0 x5_1).toList != (rdOf ByteArray.empty l1 x5_1).toList) = false := bne_eq_false_iff_eq.mpr c7
        clear c7
        have H' := aM H
        clear H
        have p384 : 0 ≤ (x5_1 : Int) := of_decide_eq_true (by first | (with_reducible assumption) | assumption)
        have q384 : x5_1 < (l0.length : Int) := of_decide_eq_true (by first | (with_reducible assumption) | assumption)
        obtain ⟨ad384, e384, hx384_0⟩ := Kd.at_string HR0.out x5_1 p384 q384
        cases e384
        replace p384 := eq_true p384
        replace q384 := eq_true q384
        have p385 : 0 ≤ (x5_1 : Int) := of_decide_eq_true (by first | (with_reducible assumption) | assumption)
        have q385 : x5_1 < (l1.length : Int) := of_decide_eq_true (by first | (with_reducible assumption) | assumption)
        obtain ⟨ad385, e385, hx385_0⟩ := Kd.at_string HR1.out x5_1 p385 q385
        cases e385
        replace p385 := eq_true p385
        replace q385 := eq_true q385
        go_wp2
        repeat (go_quiet (fail); try go_wp2)
        go_roundg k1
        case measure => have := HK1.out; omega
        case rel => exact ⟨(wrap64 (x5_1 + 1)), (by first | rfl | (simp; done) | (simp [*]; done)), H', ⟨by have := HK1.out; omega⟩, by repeat (first | exact Drawn0.refl _ | apply Drawn0.step)⟩
       ·
        rw [if_neg c7] at H
        have c7b0 : ((rdOf ByteArray.empty l0 x5_1).toList == (rdOf ByteArray.empty l1 x5_1).toList) = false := beq_eq_false_iff_ne.mpr c7
        have c7b1 : ((rdOf ByteArray.empty l0 x5_1).toList != (rdOf ByteArray.empty l1 x5_1).toList) = true := bne_iff_ne.mpr c7
        obtain rfl := Option.some.inj H
        have p384 : 0 ≤ (x5_1 : Int) := of_decide_eq_true (by first | (with_reducible assumption) | assumption)
        have q384 : x5_1 < (l0.length : Int) := of_decide_eq_true (by first | (with_reducible assumption) | assumption)
        obtain ⟨ad384, e384, hx384_0⟩ := Kd.at_string HR0.out x5_1 p384 q384
        cases e384
        replace p384 := eq_true p384
        replace q384 := eq_true q384
        have p385 : 0 ≤ (x5_1 : Int) := of_decide_eq_true (by first | (with_reducible assumption) | assumption)
        have q385 : x5_1 < (l1.length : Int) := of_decide_eq_true (by first | (with_reducible assumption) | assumption)
        obtain ⟨ad385, e385, hx385_0⟩ := Kd.at_string HR1.out x5_1 p385 q385
        cases e385
        replace p385 := eq_true p385
        replace q385 := eq_true q385
        go_wp2
        repeat (go_quiet (fail); try go_wp2)
        go_ret
        exact ⟨by first | rfl | (simp; done) | (simp [*]; done), by repeat (first | exact Drawn0.refl _ | apply Drawn0.step)⟩
      ·
       rw [if_neg c6] at H
       exact absurd H (by simp)
     ·
      rw [if_neg c5] at H
      exact absurd H (by simp)
    ·
     rw [if_neg c4] at H
     have c4b0 : decide (x5_1 < (l0.length : Int)) = false := decide_eq_false c4
     clear c4
     obtain rfl := Option.some.inj H
     go_wp2
     repeat (go_quiet (fail); try go_wp2)
     go_ret
     exact ⟨by first | rfl | (simp; done) | (simp [*]; done), by repeat (first | exact Drawn0.refl _ | apply Drawn0.step)⟩
 ·
  rw [if_neg c3] at H
  have c3b0 : ((l0.length : Int) == (l1.length : Int)) = false := beq_eq_false_iff_ne.mpr c3
  have c3b1 : ((l0.length : Int) != (l1.length : Int)) = true := bne_iff_ne.mpr c3
  have c3b2 : (l0.length == l1.length) = false := by first | simpa using c3 | (simp at c3 ⊢; omega)
  obtain rfl := Option.some.inj H
  go_enter Try.func16, Try.ntmps16
  go_wp2
  repeat (go_quiet (fail); try go_wp2)
  go_ret
  exact ⟨by first | rfl | (simp; done) | (simp [*]; done), by repeat (first | exact Drawn0.refl _ | apply Drawn0.step)⟩

end Go.Proofs.Ytcngebfcpobnnaa.PQ
end
