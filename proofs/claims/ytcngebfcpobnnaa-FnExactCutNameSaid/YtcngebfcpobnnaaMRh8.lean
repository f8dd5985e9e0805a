/- Several texts in one: what the claim's last text rests on. No conditions. -/
import Derived.Test.YtcngebfcpobnnaaMRh7
import Derived.Test.YtcngebfcpobnnaaMRh5
section
namespace Go.Proofs.Ytcngebfcpobnnaa.PQ
open Go.RowKit Go.Proofs.YtcngebfcpobnnaaW.PrintWords Go.Proofs.YtcngebfcpobnnaaW.PrintLast Go.Proofs.YtcngebfcpobnnaaW.PrintMore
attribute [local go_sem] max2_int min2_int max_two min_two max_three min_three max_four min_four
set_option linter.unusedVariables false
set_option linter.unusedSimpArgs false
def laws_eqEdgeS.l0 : Nat → List (S64) → List (S64) → Int → Option (Bool)
 | 0, _, _, _ => none
 | k + 1, x0, x1, x5 => if x5 < (x0.length : Int) then (if 0 ≤ x5 then (if x5 < (x1.length : Int) then ((laws_eqEdge.f ((rd_T64 x0 x5).f0) ((rd_T64 x0 x5).f1) ((rd_T64 x0 x5).f2) ((rd_T64 x1 x5).f0) ((rd_T64 x1 x5).f1) ((rd_T64 x1 x5).f2)).bind fun t491 => (if t491 = true then (laws_eqEdgeS.l0 k x0 x1 (wrap64 (x5 + 1))) else (some false))) else (none)) else (none)) else (some true)
def laws_eqEdgeS.f (k : Nat) (l0 : List (S64)) (l1 : List (S64)) : Option (Bool) := if (l0.length : Int) = (l1.length : Int) then (laws_eqEdgeS.l0 k l0 l1 0) else (some false)
def laws_eqEdgeS.T6 : Bool × List (List Nat × List Nat) := (true, [([], []), ([], []), ([0, 1], [0, 1]), ([2], [2]), ([], []), ([], []), ([4, 5], [4, 5]), ([6], [6]), ([3, 7], [3, 7]), ([8], [8])])
def laws_eqEdgeS.B6 : List Nat := [0, 0, 3, 7, 0, 0, 48, 112, 255, 511]
theorem laws_eqEdgeS.tab6 : rtab .any (opsOf Try.f47 6) = laws_eqEdgeS.T6 := by kernel_rfl
theorem laws_eqEdgeS.bits6 : waitsOk laws_eqEdgeS.T6.2 laws_eqEdgeS.B6 = true := by kernel_rfl
set_option maxHeartbeats 8000000 in
set_option maxRecDepth 100000 in
theorem laws_eqEdgeS.calls (k : Nat) (A0 : Option Addr) (c0 : Nat) (l0 : List (S64)) (A1 : Option Addr) (c1 : Nat) (l1 : List (S64)) (r : Bool) (w : World) (hr0 : Kd.C k64 w A0 l0.length l0) (hc0 : l0.length ≤ c0) (hr1 : Kd.C k64 w A1 l1.length l1) (hc1 : l1.length ≤ c1) (h : laws_eqEdgeS.f k l0 l1 = some r) :
  Calls Try.prog 47 #[.slice A0 l0.length c0, .slice A1 l1.length c1] w fun e w' => e = .returned (.bool r) ∧ Below w.heap.size w w' := by
 have hu64 := Try.underlying64
 have HR0 := aM hr0
 have HC0 := aM hc0
 clear hr0 hc0
 have HR1 := aM hr1
 have HC1 := aM hc1
 clear hr1 hc1
 have HB := aM (Below.refl w.heap.size w)
 have H : (if (l0.length : Int) = (l1.length : Int) then (laws_eqEdgeS.l0 k l0 l1 0) else (some false)) = some r := h
 clear h
 by_cases c3 : (l0.length : Int) = (l1.length : Int)
 ·
  rw [if_pos c3] at H
  have c3b0 : ((l0.length : Int) == (l1.length : Int)) = true := beq_iff_eq.mpr c3
  have c3b1 : ((l0.length : Int) != (l1.length : Int)) = false := bne_eq_false_iff_eq.mpr c3
  have c3b2 : (l0.length == l1.length) = true := by first | simpa using c3 | (simp at c3 ⊢; omega)
  clear c3
  have H' := aM H
  clear H
  go_enter Try.func47, Try.ntmps47
  go_wp2
  go_loopg [5] k (fun kq v5 w' => ∃ (x5_1 : Int), v5 = .int .i64 x5_1 ∧ Aside0 (laws_eqEdgeS.l0 kq l0 l1 x5_1 = some r) ∧ Aside0 (kq ≤ k) ∧ Aside0 (Below w.heap.size w w'))
  case atStart => exact ⟨(0), (by first | rfl | (simp; done) | (simp [*]; done)), H', ⟨Nat.le_refl _⟩, ⟨by repeat (first | (with_reducible first | exact HB.out | apply below_alloc | apply pw_below_drewN | apply below_drew1) | exact HB.out)⟩⟩
  case round =>
   clear H'
   try clear c1
   try clear p2
   try clear c3
   try clear c3b0
   try clear c3b1
   try clear c3b2
   obtain ⟨x5_1, rfl, HA, HK1, HB⟩ := hrel
   cases gk with
   | zero => exact absurd HA.out (by simp [laws_eqEdgeS.l0])
   | succ k1 =>
    have H := HA.out
    clear HA
    simp only [laws_eqEdgeS.l0] at H
    by_cases c4 : x5_1 < (l0.length : Int)
    ·
     rw [if_pos c4] at H
     have c4b0 : decide (x5_1 < (l0.length : Int)) = true := decide_eq_true c4
     clear c4
     by_cases c5 : 0 ≤ x5_1
     ·
      rw [if_pos c5] at H
      have c5b0 : decide (0 ≤ x5_1) = true := decide_eq_true c5
      clear c5
      by_cases c6 : x5_1 < (l1.length : Int)
      ·
       rw [if_pos c6] at H
       have c6b0 : decide (x5_1 < (l1.length : Int)) = true := decide_eq_true c6
       clear c6
       replace H := Option.bind_eq_some_iff.mp H
       obtain ⟨t491, A70, H⟩ := H
       replace H : (if t491 = true then (laws_eqEdgeS.l0 k1 l0 l1 (wrap64 (x5_1 + 1))) else (some false)) = some r := H
       have A7 := aM A70
       clear A70
       by_cases c8 : t491 = true
       ·
        subst c8
        have H1 : (laws_eqEdgeS.l0 k1 l0 l1 (wrap64 (x5_1 + 1))) = some r := by rw [if_pos rfl] at H; exact H
        clear H
        have H := H1
        clear H1
        have H' := aM H
        clear H
        try go_wp2
        have n0_ := aM (below_drew1 HB.out)
        clear HB
        have HB := n0_
        clear n0_
        have p489 : 0 ≤ (x5_1 : Int) := of_decide_eq_true (by first | (with_reducible assumption) | assumption)
        have q489 : x5_1 < (l0.length : Int) := of_decide_eq_true (by first | (with_reducible assumption) | assumption)
        obtain ⟨ad489, e489, hx489_0, hx489_1, hx489_2⟩ := at_T64 HR0.out x5_1 p489 q489
        have hw489_2 := hx489_2
        have hw489_1 := hx489_1
        have hw489_0 := hx489_0
        cases e489
        try have hz_hx489_0 := aM hx489_0
        try have hz_hx489_1 := aM hx489_1
        try have hz_hx489_2 := aM hx489_2
        replace hx489_0 := (HB.out.cell (World.block_lt_of_cell? w _ hx489_0)).trans hx489_0
        replace hx489_1 := (HB.out.cell (World.block_lt_of_cell? w _ hx489_1)).trans hx489_1
        replace hx489_2 := (HB.out.cell (World.block_lt_of_cell? w _ hx489_2)).trans hx489_2
        replace p489 := eq_true p489
        replace q489 := eq_true q489
        have p490 : 0 ≤ (x5_1 : Int) := of_decide_eq_true (by first | (with_reducible assumption) | assumption)
        have q490 : x5_1 < (l1.length : Int) := of_decide_eq_true (by first | (with_reducible assumption) | assumption)
        obtain ⟨ad490, e490, hx490_0, hx490_1, hx490_2⟩ := at_T64 HR1.out x5_1 p490 q490
        have hw490_2 := hx490_2
        have hw490_1 := hx490_1
        have hw490_0 := hx490_0
        cases e490
        try have hz_hx490_0 := aM hx490_0
        try have hz_hx490_1 := aM hx490_1
        try have hz_hx490_2 := aM hx490_2
        replace hx490_0 := (HB.out.cell (World.block_lt_of_cell? w _ hx490_0)).trans hx490_0
        replace hx490_1 := (HB.out.cell (World.block_lt_of_cell? w _ hx490_1)).trans hx490_1
        replace hx490_2 := (HB.out.cell (World.block_lt_of_cell? w _ hx490_2)).trans hx490_2
        replace p490 := eq_true p490
        replace q490 := eq_true q490
        refine start_ (n := 10) (S := fun w' => w'.cell? (ad489.add ((x5_1).toNat * 3)) = some (.string ((rd_T64 l0 x5_1).f0)) ∧ w'.cell? ⟨(ad489.add ((x5_1).toNat * 3)).block, (ad489.add ((x5_1).toNat * 3)).off + 1, none⟩ = some (.bool ((rd_T64 l0 x5_1).f1)) ∧ w'.cell? ⟨(ad489.add ((x5_1).toNat * 3)).block, (ad489.add ((x5_1).toNat * 3)).off + 2, none⟩ = some (.int .i64 ((rd_T64 l0 x5_1).f2)) ∧ w'.cell? (ad490.add ((x5_1).toNat * 3)) = some (.string ((rd_T64 l1 x5_1).f0)) ∧ w'.cell? ⟨(ad490.add ((x5_1).toNat * 3)).block, (ad490.add ((x5_1).toNat * 3)).off + 1, none⟩ = some (.bool ((rd_T64 l1 x5_1).f1)) ∧ w'.cell? ⟨(ad490.add ((x5_1).toNat * 3)).block, (ad490.add ((x5_1).toNat * 3)).off + 2, none⟩ = some (.int .i64 ((rd_T64 l1 x5_1).f2))) (ds := []) (bq 10 0) (by kernel_rfl) rfl (by kernel_rfl) ⟨((HB.out.cell (World.block_lt_of_cell? w _ hw489_0)).trans hw489_0), ((HB.out.cell (World.block_lt_of_cell? w _ hw489_1)).trans hw489_1), ((HB.out.cell (World.block_lt_of_cell? w _ hw489_2)).trans hw489_2), ((HB.out.cell (World.block_lt_of_cell? w _ hw490_0)).trans hw490_0), ((HB.out.cell (World.block_lt_of_cell? w _ hw490_1)).trans hw490_1), ((HB.out.cell (World.block_lt_of_cell? w _ hw490_2)).trans hw490_2)⟩ (fun hHeld => ?_); refine with_tabW laws_eqEdgeS.tab6 laws_eqEdgeS.bits6 (fun HT_ HW_ => ?_)
        generalize wr.drew = w9 at HB hx489_0 hx489_1 hx489_2 hx490_0 hx490_1 hx490_2 hHeld ⊢
        refine pure_ (i := 0) (N := some 17) (v := ?_) (a' := ?_) (bq 10 1) rfl rfl (any_of HT_.out (by kernel_rfl)) (fun _ _ _ h => h) (Or.inl ⟨by rfl, ?_⟩) ?_ ?_; rotate_left; (intro w'; go_simp; (with_reducible rfl)); rotate_left; (simp only [Act.put, zSA, zSB, zSC, i64_w, i32_w]; rfl)
        refine pure_ (i := 1) (N := some 18) (v := ?_) (a' := ?_) (bq 10 3) rfl rfl (any_of HT_.out (by kernel_rfl)) (fun _ _ _ h => h) (Or.inl ⟨by rfl, ?_⟩) ?_ ?_; rotate_left; (intro w'; go_simp; (with_reducible rfl)); rotate_left; (simp only [Act.put, zSA, zSB, zSC, i64_w, i32_w]; rfl)
        refine pure_ (i := 2) (N := some 19) (v := ?_) (a' := ?_) (bq 10 7) rfl rfl (any_of HT_.out (by kernel_rfl)) (fun _ _ _ h => h) (Or.inl ⟨by rfl, ?_⟩) ?_ ?_; rotate_left; (intro w'; go_simp; (with_reducible rfl)); rotate_left; (simp only [Act.put, zSA, zSB, zSC, i64_w, i32_w]; rfl)
        refine pure_ (i := 4) (N := some 21) (v := ?_) (a' := ?_) (bq 10 23) rfl rfl (any_of HT_.out (by kernel_rfl)) (fun _ _ _ h => h) (Or.inl ⟨by rfl, ?_⟩) ?_ ?_; rotate_left; (intro w'; go_simp; (with_reducible rfl)); rotate_left; (simp only [Act.put, zSA, zSB, zSC, i64_w, i32_w]; rfl)
        refine pure_ (i := 5) (N := some 22) (v := ?_) (a' := ?_) (bq 10 55) rfl rfl (any_of HT_.out (by kernel_rfl)) (fun _ _ _ h => h) (Or.inl ⟨by rfl, ?_⟩) ?_ ?_; rotate_left; (intro w'; go_simp; (with_reducible rfl)); rotate_left; (simp only [Act.put, zSA, zSB, zSC, i64_w, i32_w]; rfl)
        refine pure_ (i := 6) (N := some 23) (v := ?_) (a' := ?_) (bq 10 119) rfl rfl (any_of HT_.out (by kernel_rfl)) (fun _ _ _ h => h) (Or.inl ⟨by rfl, ?_⟩) ?_ ?_; rotate_left; (intro w'; go_simp; (with_reducible rfl)); rotate_left; (simp only [Act.put, zSA, zSB, zSC, i64_w, i32_w]; rfl)
        refine take_ (i := 3) (N := some 20) (v := ?_) (a' := ?_) (bq 10 127) rfl rfl (take_ofW HT_.out HW_.out (by kernel_rfl)) (fun _ _ _ h => h) (Or.inl ⟨by rfl, ?_⟩) hHeld ?_ ?_; rotate_left; (rintro w' ⟨s0, s1, s2, s3, s4, s5⟩; go_simp; (with_reducible rfl)); rotate_left; (simp only [Act.put, zSA, zSB, zSC, i64_w, i32_w]; rfl)
        refine take_ (i := 7) (N := some 24) (v := ?_) (a' := ?_) (bq 10 255) rfl rfl (take_ofW HT_.out HW_.out (by kernel_rfl)) (fun _ _ _ h => h) (Or.inl ⟨by rfl, ?_⟩) hHeld ?_ ?_; rotate_left; (rintro w' ⟨s0, s1, s2, s3, s4, s5⟩; go_simp; (with_reducible rfl)); rotate_left; (simp only [Act.put, zSA, zSB, zSC, i64_w, i32_w]; rfl)
        refine one_ (i := 8) (N := some 25) (bq 10 511) rfl rfl (one_of HT_.out (by kernel_rfl)) (by decide) (fun K hK => ?_)
        refine goes_ Try.func73 (by kernel_rfl) rfl #[.agg #[.string ((rd_T64 l0 x5_1).f0), .bool ((rd_T64 l0 x5_1).f1), .int .i64 ((rd_T64 l0 x5_1).f2)], .agg #[.string ((rd_T64 l1 x5_1).f0), .bool ((rd_T64 l1 x5_1).f1), .int .i64 ((rd_T64 l1 x5_1).f2)]] (by rfl) rfl rfl (by (try simp only [List.map_toArray, List.map_cons, List.map_nil]); first | done | rfl | (simp only [List.length_drop, List.length_take]; rfl)) ?_
        with_reducible refine (laws_eqEdge.calls ((rd_T64 l0 x5_1).f0) ((rd_T64 l0 x5_1).f1) ((rd_T64 l0 x5_1).f2) ((rd_T64 l1 x5_1).f0) ((rd_T64 l1 x5_1).f1) ((rd_T64 l1 x5_1).f2) true _ A7.out).mono ?_
        rintro e w10 ⟨rfl, hb⟩
        refine ⟨_, rfl, ?_⟩
        have n0_ := aM (below_step (by repeat (first | (with_reducible first | exact HB.out | apply below_alloc | apply pw_below_drewN | apply below_drew1) | exact HB.out)) hb)
        clear HB
        have HB := n0_
        clear n0_
        (try clear hb)
        (try clear hb2)
        (try clear hk)
        (try clear hi)
        refine hK.out _ _ ⟨((HB.out.cell (World.block_lt_of_cell? w _ hw489_0)).trans hw489_0), ((HB.out.cell (World.block_lt_of_cell? w _ hw489_1)).trans hw489_1), ((HB.out.cell (World.block_lt_of_cell? w _ hw489_2)).trans hw489_2), ((HB.out.cell (World.block_lt_of_cell? w _ hw490_0)).trans hw490_0), ((HB.out.cell (World.block_lt_of_cell? w _ hw490_1)).trans hw490_1), ((HB.out.cell (World.block_lt_of_cell? w _ hw490_2)).trans hw490_2)⟩ (fun hHeld => ?_)
        clear hK K
        refine norm_ (a' := ?_) ?_ ?_
        rotate_left
        ·
         show Act.put _ (some 25) _ = _
         simp only [Act.put, zSA, zSB, zSC, i64_w, i32_w]
         rfl
        refine pure_ (i := 9) (N := some 26) (v := ?_) (a' := ?_) (bq 10 1023) rfl rfl (any_of HT_.out (by kernel_rfl)) (fun _ _ _ h => h) (Or.inl ⟨by rfl, ?_⟩) ?_ ?_; rotate_left; (intro w'; go_simp; (with_reducible rfl)); rotate_left; (simp only [Act.put, zSA, zSB, zSC, i64_w, i32_w]; rfl)
        refine done_ (done_of HT_.out (by kernel_rfl)) ?_
        try go_wp2
        go_roundg k1
        case measure => have := HK1.out; omega
        case rel => exact ⟨(wrap64 (x5_1 + 1)), (by first | rfl | (simp; done) | (simp [*]; done)), H', ⟨by have := HK1.out; omega⟩, ⟨by repeat (first | (with_reducible first | exact HB.out | apply below_alloc | apply pw_below_drewN | apply below_drew1) | exact HB.out)⟩⟩
       ·
        replace c8 := Bool.eq_false_iff.mpr c8
        subst c8
        have H1 : (some false) = some r := by rw [if_neg (show ¬ (false = true) by decide)] at H; exact H
        clear H
        have H := H1
        clear H1
        obtain rfl := Option.some.inj H
        try go_wp2
        have n0_ := aM (below_drew1 HB.out)
        clear HB
        have HB := n0_
        clear n0_
        have p489 : 0 ≤ (x5_1 : Int) := of_decide_eq_true (by first | (with_reducible assumption) | assumption)
        have q489 : x5_1 < (l0.length : Int) := of_decide_eq_true (by first | (with_reducible assumption) | assumption)
        obtain ⟨ad489, e489, hx489_0, hx489_1, hx489_2⟩ := at_T64 HR0.out x5_1 p489 q489
        have hw489_2 := hx489_2
        have hw489_1 := hx489_1
        have hw489_0 := hx489_0
        cases e489
        try have hz_hx489_0 := aM hx489_0
        try have hz_hx489_1 := aM hx489_1
        try have hz_hx489_2 := aM hx489_2
        replace hx489_0 := (HB.out.cell (World.block_lt_of_cell? w _ hx489_0)).trans hx489_0
        replace hx489_1 := (HB.out.cell (World.block_lt_of_cell? w _ hx489_1)).trans hx489_1
        replace hx489_2 := (HB.out.cell (World.block_lt_of_cell? w _ hx489_2)).trans hx489_2
        replace p489 := eq_true p489
        replace q489 := eq_true q489
        have p490 : 0 ≤ (x5_1 : Int) := of_decide_eq_true (by first | (with_reducible assumption) | assumption)
        have q490 : x5_1 < (l1.length : Int) := of_decide_eq_true (by first | (with_reducible assumption) | assumption)
        obtain ⟨ad490, e490, hx490_0, hx490_1, hx490_2⟩ := at_T64 HR1.out x5_1 p490 q490
        have hw490_2 := hx490_2
        have hw490_1 := hx490_1
        have hw490_0 := hx490_0
        cases e490
        try have hz_hx490_0 := aM hx490_0
        try have hz_hx490_1 := aM hx490_1
        try have hz_hx490_2 := aM hx490_2
        replace hx490_0 := (HB.out.cell (World.block_lt_of_cell? w _ hx490_0)).trans hx490_0
        replace hx490_1 := (HB.out.cell (World.block_lt_of_cell? w _ hx490_1)).trans hx490_1
        replace hx490_2 := (HB.out.cell (World.block_lt_of_cell? w _ hx490_2)).trans hx490_2
        replace p490 := eq_true p490
        replace q490 := eq_true q490
        refine start_ (n := 10) (S := fun w' => w'.cell? (ad489.add ((x5_1).toNat * 3)) = some (.string ((rd_T64 l0 x5_1).f0)) ∧ w'.cell? ⟨(ad489.add ((x5_1).toNat * 3)).block, (ad489.add ((x5_1).toNat * 3)).off + 1, none⟩ = some (.bool ((rd_T64 l0 x5_1).f1)) ∧ w'.cell? ⟨(ad489.add ((x5_1).toNat * 3)).block, (ad489.add ((x5_1).toNat * 3)).off + 2, none⟩ = some (.int .i64 ((rd_T64 l0 x5_1).f2)) ∧ w'.cell? (ad490.add ((x5_1).toNat * 3)) = some (.string ((rd_T64 l1 x5_1).f0)) ∧ w'.cell? ⟨(ad490.add ((x5_1).toNat * 3)).block, (ad490.add ((x5_1).toNat * 3)).off + 1, none⟩ = some (.bool ((rd_T64 l1 x5_1).f1)) ∧ w'.cell? ⟨(ad490.add ((x5_1).toNat * 3)).block, (ad490.add ((x5_1).toNat * 3)).off + 2, none⟩ = some (.int .i64 ((rd_T64 l1 x5_1).f2))) (ds := []) (bq 10 0) (by kernel_rfl) rfl (by kernel_rfl) ⟨((HB.out.cell (World.block_lt_of_cell? w _ hw489_0)).trans hw489_0), ((HB.out.cell (World.block_lt_of_cell? w _ hw489_1)).trans hw489_1), ((HB.out.cell (World.block_lt_of_cell? w _ hw489_2)).trans hw489_2), ((HB.out.cell (World.block_lt_of_cell? w _ hw490_0)).trans hw490_0), ((HB.out.cell (World.block_lt_of_cell? w _ hw490_1)).trans hw490_1), ((HB.out.cell (World.block_lt_of_cell? w _ hw490_2)).trans hw490_2)⟩ (fun hHeld => ?_); refine with_tabW laws_eqEdgeS.tab6 laws_eqEdgeS.bits6 (fun HT_ HW_ => ?_)
        generalize wr.drew = w11 at HB hx489_0 hx489_1 hx489_2 hx490_0 hx490_1 hx490_2 hHeld ⊢
        refine pure_ (i := 0) (N := some 17) (v := ?_) (a' := ?_) (bq 10 1) rfl rfl (any_of HT_.out (by kernel_rfl)) (fun _ _ _ h => h) (Or.inl ⟨by rfl, ?_⟩) ?_ ?_; rotate_left; (intro w'; go_simp; (with_reducible rfl)); rotate_left; (simp only [Act.put, zSA, zSB, zSC, i64_w, i32_w]; rfl)
        refine pure_ (i := 1) (N := some 18) (v := ?_) (a' := ?_) (bq 10 3) rfl rfl (any_of HT_.out (by kernel_rfl)) (fun _ _ _ h => h) (Or.inl ⟨by rfl, ?_⟩) ?_ ?_; rotate_left; (intro w'; go_simp; (with_reducible rfl)); rotate_left; (simp only [Act.put, zSA, zSB, zSC, i64_w, i32_w]; rfl)
        refine pure_ (i := 2) (N := some 19) (v := ?_) (a' := ?_) (bq 10 7) rfl rfl (any_of HT_.out (by kernel_rfl)) (fun _ _ _ h => h) (Or.inl ⟨by rfl, ?_⟩) ?_ ?_; rotate_left; (intro w'; go_simp; (with_reducible rfl)); rotate_left; (simp only [Act.put, zSA, zSB, zSC, i64_w, i32_w]; rfl)
        refine pure_ (i := 4) (N := some 21) (v := ?_) (a' := ?_) (bq 10 23) rfl rfl (any_of HT_.out (by kernel_rfl)) (fun _ _ _ h => h) (Or.inl ⟨by rfl, ?_⟩) ?_ ?_; rotate_left; (intro w'; go_simp; (with_reducible rfl)); rotate_left; (simp only [Act.put, zSA, zSB, zSC, i64_w, i32_w]; rfl)
        refine pure_ (i := 5) (N := some 22) (v := ?_) (a' := ?_) (bq 10 55) rfl rfl (any_of HT_.out (by kernel_rfl)) (fun _ _ _ h => h) (Or.inl ⟨by rfl, ?_⟩) ?_ ?_; rotate_left; (intro w'; go_simp; (with_reducible rfl)); rotate_left; (simp only [Act.put, zSA, zSB, zSC, i64_w, i32_w]; rfl)
        refine pure_ (i := 6) (N := some 23) (v := ?_) (a' := ?_) (bq 10 119) rfl rfl (any_of HT_.out (by kernel_rfl)) (fun _ _ _ h => h) (Or.inl ⟨by rfl, ?_⟩) ?_ ?_; rotate_left; (intro w'; go_simp; (with_reducible rfl)); rotate_left; (simp only [Act.put, zSA, zSB, zSC, i64_w, i32_w]; rfl)
        refine take_ (i := 3) (N := some 20) (v := ?_) (a' := ?_) (bq 10 127) rfl rfl (take_ofW HT_.out HW_.out (by kernel_rfl)) (fun _ _ _ h => h) (Or.inl ⟨by rfl, ?_⟩) hHeld ?_ ?_; rotate_left; (rintro w' ⟨s0, s1, s2, s3, s4, s5⟩; go_simp; (with_reducible rfl)); rotate_left; (simp only [Act.put, zSA, zSB, zSC, i64_w, i32_w]; rfl)
        refine take_ (i := 7) (N := some 24) (v := ?_) (a' := ?_) (bq 10 255) rfl rfl (take_ofW HT_.out HW_.out (by kernel_rfl)) (fun _ _ _ h => h) (Or.inl ⟨by rfl, ?_⟩) hHeld ?_ ?_; rotate_left; (rintro w' ⟨s0, s1, s2, s3, s4, s5⟩; go_simp; (with_reducible rfl)); rotate_left; (simp only [Act.put, zSA, zSB, zSC, i64_w, i32_w]; rfl)
        refine one_ (i := 8) (N := some 25) (bq 10 511) rfl rfl (one_of HT_.out (by kernel_rfl)) (by decide) (fun K hK => ?_)
        refine goes_ Try.func73 (by kernel_rfl) rfl #[.agg #[.string ((rd_T64 l0 x5_1).f0), .bool ((rd_T64 l0 x5_1).f1), .int .i64 ((rd_T64 l0 x5_1).f2)], .agg #[.string ((rd_T64 l1 x5_1).f0), .bool ((rd_T64 l1 x5_1).f1), .int .i64 ((rd_T64 l1 x5_1).f2)]] (by rfl) rfl rfl (by (try simp only [List.map_toArray, List.map_cons, List.map_nil]); first | done | rfl | (simp only [List.length_drop, List.length_take]; rfl)) ?_
        with_reducible refine (laws_eqEdge.calls ((rd_T64 l0 x5_1).f0) ((rd_T64 l0 x5_1).f1) ((rd_T64 l0 x5_1).f2) ((rd_T64 l1 x5_1).f0) ((rd_T64 l1 x5_1).f1) ((rd_T64 l1 x5_1).f2) false _ A7.out).mono ?_
        rintro e w12 ⟨rfl, hb⟩
        refine ⟨_, rfl, ?_⟩
        have n0_ := aM (below_step (by repeat (first | (with_reducible first | exact HB.out | apply below_alloc | apply pw_below_drewN | apply below_drew1) | exact HB.out)) hb)
        clear HB
        have HB := n0_
        clear n0_
        (try clear hb)
        (try clear hb2)
        (try clear hk)
        (try clear hi)
        refine hK.out _ _ ⟨((HB.out.cell (World.block_lt_of_cell? w _ hw489_0)).trans hw489_0), ((HB.out.cell (World.block_lt_of_cell? w _ hw489_1)).trans hw489_1), ((HB.out.cell (World.block_lt_of_cell? w _ hw489_2)).trans hw489_2), ((HB.out.cell (World.block_lt_of_cell? w _ hw490_0)).trans hw490_0), ((HB.out.cell (World.block_lt_of_cell? w _ hw490_1)).trans hw490_1), ((HB.out.cell (World.block_lt_of_cell? w _ hw490_2)).trans hw490_2)⟩ (fun hHeld => ?_)
        clear hK K
        refine norm_ (a' := ?_) ?_ ?_
        rotate_left
        ·
         show Act.put _ (some 25) _ = _
         simp only [Act.put, zSA, zSB, zSC, i64_w, i32_w]
         rfl
        refine pure_ (i := 9) (N := some 26) (v := ?_) (a' := ?_) (bq 10 1023) rfl rfl (any_of HT_.out (by kernel_rfl)) (fun _ _ _ h => h) (Or.inl ⟨by rfl, ?_⟩) ?_ ?_; rotate_left; (intro w'; go_simp; (with_reducible rfl)); rotate_left; (simp only [Act.put, zSA, zSB, zSC, i64_w, i32_w]; rfl)
        refine done_ (done_of HT_.out (by kernel_rfl)) ?_
        try go_wp2
        go_ret
        exact ⟨by first | rfl | (simp [errW_none, errW_some] <;> rfl) | (simp [*, errW_none, errW_some] <;> rfl), by repeat (first | (with_reducible first | exact HB.out | apply below_alloc | apply pw_below_drewN | apply below_drew1) | exact HB.out)⟩
      ·
       rw [if_neg c6] at H
       exact absurd H (by simp)
     ·
      rw [if_neg c5] at H
      exact absurd H (by simp)
    ·
     rw [if_neg c4] at H
     have c4b0 : decide (x5_1 < (l0.length : Int)) = false := decide_eq_false c4
     clear c4
     obtain rfl := Option.some.inj H
     go_wp2
     go_ret
     exact ⟨by first | rfl | (simp [errW_none, errW_some] <;> rfl) | (simp [*, errW_none, errW_some] <;> rfl), by repeat (first | (with_reducible first | exact HB.out | apply below_alloc | apply pw_below_drewN | apply below_drew1) | exact HB.out)⟩
 ·
  rw [if_neg c3] at H
  have c3b0 : ((l0.length : Int) == (l1.length : Int)) = false := beq_eq_false_iff_ne.mpr c3
  have c3b1 : ((l0.length : Int) != (l1.length : Int)) = true := bne_iff_ne.mpr c3
  have c3b2 : (l0.length == l1.length) = false := by first | simpa using c3 | (simp at c3 ⊢; omega)
  obtain rfl := Option.some.inj H
  go_enter Try.func47, Try.ntmps47
  go_wp2
  go_ret
  exact ⟨by first | rfl | (simp [errW_none, errW_some] <;> rfl) | (simp [*, errW_none, errW_some] <;> rfl), by repeat (first | (with_reducible first | exact HB.out | apply below_alloc | apply pw_below_drewN | apply below_drew1) | exact HB.out)⟩

def laws_eqRadix.f (k : Nat) (l0_0 : List (S64)) (l1_0 : List (S64)) : Option (Bool) := (laws_eqEdgeS.f k l0_0 l1_0).bind fun t494 => (if t494 = true then (some true) else (some false))
set_option maxHeartbeats 8000000 in
set_option maxRecDepth 100000 in
theorem laws_eqRadix.calls (k : Nat) (A0_0 : Option Addr) (c0_0 : Nat) (l0_0 : List (S64)) (A1_0 : Option Addr) (c1_0 : Nat) (l1_0 : List (S64)) (r : Bool) (w : World) (hr0_0 : Kd.C k64 w A0_0 l0_0.length l0_0) (hc0_0 : l0_0.length ≤ c0_0) (hr1_0 : Kd.C k64 w A1_0 l1_0.length l1_0) (hc1_0 : l1_0.length ≤ c1_0) (h : laws_eqRadix.f k l0_0 l1_0 = some r) :
  Calls Try.prog 15 #[.agg #[.slice A0_0 l0_0.length c0_0], .agg #[.slice A1_0 l1_0.length c1_0]] w fun e w' => e = .returned (.bool r) ∧ Below w.heap.size w w' := by
 have hu26 := Try.underlying26
 have HR0_0 := aM hr0_0
 have HC0_0 := aM hc0_0
 clear hr0_0 hc0_0
 have HR1_0 := aM hr1_0
 have HC1_0 := aM hc1_0
 clear hr1_0 hc1_0
 have HB := aM (Below.refl w.heap.size w)
 have H : ((laws_eqEdgeS.f k l0_0 l1_0).bind fun t494 => (if t494 = true then (some true) else (some false))) = some r := h
 clear h
 replace H := Option.bind_eq_some_iff.mp H
 obtain ⟨t494, A30, H⟩ := H
 replace H : (if t494 = true then (some true) else (some false)) = some r := H
 have A3 := aM A30
 clear A30
 by_cases c4 : t494 = true
 ·
  subst c4
  have H1 : (some true) = some r := by rw [if_pos rfl] at H; exact H
  clear H
  have H := H1
  clear H1
  obtain rfl := Option.some.inj H
  go_enter Try.func15, Try.ntmps15
  go_wp2_with (first | ((with_reducible refine gate_dst (N := 2) rfl ?_); refine box_event ?hg (N := 2) ?hd (cs := #[.slice A0_0 l0_0.length c0_0]) (t := 26) ?hr ?_; (case hd => rfl); (case hg => rfl); (case hr => first | (go_simp; done) | (go_simp; rfl)); intro gb492 hg w5 hbox hb; have n0_ := aM (below_step (by repeat (first | (with_reducible first | exact HB.out | apply below_alloc | apply pw_below_drewN | apply below_drew1) | exact HB.out)) hb); have n1_ := aM (hbox); have n2_ := aM ((by rw [hg]; exact (below_size (by repeat (first | (with_reducible first | exact HB.out | apply below_alloc | apply pw_below_drewN | apply below_drew1) | exact HB.out))) : w.heap.size ≤ gb492)); have n3_ := aM ((by rw [hg]; exact (below_size (by repeat (first | (with_reducible first | exact HB.out | apply below_alloc | apply pw_below_drewN | apply below_drew1) | exact HB.out))) : w.heap.size ≤ gb492)); clear HB; have HB := n0_; have BK492 := n1_; have GW492 := n2_; have GE492 := n3_; clear n0_ n1_ n2_ n3_; clear hb hbox hg) | ((with_reducible refine gate_dst (N := 3) rfl ?_); refine box_event ?hg (N := 3) ?hd (cs := #[.slice A1_0 l1_0.length c1_0]) (t := 26) ?hr ?_; (case hd => rfl); (case hg => rfl); (case hr => first | (go_simp; done) | (go_simp; rfl)); intro gb493 hg w6 hbox hb; have n0_ := aM (blk_below (g := gb492) (o := .cells #[.slice A0_0 l0_0.length c0_0] 26 (0, 0)) (by (with_reducible repeat (first | refine blk_drewN ?_ _ | refine blk_drew ?_ | refine blk_alloc ?_ _)); exact BK492.out) hb); have n1_ := aM (below_step (by repeat (first | (with_reducible first | exact HB.out | apply below_alloc | apply pw_below_drewN | apply below_drew1 | refine below_set ?_ GE492.out) | exact HB.out)) hb); have n2_ := aM (hbox); have n3_ := aM ((by rw [hg]; exact (below_size (by repeat (first | (with_reducible first | exact HB.out | apply below_alloc | apply pw_below_drewN | apply below_drew1 | refine below_set ?_ GE492.out) | exact HB.out))) : w.heap.size ≤ gb493)); have n4_ := aM ((by rw [hg]; exact (below_size (by repeat (first | (with_reducible first | exact HB.out | apply below_alloc | apply pw_below_drewN | apply below_drew1 | refine below_set ?_ GE492.out) | exact HB.out))) : w.heap.size ≤ gb493)); have n5_ := aM ((by rw [hg]; exact Nat.ne_of_lt (blk_lt (g := gb492) (o := .cells #[.slice A0_0 l0_0.length c0_0] 26 (0, 0)) (by (with_reducible repeat (first | refine blk_drewN ?_ _ | refine blk_drew ?_ | refine blk_alloc ?_ _)); exact BK492.out)) : gb492 ≠ gb493)); have n6_ := aM ((by rw [hg]; exact Nat.ne_of_gt (blk_lt (g := gb492) (o := .cells #[.slice A0_0 l0_0.length c0_0] 26 (0, 0)) (by (with_reducible repeat (first | refine blk_drewN ?_ _ | refine blk_drew ?_ | refine blk_alloc ?_ _)); exact BK492.out)) : gb493 ≠ gb492)); clear BK492; clear HB; have BK492 := n0_; have HB := n1_; have BK493 := n2_; have GW493 := n3_; have GE493 := n4_; have NB492_493 := n5_; have NB493_492 := n6_; clear n0_ n1_ n2_ n3_ n4_ n5_ n6_; clear hb hbox hg; have hnb7 := NB492_493.out; have hnc7 := NB493_492.out; have hcz8_0 : w6.cell? ⟨gb492, 0, none⟩ = some (.slice A0_0 l0_0.length c0_0) := (blk_cell BK492.out 0).trans rfl; have hfz8_0 := blk_frozen BK492.out 0; have hcz9_0 : w6.cell? ⟨gb493, 0, none⟩ = some (.slice A1_0 l1_0.length c1_0) := (blk_cell BK493.out 0).trans rfl; have hfz9_0 := blk_frozen BK493.out 0) | ((with_reducible refine gate_callee (f := 47) rfl ?_); refine goesL_ (some 9) rfl rfl Try.func47 (by kernel_rfl) rfl #[.slice A0_0 l0_0.length c0_0, .slice A1_0 l1_0.length c1_0] rfl (by (try simp only [List.map_toArray, List.map_cons, List.map_nil]); first | done | rfl | (simp only [List.length_drop, List.length_take]; rfl)) ?_; (with_reducible refine (laws_eqEdgeS.calls k _ _ l0_0 _ _ l1_0 true _ ?side1 ?side2 ?side3 ?side4 A3.out).mono ?_); (case side1 => repeat (first | exact (Kd.C_below HR0_0.out HB.out) | (with_reducible refine Kd.C_alloc ?_ _) | (with_reducible refine Kd.C_drewN ?_ _) | (with_reducible refine Kd.C_drew ?_))); (case side2 => exact HC0_0.out); (case side3 => repeat (first | exact (Kd.C_below HR1_0.out HB.out) | (with_reducible refine Kd.C_alloc ?_ _) | (with_reducible refine Kd.C_drewN ?_ _) | (with_reducible refine Kd.C_drew ?_))); (case side4 => exact HC1_0.out); rintro e w10 ⟨rfl, hb⟩; refine ⟨_, rfl, ?_⟩; have n0_ := aM (blk_below (g := gb492) (o := .cells #[.slice A0_0 l0_0.length c0_0] 26 (0, 0)) (by (with_reducible repeat (first | refine blk_drewN ?_ _ | refine blk_drew ?_ | refine blk_alloc ?_ _)); exact BK492.out) hb); have n1_ := aM (blk_below (g := gb493) (o := .cells #[.slice A1_0 l1_0.length c1_0] 26 (0, 0)) (by (with_reducible repeat (first | refine blk_drewN ?_ _ | refine blk_drew ?_ | refine blk_alloc ?_ _)); exact BK493.out) hb); have n2_ := aM (below_step (by repeat (first | (with_reducible first | exact HB.out | apply below_alloc | apply pw_below_drewN | apply below_drew1 | refine below_set ?_ GE492.out | refine below_set ?_ GE493.out) | exact HB.out)) hb); clear BK492; clear BK493; clear HB; have BK492 := n0_; have BK493 := n1_; have HB := n2_; clear n0_ n1_ n2_; (try clear hb); (try clear hb2); (try clear hk); (try clear hi)))
  go_ret
  exact ⟨by first | rfl | (simp [errW_none, errW_some] <;> rfl) | (simp [*, errW_none, errW_some] <;> rfl), by repeat (first | (with_reducible first | exact HB.out | apply below_alloc | apply pw_below_drewN | apply below_drew1 | refine below_set ?_ GE492.out | refine below_set ?_ GE493.out) | exact HB.out)⟩
 ·
  replace c4 := Bool.eq_false_iff.mpr c4
  subst c4
  have H1 : (some false) = some r := by rw [if_neg (show ¬ (false = true) by decide)] at H; exact H
  clear H
  have H := H1
  clear H1
  obtain rfl := Option.some.inj H
  go_enter Try.func15, Try.ntmps15
  go_wp2_with (first | ((with_reducible refine gate_dst (N := 2) rfl ?_); refine box_event ?hg (N := 2) ?hd (cs := #[.slice A0_0 l0_0.length c0_0]) (t := 26) ?hr ?_; (case hd => rfl); (case hg => rfl); (case hr => first | (go_simp; done) | (go_simp; rfl)); intro gb492 hg w11 hbox hb; have n0_ := aM (below_step (by repeat (first | (with_reducible first | exact HB.out | apply below_alloc | apply pw_below_drewN | apply below_drew1) | exact HB.out)) hb); have n1_ := aM (hbox); have n2_ := aM ((by rw [hg]; exact (below_size (by repeat (first | (with_reducible first | exact HB.out | apply below_alloc | apply pw_below_drewN | apply below_drew1) | exact HB.out))) : w.heap.size ≤ gb492)); have n3_ := aM ((by rw [hg]; exact (below_size (by repeat (first | (with_reducible first | exact HB.out | apply below_alloc | apply pw_below_drewN | apply below_drew1) | exact HB.out))) : w.heap.size ≤ gb492)); clear HB; have HB := n0_; have BK492 := n1_; have GW492 := n2_; have GE492 := n3_; clear n0_ n1_ n2_ n3_; clear hb hbox hg) | ((with_reducible refine gate_dst (N := 3) rfl ?_); refine box_event ?hg (N := 3) ?hd (cs := #[.slice A1_0 l1_0.length c1_0]) (t := 26) ?hr ?_; (case hd => rfl); (case hg => rfl); (case hr => first | (go_simp; done) | (go_simp; rfl)); intro gb493 hg w12 hbox hb; have n0_ := aM (blk_below (g := gb492) (o := .cells #[.slice A0_0 l0_0.length c0_0] 26 (0, 0)) (by (with_reducible repeat (first | refine blk_drewN ?_ _ | refine blk_drew ?_ | refine blk_alloc ?_ _)); exact BK492.out) hb); have n1_ := aM (below_step (by repeat (first | (with_reducible first | exact HB.out | apply below_alloc | apply pw_below_drewN | apply below_drew1 | refine below_set ?_ GE492.out) | exact HB.out)) hb); have n2_ := aM (hbox); have n3_ := aM ((by rw [hg]; exact (below_size (by repeat (first | (with_reducible first | exact HB.out | apply below_alloc | apply pw_below_drewN | apply below_drew1 | refine below_set ?_ GE492.out) | exact HB.out))) : w.heap.size ≤ gb493)); have n4_ := aM ((by rw [hg]; exact (below_size (by repeat (first | (with_reducible first | exact HB.out | apply below_alloc | apply pw_below_drewN | apply below_drew1 | refine below_set ?_ GE492.out) | exact HB.out))) : w.heap.size ≤ gb493)); have n5_ := aM ((by rw [hg]; exact Nat.ne_of_lt (blk_lt (g := gb492) (o := .cells #[.slice A0_0 l0_0.length c0_0] 26 (0, 0)) (by (with_reducible repeat (first | refine blk_drewN ?_ _ | refine blk_drew ?_ | refine blk_alloc ?_ _)); exact BK492.out)) : gb492 ≠ gb493)); have n6_ := aM ((by rw [hg]; exact Nat.ne_of_gt (blk_lt (g := gb492) (o := .cells #[.slice A0_0 l0_0.length c0_0] 26 (0, 0)) (by (with_reducible repeat (first | refine blk_drewN ?_ _ | refine blk_drew ?_ | refine blk_alloc ?_ _)); exact BK492.out)) : gb493 ≠ gb492)); clear BK492; clear HB; have BK492 := n0_; have HB := n1_; have BK493 := n2_; have GW493 := n3_; have GE493 := n4_; have NB492_493 := n5_; have NB493_492 := n6_; clear n0_ n1_ n2_ n3_ n4_ n5_ n6_; clear hb hbox hg; have hnb13 := NB492_493.out; have hnc13 := NB493_492.out; have hcz14_0 : w12.cell? ⟨gb492, 0, none⟩ = some (.slice A0_0 l0_0.length c0_0) := (blk_cell BK492.out 0).trans rfl; have hfz14_0 := blk_frozen BK492.out 0; have hcz15_0 : w12.cell? ⟨gb493, 0, none⟩ = some (.slice A1_0 l1_0.length c1_0) := (blk_cell BK493.out 0).trans rfl; have hfz15_0 := blk_frozen BK493.out 0) | ((with_reducible refine gate_callee (f := 47) rfl ?_); refine goesL_ (some 9) rfl rfl Try.func47 (by kernel_rfl) rfl #[.slice A0_0 l0_0.length c0_0, .slice A1_0 l1_0.length c1_0] rfl (by (try simp only [List.map_toArray, List.map_cons, List.map_nil]); first | done | rfl | (simp only [List.length_drop, List.length_take]; rfl)) ?_; (with_reducible refine (laws_eqEdgeS.calls k _ _ l0_0 _ _ l1_0 false _ ?side1 ?side2 ?side3 ?side4 A3.out).mono ?_); (case side1 => repeat (first | exact (Kd.C_below HR0_0.out HB.out) | (with_reducible refine Kd.C_alloc ?_ _) | (with_reducible refine Kd.C_drewN ?_ _) | (with_reducible refine Kd.C_drew ?_))); (case side2 => exact HC0_0.out); (case side3 => repeat (first | exact (Kd.C_below HR1_0.out HB.out) | (with_reducible refine Kd.C_alloc ?_ _) | (with_reducible refine Kd.C_drewN ?_ _) | (with_reducible refine Kd.C_drew ?_))); (case side4 => exact HC1_0.out); rintro e w16 ⟨rfl, hb⟩; refine ⟨_, rfl, ?_⟩; have n0_ := aM (blk_below (g := gb492) (o := .cells #[.slice A0_0 l0_0.length c0_0] 26 (0, 0)) (by (with_reducible repeat (first | refine blk_drewN ?_ _ | refine blk_drew ?_ | refine blk_alloc ?_ _)); exact BK492.out) hb); have n1_ := aM (blk_below (g := gb493) (o := .cells #[.slice A1_0 l1_0.length c1_0] 26 (0, 0)) (by (with_reducible repeat (first | refine blk_drewN ?_ _ | refine blk_drew ?_ | refine blk_alloc ?_ _)); exact BK493.out) hb); have n2_ := aM (below_step (by repeat (first | (with_reducible first | exact HB.out | apply below_alloc | apply pw_below_drewN | apply below_drew1 | refine below_set ?_ GE492.out | refine below_set ?_ GE493.out) | exact HB.out)) hb); clear BK492; clear BK493; clear HB; have BK492 := n0_; have BK493 := n1_; have HB := n2_; clear n0_ n1_ n2_; (try clear hb); (try clear hb2); (try clear hk); (try clear hi)))
  go_ret
  exact ⟨by first | rfl | (simp [errW_none, errW_some] <;> rfl) | (simp [*, errW_none, errW_some] <;> rfl), by repeat (first | (with_reducible first | exact HB.out | apply below_alloc | apply pw_below_drewN | apply below_drew1 | refine below_set ?_ GE492.out | refine below_set ?_ GE493.out) | exact HB.out)⟩

def laws_szEdge.f (a0_0 : ByteArray) (a0_1 : Bool) (a0_2 : Int) (a1 : Int) : Option (Int) := if (wrap64 (a1 - (a0_0.size : Int))) < 0 then (some (-1)) else (some (wrap64 (a1 - (a0_0.size : Int))))
set_option maxHeartbeats 8000000 in
set_option maxRecDepth 100000 in
theorem laws_szEdge.calls (a0_0 : ByteArray) (a0_1 : Bool) (a0_2 : Int) (a1 : Int) (r : Int) (w : World) (h : laws_szEdge.f a0_0 a0_1 a0_2 a1 = some r) :
  Calls Try.prog 74 #[.agg #[.string a0_0, .bool a0_1, .int .i64 a0_2], .int .i64 a1] w fun e w' => e = .returned (.int .i64 r) ∧ Below w.heap.size w w' := by
 have hu80 := Try.underlying80
 have HB := aM (Below.refl w.heap.size w)
 have H : (if (wrap64 (a1 - (a0_0.size : Int))) < 0 then (some (-1)) else (some (wrap64 (a1 - (a0_0.size : Int))))) = some r := h
 clear h
 by_cases c3 : (wrap64 (a1 - (a0_0.size : Int))) < 0
 ·
  rw [if_pos c3] at H
  have c3b0 : decide ((wrap64 (a1 - (a0_0.size : Int))) < 0) = true := decide_eq_true c3
  clear c3
  obtain rfl := Option.some.inj H
  go_enter Try.func74, Try.ntmps74
  go_wp2_with (first | ((with_reducible refine gate_dst (N := 2) rfl ?_); refine box_event ?hg (N := 2) ?hd (cs := #[.string a0_0, .bool a0_1, .int .i64 a0_2]) (t := 80) ?hr ?_; (case hd => rfl); (case hg => rfl); (case hr => first | (go_simp; done) | (go_simp; rfl)); intro gb553 hg w4 hbox hb; have n0_ := aM (below_step (by repeat (first | (with_reducible first | exact HB.out | apply below_alloc | apply pw_below_drewN | apply below_drew1) | exact HB.out)) hb); have n1_ := aM (hbox); have n2_ := aM ((by rw [hg]; exact (below_size (by repeat (first | (with_reducible first | exact HB.out | apply below_alloc | apply pw_below_drewN | apply below_drew1) | exact HB.out))) : w.heap.size ≤ gb553)); have n3_ := aM ((by rw [hg]; exact (below_size (by repeat (first | (with_reducible first | exact HB.out | apply below_alloc | apply pw_below_drewN | apply below_drew1) | exact HB.out))) : w.heap.size ≤ gb553)); clear HB; have HB := n0_; have BK553 := n1_; have GW553 := n2_; have GE553 := n3_; clear n0_ n1_ n2_ n3_; clear hb hbox hg; have hcz5_0 : w4.cell? ⟨gb553, 0, none⟩ = some (.string a0_0) := (blk_cell BK553.out 0).trans rfl; have hcz5_1 : w4.cell? ⟨gb553, 1, none⟩ = some (.bool a0_1) := (blk_cell BK553.out 1).trans rfl; have hcz5_2 : w4.cell? ⟨gb553, 2, none⟩ = some (.int .i64 a0_2) := (blk_cell BK553.out 2).trans rfl; have hfz5_0 := blk_frozen BK553.out 0; have hfz5_1 := blk_frozen BK553.out 1; have hfz5_2 := blk_frozen BK553.out 2))
  go_ret
  exact ⟨by first | rfl | (simp [errW_none, errW_some] <;> rfl) | (simp [*, errW_none, errW_some] <;> rfl), by repeat (first | (with_reducible first | exact HB.out | apply below_alloc | apply pw_below_drewN | apply below_drew1 | refine below_set ?_ GE553.out) | exact HB.out)⟩
 ·
  rw [if_neg c3] at H
  have c3b0 : decide ((wrap64 (a1 - (a0_0.size : Int))) < 0) = false := decide_eq_false c3
  clear c3
  obtain rfl := Option.some.inj H
  go_enter Try.func74, Try.ntmps74
  go_wp2_with (first | ((with_reducible refine gate_dst (N := 2) rfl ?_); refine box_event ?hg (N := 2) ?hd (cs := #[.string a0_0, .bool a0_1, .int .i64 a0_2]) (t := 80) ?hr ?_; (case hd => rfl); (case hg => rfl); (case hr => first | (go_simp; done) | (go_simp; rfl)); intro gb553 hg w6 hbox hb; have n0_ := aM (below_step (by repeat (first | (with_reducible first | exact HB.out | apply below_alloc | apply pw_below_drewN | apply below_drew1) | exact HB.out)) hb); have n1_ := aM (hbox); have n2_ := aM ((by rw [hg]; exact (below_size (by repeat (first | (with_reducible first | exact HB.out | apply below_alloc | apply pw_below_drewN | apply below_drew1) | exact HB.out))) : w.heap.size ≤ gb553)); have n3_ := aM ((by rw [hg]; exact (below_size (by repeat (first | (with_reducible first | exact HB.out | apply below_alloc | apply pw_below_drewN | apply below_drew1) | exact HB.out))) : w.heap.size ≤ gb553)); clear HB; have HB := n0_; have BK553 := n1_; have GW553 := n2_; have GE553 := n3_; clear n0_ n1_ n2_ n3_; clear hb hbox hg; have hcz7_0 : w6.cell? ⟨gb553, 0, none⟩ = some (.string a0_0) := (blk_cell BK553.out 0).trans rfl; have hcz7_1 : w6.cell? ⟨gb553, 1, none⟩ = some (.bool a0_1) := (blk_cell BK553.out 1).trans rfl; have hcz7_2 : w6.cell? ⟨gb553, 2, none⟩ = some (.int .i64 a0_2) := (blk_cell BK553.out 2).trans rfl; have hfz7_0 := blk_frozen BK553.out 0; have hfz7_1 := blk_frozen BK553.out 1; have hfz7_2 := blk_frozen BK553.out 2))
  go_ret
  exact ⟨by first | rfl | (simp [errW_none, errW_some] <;> rfl) | (simp [*, errW_none, errW_some] <;> rfl), by repeat (first | (with_reducible first | exact HB.out | apply below_alloc | apply pw_below_drewN | apply below_drew1 | refine below_set ?_ GE553.out) | exact HB.out)⟩

def laws_szEdgeS.l0 : Nat → List (S80) → Int → Int → Option (Int)
 | 0, _, _, _ => none
 | k + 1, x0, x1, x5 => if x5 < (x0.length : Int) then (if 0 ≤ x5 then ((laws_szEdge.f ((rd_T80 x0 x5).f0) ((rd_T80 x0 x5).f1) ((rd_T80 x0 x5).f2) x1).bind fun t555 => (if t555 < 0 then (some (-1)) else (laws_szEdgeS.l0 k x0 t555 (wrap64 (x5 + 1))))) else (none)) else (some x1)
def laws_szEdgeS.f (k : Nat) (l0 : List (S80)) (a1 : Int) : Option (Int) := if (wrap64 (a1 - (l0.length : Int))) < 0 then (some (-1)) else (laws_szEdgeS.l0 k l0 (wrap64 (a1 - (l0.length : Int))) 0)
set_option maxHeartbeats 8000000 in
set_option maxRecDepth 100000 in
theorem laws_szEdgeS.calls (k : Nat) (A0 : Option Addr) (c0 : Nat) (l0 : List (S80)) (a1 : Int) (r : Int) (w : World) (hr0 : Kd.C k80 w A0 l0.length l0) (hc0 : l0.length ≤ c0) (h : laws_szEdgeS.f k l0 a1 = some r) :
  Calls Try.prog 51 #[.slice A0 l0.length c0, .int .i64 a1] w fun e w' => e = .returned (.int .i64 r) ∧ Below w.heap.size w w' := by
 have hu80 := Try.underlying80
 have HR0 := aM hr0
 have HC0 := aM hc0
 clear hr0 hc0
 have HB := aM (Below.refl w.heap.size w)
 have H : (if (wrap64 (a1 - (l0.length : Int))) < 0 then (some (-1)) else (laws_szEdgeS.l0 k l0 (wrap64 (a1 - (l0.length : Int))) 0)) = some r := h
 clear h
 by_cases c3 : (wrap64 (a1 - (l0.length : Int))) < 0
 ·
  rw [if_pos c3] at H
  have c3b0 : decide ((wrap64 (a1 - (l0.length : Int))) < 0) = true := decide_eq_true c3
  clear c3
  obtain rfl := Option.some.inj H
  go_enter Try.func51, Try.ntmps51
  go_wp2
  go_ret
  exact ⟨by first | rfl | (simp [errW_none, errW_some] <;> rfl) | (simp [*, errW_none, errW_some] <;> rfl), by repeat (first | (with_reducible first | exact HB.out | apply below_alloc | apply pw_below_drewN | apply below_drew1) | exact HB.out)⟩
 ·
  rw [if_neg c3] at H
  have c3b0 : decide ((wrap64 (a1 - (l0.length : Int))) < 0) = false := decide_eq_false c3
  clear c3
  have H' := aM H
  clear H
  go_enter Try.func51, Try.ntmps51
  go_wp2
  go_loopg [1, 5] k (fun kq v1 v5 w' => ∃ (x1_1 : Int) (x5_1 : Int), v1 = .int .i64 x1_1 ∧ v5 = .int .i64 x5_1 ∧ Aside0 (laws_szEdgeS.l0 kq l0 x1_1 x5_1 = some r) ∧ Aside0 (kq ≤ k) ∧ Aside0 (Below w.heap.size w w'))
  case atStart => exact ⟨(wrap64 (a1 - (l0.length : Int))), (0), (by first | rfl | (simp; done) | (simp [*]; done)), (by first | rfl | (simp; done) | (simp [*]; done)), H', ⟨Nat.le_refl _⟩, ⟨by repeat (first | (with_reducible first | exact HB.out | apply below_alloc | apply pw_below_drewN | apply below_drew1) | exact HB.out)⟩⟩
  case round =>
   clear H'
   try clear p2
   try clear c3
   try clear c3b0
   obtain ⟨x1_1, x5_1, rfl, rfl, HA, HK1, HB⟩ := hrel
   cases gk with
   | zero => exact absurd HA.out (by simp [laws_szEdgeS.l0])
   | succ k1 =>
    have H := HA.out
    clear HA
    simp only [laws_szEdgeS.l0] at H
    by_cases c4 : x5_1 < (l0.length : Int)
    ·
     rw [if_pos c4] at H
     have c4b0 : decide (x5_1 < (l0.length : Int)) = true := decide_eq_true c4
     clear c4
     by_cases c5 : 0 ≤ x5_1
     ·
      rw [if_pos c5] at H
      have c5b0 : decide (0 ≤ x5_1) = true := decide_eq_true c5
      clear c5
      replace H := Option.bind_eq_some_iff.mp H
      obtain ⟨t555, A60, H⟩ := H
      replace H : (if t555 < 0 then (some (-1)) else (laws_szEdgeS.l0 k1 l0 t555 (wrap64 (x5_1 + 1)))) = some r := H
      have A6 := aM A60
      clear A60
      by_cases c7 : t555 < 0
      ·
       rw [if_pos c7] at H
       have c7b0 : decide (t555 < 0) = true := decide_eq_true c7
       clear c7
       obtain rfl := Option.some.inj H
       have p554 : 0 ≤ (x5_1 : Int) := of_decide_eq_true (by first | (with_reducible assumption) | assumption)
       have q554 : x5_1 < (l0.length : Int) := of_decide_eq_true (by first | (with_reducible assumption) | assumption)
       obtain ⟨ad554, e554, hx554_0, hx554_1, hx554_2⟩ := at_T80 HR0.out x5_1 p554 q554
       cases e554
       try have hz_hx554_0 := aM hx554_0
       try have hz_hx554_1 := aM hx554_1
       try have hz_hx554_2 := aM hx554_2
       replace hx554_0 := (HB.out.cell (World.block_lt_of_cell? w _ hx554_0)).trans hx554_0
       replace hx554_1 := (HB.out.cell (World.block_lt_of_cell? w _ hx554_1)).trans hx554_1
       replace hx554_2 := (HB.out.cell (World.block_lt_of_cell? w _ hx554_2)).trans hx554_2
       replace p554 := eq_true p554
       replace q554 := eq_true q554
       go_wp2_with (first | ((with_reducible refine gate_callee (f := 74) rfl ?_); refine goesL_ (some 23) rfl rfl Try.func74 (by kernel_rfl) rfl #[.agg #[.string ((rd_T80 l0 x5_1).f0), .bool ((rd_T80 l0 x5_1).f1), .int .i64 ((rd_T80 l0 x5_1).f2)], .int .i64 x1_1] rfl (by (try simp only [List.map_toArray, List.map_cons, List.map_nil]); first | done | rfl | (simp only [List.length_drop, List.length_take]; rfl)) ?_; (with_reducible refine (laws_szEdge.calls ((rd_T80 l0 x5_1).f0) ((rd_T80 l0 x5_1).f1) ((rd_T80 l0 x5_1).f2) x1_1 t555 _ A6.out).mono ?_); rintro e w8 ⟨rfl, hb⟩; refine ⟨_, rfl, ?_⟩; have n0_ := aM (below_step (by repeat (first | (with_reducible first | exact HB.out | apply below_alloc | apply pw_below_drewN | apply below_drew1) | exact HB.out)) hb); clear HB; have HB := n0_; clear n0_; (try clear hb); (try clear hb2); (try clear hk); (try clear hi)))
       go_ret
       exact ⟨by first | rfl | (simp [errW_none, errW_some] <;> rfl) | (simp [*, errW_none, errW_some] <;> rfl), by repeat (first | (with_reducible first | exact HB.out | apply below_alloc | apply pw_below_drewN | apply below_drew1) | exact HB.out)⟩
      ·
       rw [if_neg c7] at H
       have c7b0 : decide (t555 < 0) = false := decide_eq_false c7
       clear c7
       have H' := aM H
       clear H
       have p554 : 0 ≤ (x5_1 : Int) := of_decide_eq_true (by first | (with_reducible assumption) | assumption)
       have q554 : x5_1 < (l0.length : Int) := of_decide_eq_true (by first | (with_reducible assumption) | assumption)
       obtain ⟨ad554, e554, hx554_0, hx554_1, hx554_2⟩ := at_T80 HR0.out x5_1 p554 q554
       cases e554
       try have hz_hx554_0 := aM hx554_0
       try have hz_hx554_1 := aM hx554_1
       try have hz_hx554_2 := aM hx554_2
       replace hx554_0 := (HB.out.cell (World.block_lt_of_cell? w _ hx554_0)).trans hx554_0
       replace hx554_1 := (HB.out.cell (World.block_lt_of_cell? w _ hx554_1)).trans hx554_1
       replace hx554_2 := (HB.out.cell (World.block_lt_of_cell? w _ hx554_2)).trans hx554_2
       replace p554 := eq_true p554
       replace q554 := eq_true q554
       go_wp2_with (first | ((with_reducible refine gate_callee (f := 74) rfl ?_); refine goesL_ (some 23) rfl rfl Try.func74 (by kernel_rfl) rfl #[.agg #[.string ((rd_T80 l0 x5_1).f0), .bool ((rd_T80 l0 x5_1).f1), .int .i64 ((rd_T80 l0 x5_1).f2)], .int .i64 x1_1] rfl (by (try simp only [List.map_toArray, List.map_cons, List.map_nil]); first | done | rfl | (simp only [List.length_drop, List.length_take]; rfl)) ?_; (with_reducible refine (laws_szEdge.calls ((rd_T80 l0 x5_1).f0) ((rd_T80 l0 x5_1).f1) ((rd_T80 l0 x5_1).f2) x1_1 t555 _ A6.out).mono ?_); rintro e w9 ⟨rfl, hb⟩; refine ⟨_, rfl, ?_⟩; have n0_ := aM (below_step (by repeat (first | (with_reducible first | exact HB.out | apply below_alloc | apply pw_below_drewN | apply below_drew1) | exact HB.out)) hb); clear HB; have HB := n0_; clear n0_; (try clear hb); (try clear hb2); (try clear hk); (try clear hi)))
       go_roundg k1
       case measure => have := HK1.out; omega
       case rel => exact ⟨(t555), (wrap64 (x5_1 + 1)), (by first | rfl | (simp; done) | (simp [*]; done)), (by first | rfl | (simp; done) | (simp [*]; done)), H', ⟨by have := HK1.out; omega⟩, ⟨by repeat (first | (with_reducible first | exact HB.out | apply below_alloc | apply pw_below_drewN | apply below_drew1) | exact HB.out)⟩⟩
     ·
      rw [if_neg c5] at H
      exact absurd H (by simp)
    ·
     rw [if_neg c4] at H
     have c4b0 : decide (x5_1 < (l0.length : Int)) = false := decide_eq_false c4
     clear c4
     obtain rfl := Option.some.inj H
     go_wp2
     go_ret
     exact ⟨by first | rfl | (simp [errW_none, errW_some] <;> rfl) | (simp [*, errW_none, errW_some] <;> rfl), by repeat (first | (with_reducible first | exact HB.out | apply below_alloc | apply pw_below_drewN | apply below_drew1) | exact HB.out)⟩

def laws_szRadix.f (k : Nat) (l0_0 : List (S80)) (a1 : Int) : Option (Int) := (laws_szEdgeS.f k l0_0 a1).bind fun t557 => (if t557 < 0 then (some (-1)) else (some t557))
set_option maxHeartbeats 8000000 in
set_option maxRecDepth 100000 in
theorem laws_szRadix.calls (k : Nat) (A0_0 : Option Addr) (c0_0 : Nat) (l0_0 : List (S80)) (a1 : Int) (r : Int) (w : World) (hr0_0 : Kd.C k80 w A0_0 l0_0.length l0_0) (hc0_0 : l0_0.length ≤ c0_0) (h : laws_szRadix.f k l0_0 a1 = some r) :
  Calls Try.prog 20 #[.agg #[.slice A0_0 l0_0.length c0_0], .int .i64 a1] w fun e w' => e = .returned (.int .i64 r) ∧ Below w.heap.size w w' := by
 have hu36 := Try.underlying36
 have HR0_0 := aM hr0_0
 have HC0_0 := aM hc0_0
 clear hr0_0 hc0_0
 have HB := aM (Below.refl w.heap.size w)
 have H : ((laws_szEdgeS.f k l0_0 a1).bind fun t557 => (if t557 < 0 then (some (-1)) else (some t557))) = some r := h
 clear h
 replace H := Option.bind_eq_some_iff.mp H
 obtain ⟨t557, A30, H⟩ := H
 replace H : (if t557 < 0 then (some (-1)) else (some t557)) = some r := H
 have A3 := aM A30
 clear A30
 by_cases c4 : t557 < 0
 ·
  rw [if_pos c4] at H
  have c4b0 : decide (t557 < 0) = true := decide_eq_true c4
  clear c4
  obtain rfl := Option.some.inj H
  go_enter Try.func20, Try.ntmps20
  go_wp2_with (first | ((with_reducible refine gate_dst (N := 2) rfl ?_); refine box_event ?hg (N := 2) ?hd (cs := #[.slice A0_0 l0_0.length c0_0]) (t := 36) ?hr ?_; (case hd => rfl); (case hg => rfl); (case hr => first | (go_simp; done) | (go_simp; rfl)); intro gb556 hg w5 hbox hb; have n0_ := aM (below_step (by repeat (first | (with_reducible first | exact HB.out | apply below_alloc | apply pw_below_drewN | apply below_drew1) | exact HB.out)) hb); have n1_ := aM (hbox); have n2_ := aM ((by rw [hg]; exact (below_size (by repeat (first | (with_reducible first | exact HB.out | apply below_alloc | apply pw_below_drewN | apply below_drew1) | exact HB.out))) : w.heap.size ≤ gb556)); have n3_ := aM ((by rw [hg]; exact (below_size (by repeat (first | (with_reducible first | exact HB.out | apply below_alloc | apply pw_below_drewN | apply below_drew1) | exact HB.out))) : w.heap.size ≤ gb556)); clear HB; have HB := n0_; have BK556 := n1_; have GW556 := n2_; have GE556 := n3_; clear n0_ n1_ n2_ n3_; clear hb hbox hg; have hcz6_0 : w5.cell? ⟨gb556, 0, none⟩ = some (.slice A0_0 l0_0.length c0_0) := (blk_cell BK556.out 0).trans rfl; have hfz6_0 := blk_frozen BK556.out 0) | ((with_reducible refine gate_callee (f := 51) rfl ?_); refine goesL_ (some 8) rfl rfl Try.func51 (by kernel_rfl) rfl #[.slice A0_0 l0_0.length c0_0, .int .i64 a1] rfl (by (try simp only [List.map_toArray, List.map_cons, List.map_nil]); first | done | rfl | (simp only [List.length_drop, List.length_take]; rfl)) ?_; (with_reducible refine (laws_szEdgeS.calls k _ _ l0_0 a1 t557 _ ?side1 ?side2 A3.out).mono ?_); (case side1 => repeat (first | exact (Kd.C_below HR0_0.out HB.out) | (with_reducible refine Kd.C_alloc ?_ _) | (with_reducible refine Kd.C_drewN ?_ _) | (with_reducible refine Kd.C_drew ?_))); (case side2 => exact HC0_0.out); rintro e w7 ⟨rfl, hb⟩; refine ⟨_, rfl, ?_⟩; have n0_ := aM (blk_below (g := gb556) (o := .cells #[.slice A0_0 l0_0.length c0_0] 36 (0, 0)) (by (with_reducible repeat (first | refine blk_drewN ?_ _ | refine blk_drew ?_ | refine blk_alloc ?_ _)); exact BK556.out) hb); have n1_ := aM (below_step (by repeat (first | (with_reducible first | exact HB.out | apply below_alloc | apply pw_below_drewN | apply below_drew1 | refine below_set ?_ GE556.out) | exact HB.out)) hb); clear BK556; clear HB; have BK556 := n0_; have HB := n1_; clear n0_ n1_; (try clear hb); (try clear hb2); (try clear hk); (try clear hi)))
  go_ret
  exact ⟨by first | rfl | (simp [errW_none, errW_some] <;> rfl) | (simp [*, errW_none, errW_some] <;> rfl), by repeat (first | (with_reducible first | exact HB.out | apply below_alloc | apply pw_below_drewN | apply below_drew1 | refine below_set ?_ GE556.out) | exact HB.out)⟩
 ·
  rw [if_neg c4] at H
  have c4b0 : decide (t557 < 0) = false := decide_eq_false c4
  clear c4
  obtain rfl := Option.some.inj H
  go_enter Try.func20, Try.ntmps20
  go_wp2_with (first | ((with_reducible refine gate_dst (N := 2) rfl ?_); refine box_event ?hg (N := 2) ?hd (cs := #[.slice A0_0 l0_0.length c0_0]) (t := 36) ?hr ?_; (case hd => rfl); (case hg => rfl); (case hr => first | (go_simp; done) | (go_simp; rfl)); intro gb556 hg w8 hbox hb; have n0_ := aM (below_step (by repeat (first | (with_reducible first | exact HB.out | apply below_alloc | apply pw_below_drewN | apply below_drew1) | exact HB.out)) hb); have n1_ := aM (hbox); have n2_ := aM ((by rw [hg]; exact (below_size (by repeat (first | (with_reducible first | exact HB.out | apply below_alloc | apply pw_below_drewN | apply below_drew1) | exact HB.out))) : w.heap.size ≤ gb556)); have n3_ := aM ((by rw [hg]; exact (below_size (by repeat (first | (with_reducible first | exact HB.out | apply below_alloc | apply pw_below_drewN | apply below_drew1) | exact HB.out))) : w.heap.size ≤ gb556)); clear HB; have HB := n0_; have BK556 := n1_; have GW556 := n2_; have GE556 := n3_; clear n0_ n1_ n2_ n3_; clear hb hbox hg; have hcz9_0 : w8.cell? ⟨gb556, 0, none⟩ = some (.slice A0_0 l0_0.length c0_0) := (blk_cell BK556.out 0).trans rfl; have hfz9_0 := blk_frozen BK556.out 0) | ((with_reducible refine gate_callee (f := 51) rfl ?_); refine goesL_ (some 8) rfl rfl Try.func51 (by kernel_rfl) rfl #[.slice A0_0 l0_0.length c0_0, .int .i64 a1] rfl (by (try simp only [List.map_toArray, List.map_cons, List.map_nil]); first | done | rfl | (simp only [List.length_drop, List.length_take]; rfl)) ?_; (with_reducible refine (laws_szEdgeS.calls k _ _ l0_0 a1 t557 _ ?side1 ?side2 A3.out).mono ?_); (case side1 => repeat (first | exact (Kd.C_below HR0_0.out HB.out) | (with_reducible refine Kd.C_alloc ?_ _) | (with_reducible refine Kd.C_drewN ?_ _) | (with_reducible refine Kd.C_drew ?_))); (case side2 => exact HC0_0.out); rintro e w10 ⟨rfl, hb⟩; refine ⟨_, rfl, ?_⟩; have n0_ := aM (blk_below (g := gb556) (o := .cells #[.slice A0_0 l0_0.length c0_0] 36 (0, 0)) (by (with_reducible repeat (first | refine blk_drewN ?_ _ | refine blk_drew ?_ | refine blk_alloc ?_ _)); exact BK556.out) hb); have n1_ := aM (below_step (by repeat (first | (with_reducible first | exact HB.out | apply below_alloc | apply pw_below_drewN | apply below_drew1 | refine below_set ?_ GE556.out) | exact HB.out)) hb); clear BK556; clear HB; have BK556 := n0_; have HB := n1_; clear n0_ n1_; (try clear hb); (try clear hb2); (try clear hk); (try clear hi)))
  go_ret
  exact ⟨by first | rfl | (simp [errW_none, errW_some] <;> rfl) | (simp [*, errW_none, errW_some] <;> rfl), by repeat (first | (with_reducible first | exact HB.out | apply below_alloc | apply pw_below_drewN | apply below_drew1 | refine below_set ?_ GE556.out) | exact HB.out)⟩

def laws_toEdge.f (a0_0 : ByteArray) (a0_1 : Bool) (a0_2 : Int) : Option (ByteArray × Bool × Int) := some (a0_0, a0_1, a0_2)
set_option maxHeartbeats 8000000 in
set_option maxRecDepth 100000 in
theorem laws_toEdge.calls (a0_0 : ByteArray) (a0_1 : Bool) (a0_2 : Int) (r1 : ByteArray) (r2 : Bool) (r3 : Int) (w : World) (h : laws_toEdge.f a0_0 a0_1 a0_2 = some (r1, r2, r3)) :
  Calls Try.prog 77 #[.agg #[.string a0_0, .bool a0_1, .int .i64 a0_2]] w fun e w' => e = .returned (.agg #[.string r1, .bool r2, .int .i64 r3]) ∧ Below w.heap.size w w' := by
 have hu80 := Try.underlying80
 have hu64 := Try.underlying64
 have HB := aM (Below.refl w.heap.size w)
 have H : (some (a0_0, a0_1, a0_2)) = some (r1, r2, r3) := h
 clear h
 simp only [Option.some.injEq, Prod.mk.injEq] at H
 obtain ⟨rfl, rfl, rfl⟩ := H
 go_enter Try.func77, Try.ntmps77
 go_wp2_with (first | ((with_reducible refine gate_dst (N := 1) rfl ?_); refine box_event ?hg (N := 1) ?hd (cs := #[.string a0_0, .bool a0_1, .int .i64 a0_2]) (t := 80) ?hr ?_; (case hd => rfl); (case hg => rfl); (case hr => first | (go_simp; done) | (go_simp; rfl)); intro gb558 hg w2 hbox hb; have n0_ := aM (below_step (by repeat (first | (with_reducible first | exact HB.out | apply below_alloc | apply pw_below_drewN | apply below_drew1) | exact HB.out)) hb); have n1_ := aM (hbox); have n2_ := aM ((by rw [hg]; exact (below_size (by repeat (first | (with_reducible first | exact HB.out | apply below_alloc | apply pw_below_drewN | apply below_drew1) | exact HB.out))) : w.heap.size ≤ gb558)); have n3_ := aM ((by rw [hg]; exact (below_size (by repeat (first | (with_reducible first | exact HB.out | apply below_alloc | apply pw_below_drewN | apply below_drew1) | exact HB.out))) : w.heap.size ≤ gb558)); clear HB; have HB := n0_; have BK558 := n1_; have GW558 := n2_; have GE558 := n3_; clear n0_ n1_ n2_ n3_; clear hb hbox hg) | ((with_reducible refine gate_dst (N := 2) rfl ?_); refine box_event ?hg (N := 2) ?hd (cs := #[.string (⟨#[]⟩ : ByteArray), .bool false, .int .i64 0]) (t := 64) ?hr ?_; (case hd => rfl); (case hg => rfl); (case hr => first | (go_simp; done) | (go_simp; rfl)); intro gb559 hg w3 hbox hb; have n0_ := aM (blk_below (g := gb558) (o := .cells #[.string a0_0, .bool a0_1, .int .i64 a0_2] 80 (0, 0)) (by (with_reducible repeat (first | refine blk_drewN ?_ _ | refine blk_drew ?_ | refine blk_alloc ?_ _)); exact BK558.out) hb); have n1_ := aM (below_step (by repeat (first | (with_reducible first | exact HB.out | apply below_alloc | apply pw_below_drewN | apply below_drew1 | refine below_set ?_ GE558.out) | exact HB.out)) hb); have n2_ := aM (hbox); have n3_ := aM ((by rw [hg]; exact (below_size (by repeat (first | (with_reducible first | exact HB.out | apply below_alloc | apply pw_below_drewN | apply below_drew1 | refine below_set ?_ GE558.out) | exact HB.out))) : w.heap.size ≤ gb559)); have n4_ := aM ((by rw [hg]; exact (below_size (by repeat (first | (with_reducible first | exact HB.out | apply below_alloc | apply pw_below_drewN | apply below_drew1 | refine below_set ?_ GE558.out) | exact HB.out))) : w.heap.size ≤ gb559)); have n5_ := aM ((by rw [hg]; exact Nat.ne_of_lt (blk_lt (g := gb558) (o := .cells #[.string a0_0, .bool a0_1, .int .i64 a0_2] 80 (0, 0)) (by (with_reducible repeat (first | refine blk_drewN ?_ _ | refine blk_drew ?_ | refine blk_alloc ?_ _)); exact BK558.out)) : gb558 ≠ gb559)); have n6_ := aM ((by rw [hg]; exact Nat.ne_of_gt (blk_lt (g := gb558) (o := .cells #[.string a0_0, .bool a0_1, .int .i64 a0_2] 80 (0, 0)) (by (with_reducible repeat (first | refine blk_drewN ?_ _ | refine blk_drew ?_ | refine blk_alloc ?_ _)); exact BK558.out)) : gb559 ≠ gb558)); clear BK558; clear HB; have BK558 := n0_; have HB := n1_; have BK559 := n2_; have GW559 := n3_; have GE559 := n4_; have NB558_559 := n5_; have NB559_558 := n6_; clear n0_ n1_ n2_ n3_ n4_ n5_ n6_; clear hb hbox hg) | ((with_reducible refine gate_dst (N := 3) rfl ?_); refine box_event ?hg (N := 3) ?hd (cs := #[.string (⟨#[]⟩ : ByteArray), .bool false, .int .i64 0]) (t := 64) ?hr ?_; (case hd => rfl); (case hg => rfl); (case hr => first | (go_simp; done) | (go_simp; rfl)); intro gb560 hg w4 hbox hb; have n0_ := aM (blk_below (g := gb558) (o := .cells #[.string a0_0, .bool a0_1, .int .i64 a0_2] 80 (0, 0)) (by (with_reducible repeat (first | refine blk_drewN ?_ _ | refine blk_drew ?_ | refine blk_alloc ?_ _)); exact BK558.out) hb); have n1_ := aM (blk_below (g := gb559) (o := .cells #[.string (⟨#[]⟩ : ByteArray), .bool false, .int .i64 0] 64 (0, 0)) (by (with_reducible repeat (first | refine blk_drewN ?_ _ | refine blk_drew ?_ | refine blk_alloc ?_ _)); exact BK559.out) hb); have n2_ := aM (below_step (by repeat (first | (with_reducible first | exact HB.out | apply below_alloc | apply pw_below_drewN | apply below_drew1 | refine below_set ?_ GE558.out | refine below_set ?_ GE559.out) | exact HB.out)) hb); have n3_ := aM (hbox); have n4_ := aM ((by rw [hg]; exact (below_size (by repeat (first | (with_reducible first | exact HB.out | apply below_alloc | apply pw_below_drewN | apply below_drew1 | refine below_set ?_ GE558.out | refine below_set ?_ GE559.out) | exact HB.out))) : w.heap.size ≤ gb560)); have n5_ := aM ((by rw [hg]; exact (below_size (by repeat (first | (with_reducible first | exact HB.out | apply below_alloc | apply pw_below_drewN | apply below_drew1 | refine below_set ?_ GE558.out | refine below_set ?_ GE559.out) | exact HB.out))) : w.heap.size ≤ gb560)); have n6_ := aM ((by rw [hg]; exact Nat.ne_of_lt (blk_lt (g := gb558) (o := .cells #[.string a0_0, .bool a0_1, .int .i64 a0_2] 80 (0, 0)) (by (with_reducible repeat (first | refine blk_drewN ?_ _ | refine blk_drew ?_ | refine blk_alloc ?_ _)); exact BK558.out)) : gb558 ≠ gb560)); have n7_ := aM ((by rw [hg]; exact Nat.ne_of_gt (blk_lt (g := gb558) (o := .cells #[.string a0_0, .bool a0_1, .int .i64 a0_2] 80 (0, 0)) (by (with_reducible repeat (first | refine blk_drewN ?_ _ | refine blk_drew ?_ | refine blk_alloc ?_ _)); exact BK558.out)) : gb560 ≠ gb558)); have n8_ := aM ((by rw [hg]; exact Nat.ne_of_lt (blk_lt (g := gb559) (o := .cells #[.string (⟨#[]⟩ : ByteArray), .bool false, .int .i64 0] 64 (0, 0)) (by (with_reducible repeat (first | refine blk_drewN ?_ _ | refine blk_drew ?_ | refine blk_alloc ?_ _)); exact BK559.out)) : gb559 ≠ gb560)); have n9_ := aM ((by rw [hg]; exact Nat.ne_of_gt (blk_lt (g := gb559) (o := .cells #[.string (⟨#[]⟩ : ByteArray), .bool false, .int .i64 0] 64 (0, 0)) (by (with_reducible repeat (first | refine blk_drewN ?_ _ | refine blk_drew ?_ | refine blk_alloc ?_ _)); exact BK559.out)) : gb560 ≠ gb559)); clear BK558; clear BK559; clear HB; have BK558 := n0_; have BK559 := n1_; have HB := n2_; have BK560 := n3_; have GW560 := n4_; have GE560 := n5_; have NB558_560 := n6_; have NB560_558 := n7_; have NB559_560 := n8_; have NB560_559 := n9_; clear n0_ n1_ n2_ n3_ n4_ n5_ n6_ n7_ n8_ n9_; clear hb hbox hg; have hnb5 := NB558_559.out; have hnc5 := NB559_558.out; have hnb6 := NB558_560.out; have hnc6 := NB560_558.out; have hcz7_0 : w4.cell? ⟨gb558, 0, none⟩ = some (.string a0_0) := (blk_cell BK558.out 0).trans rfl; have hcz7_1 : w4.cell? ⟨gb558, 1, none⟩ = some (.bool a0_1) := (blk_cell BK558.out 1).trans rfl; have hcz7_2 : w4.cell? ⟨gb558, 2, none⟩ = some (.int .i64 a0_2) := (blk_cell BK558.out 2).trans rfl; have hfz7_0 := blk_frozen BK558.out 0; have hfz7_1 := blk_frozen BK558.out 1; have hfz7_2 := blk_frozen BK558.out 2; have hnb8 := NB560_559.out; have hnc8 := NB559_560.out; have hcz9_0 : w4.cell? ⟨gb560, 0, none⟩ = some (.string (⟨#[]⟩ : ByteArray)) := (blk_cell BK560.out 0).trans rfl; have hcz9_1 : w4.cell? ⟨gb560, 1, none⟩ = some (.bool false) := (blk_cell BK560.out 1).trans rfl; have hcz9_2 : w4.cell? ⟨gb560, 2, none⟩ = some (.int .i64 0) := (blk_cell BK560.out 2).trans rfl; have hfz9_0 := blk_frozen BK560.out 0; have hfz9_1 := blk_frozen BK560.out 1; have hfz9_2 := blk_frozen BK560.out 2; have hcz10_0 : w4.cell? ⟨gb559, 0, none⟩ = some (.string (⟨#[]⟩ : ByteArray)) := (blk_cell BK559.out 0).trans rfl; have hcz10_1 : w4.cell? ⟨gb559, 1, none⟩ = some (.bool false) := (blk_cell BK559.out 1).trans rfl; have hcz10_2 : w4.cell? ⟨gb559, 2, none⟩ = some (.int .i64 0) := (blk_cell BK559.out 2).trans rfl; have hfz10_0 := blk_frozen BK559.out 0; have hfz10_1 := blk_frozen BK559.out 1; have hfz10_2 := blk_frozen BK559.out 2))
 refine bodyPost_ret (results_cell_row rfl _ _ gb559 64 #[.string a0_0, .bool a0_1, .int .i64 a0_2] (0, 0) _ rfl (by (with_reducible repeat (first | refine blk_drewN ?_ _ | refine blk_drew ?_ | refine blk_alloc ?_ _)); refine blk_put (cs := #[.string a0_0, .bool a0_1, .int .i64 0]) ?_ 2 _ rfl; (with_reducible repeat (first | refine blk_drewN ?_ _ | refine blk_drew ?_ | refine blk_alloc ?_ _)); refine blk_put (cs := #[.string a0_0, .bool false, .int .i64 0]) ?_ 1 _ rfl; (with_reducible repeat (first | refine blk_drewN ?_ _ | refine blk_drew ?_ | refine blk_alloc ?_ _)); refine blk_put (cs := #[.string (⟨#[]⟩ : ByteArray), .bool false, .int .i64 0]) ?_ 0 _ rfl; (with_reducible repeat (first | refine blk_drewN ?_ _ | refine blk_drew ?_ | refine blk_alloc ?_ _)); refine blk_far ?_ NB559_560.out _; (with_reducible repeat (first | refine blk_drewN ?_ _ | refine blk_drew ?_ | refine blk_alloc ?_ _)); refine blk_far ?_ NB559_560.out _; (with_reducible repeat (first | refine blk_drewN ?_ _ | refine blk_drew ?_ | refine blk_alloc ?_ _)); refine blk_far ?_ NB559_560.out _; (with_reducible repeat (first | refine blk_drewN ?_ _ | refine blk_drew ?_ | refine blk_alloc ?_ _)); exact BK559.out) Try.underlying64 rfl (by kernel_rfl)) rfl ?_
 exact ⟨by first | rfl | (simp [errW_none, errW_some] <;> rfl) | (simp [*, errW_none, errW_some] <;> rfl), by repeat (first | (with_reducible first | exact HB.out | apply below_alloc | apply pw_below_drewN | apply below_drew1 | refine below_set ?_ GE558.out | refine below_set ?_ GE559.out | refine below_set ?_ GE560.out) | exact HB.out)⟩

def laws_toEdgeS.l0 : Nat → List (S80) → List (S64) → Int → Option ((List (S64)))
 | 0, _, _, _ => none
 | k + 1, x0, x3, x4 => if x4 < (x0.length : Int) then (if 0 ≤ x4 then ((laws_toEdge.f ((rd_T80 x0 x4).f0) ((rd_T80 x0 x4).f1) ((rd_T80 x0 x4).f2)).bind fun bt565 => (if x4 < (x3.length : Int) then (laws_toEdgeS.l0 k x0 (x3.set (x4 : Int).toNat (⟨bt565.1, bt565.2.1, bt565.2.2⟩ : S64)) (wrap64 (x4 + 1))) else (none))) else (none)) else (some x3)
def laws_toEdgeS.f (k : Nat) (l0 : List (S80)) : Option ((List (S64))) := if 0 ≤ (l0.length : Int) then (if ((l0.length : Int) : Int).toNat ≤ 8796093022208 then (laws_toEdgeS.l0 k l0 (List.replicate ((l0.length : Int) : Int).toNat z64) 0) else (none)) else (none)
set_option maxHeartbeats 8000000 in
set_option maxRecDepth 100000 in
theorem laws_toEdgeS.calls (k : Nat) (A0 : Option Addr) (c0 : Nat) (l0 : List (S80)) (r : List (S64)) (w : World) (hr0 : Kd.C k80 w A0 l0.length l0) (hc0 : l0.length ≤ c0) (h : laws_toEdgeS.f k l0 = some r) :
  Calls Try.prog 53 #[.slice A0 l0.length c0] w fun e w' => ∃ v0_ : Value, e = .returned (v0_) ∧ Kd.R k64 64 w' w.heap.size (fun _ => True) v0_ r ∧ Below w.heap.size w w' := by
 have hu80 := Try.underlying80
 have hu64 := Try.underlying64
 have HR0 := aM hr0
 have HC0 := aM hc0
 clear hr0 hc0
 have HB := aM (Below.refl w.heap.size w)
 have H : (if 0 ≤ (l0.length : Int) then (if ((l0.length : Int) : Int).toNat ≤ 8796093022208 then (laws_toEdgeS.l0 k l0 (List.replicate ((l0.length : Int) : Int).toNat z64) 0) else (none)) else (none)) = some r := h
 clear h
 by_cases c2 : 0 ≤ (l0.length : Int)
 ·
  rw [if_pos c2] at H
  have c2b0 := eq_true c2
  have c2b1 : decide (0 ≤ (l0.length : Int)) = true := decide_eq_true c2
  clear c2
  by_cases c3 : ((l0.length : Int) : Int).toNat ≤ 8796093022208
  ·
   rw [if_pos c3] at H
   have c3b0 := eq_true c3
   have c3b1 : decide (((l0.length : Int) : Int).toNat ≤ 8796093022208) = true := decide_eq_true c3
   clear c3
   obtain ⟨y561, hy561⟩ : ∃ y_ : List (S64), y_ = (List.replicate ((l0.length : Int) : Int).toNat z64) := ⟨_, rfl⟩
   replace H : (laws_toEdgeS.l0 k l0 y561 0) = some r := by first | (rw [hy561]; with_reducible exact H) | (have H2_ := (Option.bind_some _ _).symm.trans H; rw [hy561]; with_reducible exact H2_) | (have H2_ := (Option.bind_some _ _).symm.trans H; with_reducible exact H2_) | with_reducible exact H | (rw [hy561]; exact H) | exact H
   have Ny561 := aM hy561
   clear hy561
   have H' := aM H
   clear H
   go_enter Try.func53, Try.ntmps53
   go_wp2_with (first | ((with_reducible refine gate_dst (N := 7) rfl ?_); refine Kd.R_make k64 _ 64 rfl (N := 7) rfl 24 _ _ rfl (l0.length : Int) rfl rfl Try.underlying24 (.agg #[(.string ⟨#[]⟩), (.bool false), (.int .i64 0)]) 32 info64 rfl (by decide) (by omega) z64 (ok := fun _ => True) (okp := fun _ => True) (k64_mkM _ _ _ z64 ) (fun _ hk => hk) trivial (of_decide_eq_true (by first | (with_reducible assumption) | assumption)) (Nat.le_trans (Nat.mul_le_mul_right _ (of_decide_eq_true (by first | (with_reducible assumption) | assumption) : (l0.length : Int).toNat ≤ 8796093022208)) (by omega)) (Below.refl _ _) (Nat.le_refl _) ?_; intro v562 w4 ho5 hb hg_ hnew_; clear hg_ hnew_; (first | rw [← Ny561.out] at ho5 | (simp only [Int.reduceToNat] at ho5; rw [← Ny561.out] at ho5)); have n0_ := aM (Kd.R_lower ho5 (below_size (by repeat (first | (with_reducible first | exact HB.out | apply below_alloc | apply pw_below_drewN | apply below_drew1) | exact HB.out)))); have n1_ := aM (below_step (by repeat (first | (with_reducible first | exact HB.out | apply below_alloc | apply pw_below_drewN | apply below_drew1) | exact HB.out)) hb); clear HB; have HO563 := n0_; have HB := n1_; clear n0_ n1_; clear hb ho5))
   go_loopg [4] k (fun kq v4 w' => ∃ (x3_1 : List (S64)) (x4_1 : Int), v4 = .int .i64 x4_1 ∧ Aside0 (laws_toEdgeS.l0 kq l0 x3_1 x4_1 = some r) ∧ Aside0 (kq ≤ k) ∧ Aside0 (Kd.R k64 64 w' w.heap.size (fun _ => True) v562 x3_1) ∧ Aside0 (Below w.heap.size w w'))
   case atStart => exact ⟨(y561), (0), (by first | rfl | (simp; done) | (simp [*]; done)), H', ⟨Nat.le_refl _⟩, ⟨by (with_reducible repeat (first | apply Kd.R_alloc | apply Kd.R_drewN | apply Kd.R_drew)); exact HO563.out⟩, ⟨by repeat (first | (with_reducible first | exact HB.out | apply below_alloc | apply pw_below_drewN | apply below_drew1) | exact HB.out)⟩⟩
   case round =>
    clear H'
    try clear c2
    try clear c2b0
    try clear c2b1
    try clear p2
    try clear c3
    try clear c3b0
    try clear c3b1
    try clear c5
    obtain ⟨x3_1, x4_1, rfl, HA, HK1, HO_3, HB⟩ := hrel
    cases gk with
    | zero => exact absurd HA.out (by simp [laws_toEdgeS.l0])
    | succ k1 =>
     have H := HA.out
     clear HA
     simp only [laws_toEdgeS.l0] at H
     by_cases c6 : x4_1 < (l0.length : Int)
     ·
      rw [if_pos c6] at H
      have c6b0 : decide (x4_1 < (l0.length : Int)) = true := decide_eq_true c6
      clear c6
      by_cases c7 : 0 ≤ x4_1
      ·
       rw [if_pos c7] at H
       have c7b0 : decide (0 ≤ x4_1) = true := decide_eq_true c7
       clear c7
       replace H := Option.bind_eq_some_iff.mp H
       obtain ⟨⟨t565, t566, t567⟩, A80, H⟩ := H
       replace H : (if x4_1 < (x3_1.length : Int) then (laws_toEdgeS.l0 k1 l0 (x3_1.set (x4_1 : Int).toNat (⟨t565, t566, t567⟩ : S64)) (wrap64 (x4_1 + 1))) else (none)) = some r := H
       have A8 := aM A80
       clear A80
       by_cases c9 : x4_1 < (x3_1.length : Int)
       ·
        rw [if_pos c9] at H
        have c9b0 : decide (x4_1 < (x3_1.length : Int)) = true := decide_eq_true c9
        clear c9
        obtain ⟨y568, hy568⟩ : ∃ y_ : List (S64), y_ = (x3_1.set (x4_1 : Int).toNat (⟨t565, t566, t567⟩ : S64)) := ⟨_, rfl⟩
        replace H : (laws_toEdgeS.l0 k1 l0 y568 (wrap64 (x4_1 + 1))) = some r := by first | (rw [hy568]; with_reducible exact H) | (have H2_ := (Option.bind_some _ _).symm.trans H; rw [hy568]; with_reducible exact H2_) | (have H2_ := (Option.bind_some _ _).symm.trans H; with_reducible exact H2_) | with_reducible exact H | (rw [hy568]; exact H) | exact H
        have Ny568 := aM hy568
        clear hy568
        have H' := aM H
        clear H
        have p564 : 0 ≤ (x4_1 : Int) := of_decide_eq_true (by first | (with_reducible assumption) | assumption)
        have q564 : x4_1 < (l0.length : Int) := of_decide_eq_true (by first | (with_reducible assumption) | assumption)
        obtain ⟨ad564, e564, hx564_0, hx564_1, hx564_2⟩ := at_T80 HR0.out x4_1 p564 q564
        cases e564
        try have hz_hx564_0 := aM hx564_0
        try have hz_hx564_1 := aM hx564_1
        try have hz_hx564_2 := aM hx564_2
        replace hx564_0 := (HB.out.cell (World.block_lt_of_cell? w _ hx564_0)).trans hx564_0
        replace hx564_1 := (HB.out.cell (World.block_lt_of_cell? w _ hx564_1)).trans hx564_1
        replace hx564_2 := (HB.out.cell (World.block_lt_of_cell? w _ hx564_2)).trans hx564_2
        replace p564 := eq_true p564
        replace q564 := eq_true q564
        go_wp2_with (first | ((with_reducible refine gate_callee (f := 77) rfl ?_); refine goesL_ (some 20) rfl rfl Try.func77 (by kernel_rfl) rfl #[.agg #[.string ((rd_T80 l0 x4_1).f0), .bool ((rd_T80 l0 x4_1).f1), .int .i64 ((rd_T80 l0 x4_1).f2)]] rfl (by (try simp only [List.map_toArray, List.map_cons, List.map_nil]); first | done | rfl | (simp only [List.length_drop, List.length_take]; rfl)) ?_; (with_reducible refine (laws_toEdge.calls ((rd_T80 l0 x4_1).f0) ((rd_T80 l0 x4_1).f1) ((rd_T80 l0 x4_1).f2) t565 t566 t567 _ A8.out).mono ?_); rintro e w11 ⟨rfl, hb⟩; refine ⟨_, rfl, ?_⟩; have n0_ := aM (Kd.R_below (by (with_reducible repeat (first | apply Kd.R_alloc | apply Kd.R_drewN | apply Kd.R_drew)); exact HO_3.out) hb); have n1_ := aM (below_step (by repeat (first | (with_reducible first | exact HB.out | apply below_alloc | apply pw_below_drewN | apply below_drew1) | exact HB.out)) hb); clear HO_3; clear HB; have HO_3 := n0_; have HB := n1_; clear n0_ n1_; (try clear hb); (try clear hb2); (try clear hk); (try clear hi); have p10 : 0 ≤ (x4_1 : Int) := of_decide_eq_true (by first | (with_reducible assumption) | assumption); have q10 : (x4_1 : Int) < ((x3_1.length : Int) : Int) := of_decide_eq_true (by first | (with_reducible assumption) | assumption); obtain ⟨go10, co10, eo10, gb10, gl10, cl10, HG10⟩ := Kd.R_form HO_3.out (by omega); (first | cases eo10 | (injection eo10 with ea_ en_ ec_; (first | subst ea_ | (injection ea_ with ea_; subst ea_)); subst ec_; clear en_)); have GB10 := aM gb10; have GG10 := aM HG10; clear gb10 gl10 HG10; obtain ⟨ce10, hcl10, hM10, hcc10, hfr10⟩ := Kd.R_elem HO_3.out z64 (x4_1 : Int) p10 q10; obtain rfl := k64_openM hM10; have hx10_0 : w11.cell? ⟨go10, (x4_1 : Int).toNat * 3, none⟩ = some (.string ((rd_T64 x3_1 x4_1).f0)) := hcc10 0 _ rfl; have hx10_1 : w11.cell? ⟨go10, (x4_1 : Int).toNat * 3 + 1, none⟩ = some (.bool ((rd_T64 x3_1 x4_1).f1)) := hcc10 1 _ rfl; have hx10_2 : w11.cell? ⟨go10, (x4_1 : Int).toNat * 3 + 2, none⟩ = some (.int .i64 ((rd_T64 x3_1 x4_1).f2)) := hcc10 2 _ rfl; have hf10_0 : w11.frozen? ⟨go10, (x4_1 : Int).toNat * 3, none⟩ = false := hfr10 0; have hf10_1 : w11.frozen? ⟨go10, (x4_1 : Int).toNat * 3 + 1, none⟩ = false := hfr10 1; have hf10_2 : w11.frozen? ⟨go10, (x4_1 : Int).toNat * 3 + 2, none⟩ = false := hfr10 2; clear hcl10 hcc10 hfr10 hM10; replace p10 := eq_true p10; replace q10 := eq_true q10; have HX12 := aM (show Kd.R k64 64 w11 w.heap.size (fun _ => True) (.slice (some ⟨go10, 0, none⟩) x3_1.length co10) x3_1 from (by (with_reducible repeat (first | apply Kd.R_alloc | apply Kd.R_drewN | apply Kd.R_drew)); exact HO_3.out)); obtain ⟨ce12, hcl12, hM12, hcc12, hfr12⟩ := Kd.R_elem HX12.out z64 (x4_1 : Int) (of_decide_eq_true (by first | (with_reducible assumption) | assumption)) (by have h_ : (x4_1 : Int) < ((x3_1.length : Int) : Int) := of_decide_eq_true (by first | (with_reducible assumption) | assumption); first | exact h_ | (have e_ := (Kd.R_reads' HO_3.out).1; omega) | simpa using h_); obtain rfl := k64_openM hM12; have HP12 := Kd.R_seg HX12.out (x4_1 : Int) (of_decide_eq_true (by first | (with_reducible assumption) | assumption)) (by have h_ : (x4_1 : Int) < ((x3_1.length : Int) : Int) := of_decide_eq_true (by first | (with_reducible assumption) | assumption); first | exact h_ | (have e_ := (Kd.R_reads' HO_3.out).1; omega) | simpa using h_) (seg := [.string t565, .bool t566, .int .i64 t567]) (j := 0) hcl12 hcc12 (show 3 ≤ 3 from by decide) (x' := (⟨t565, t566, t567⟩ : S64)) (k64_mkM _ _ _ (⟨t565, t566, t567⟩ : S64) ) (fun _ hk => hk); have hx12_0 := hcc12 0 _ rfl; (try simp only [show (k64).sz = 3 from rfl, Nat.mul_one, Nat.add_zero] at hx12_0); have hf12_0 := hfr12 0; (try simp only [show (k64).sz = 3 from rfl, Nat.mul_one, Nat.add_zero] at hf12_0); have hx12_1 := hcc12 1 _ rfl; (try simp only [show (k64).sz = 3 from rfl, Nat.mul_one, Nat.add_zero] at hx12_1); have hf12_1 := hfr12 1; (try simp only [show (k64).sz = 3 from rfl, Nat.mul_one, Nat.add_zero] at hf12_1); have hx12_2 := hcc12 2 _ rfl; (try simp only [show (k64).sz = 3 from rfl, Nat.mul_one, Nat.add_zero] at hx12_2); have hf12_2 := hfr12 2; (try simp only [show (k64).sz = 3 from rfl, Nat.mul_one, Nat.add_zero] at hf12_2); clear hcl12 hcc12 hfr12 hM12) | ((with_reducible refine gate_store (t := 64) (p := 21) rfl ?_); refine store_event (t := 64) (p := 21) (v := ?vo_w13) (w1 := (((w11.setCell ⟨go10, (x4_1 : Int).toNat * 3, none⟩ (.string t565)).setCell ⟨go10, (x4_1 : Int).toNat * 3 + 1, none⟩ (.bool t566)).setCell ⟨go10, (x4_1 : Int).toNat * 3 + 2, none⟩ (.int .i64 t567))) ?hg ?ho ?hn ?hr ?_; (case ho => rfl); (case hg => rfl); (case hn => rfl); (case hr => first | (go_simp; done) | (go_simp; rfl)); intro w13 hw; have hg : w11.grownBy w13 (some go10) := (by rw [hw]; exact HP12.2); have hp_ : Kd.R k64 64 w13 w.heap.size (fun _ => True) (.slice (some ⟨go10, 0, none⟩) x3_1.length co10) y568 := (by rw [hw, Ny568.out]; exact HP12.1); clear HP12; have n0_ := aM (hp_); have n1_ := aM ((by rw [hw]; exact below_set (below_set (below_set (HB.out) GB10.out) GB10.out) GB10.out : Below w.heap.size w w13)); clear HO_3; clear HB; have HO_3 := n0_; have HB := n1_; clear n0_ n1_; clear hg hw hp_))
        go_roundg k1
        case measure => have := HK1.out; omega
        case rel => exact ⟨(y568), (wrap64 (x4_1 + 1)), (by first | rfl | (simp; done) | (simp [*]; done)), H', ⟨by have := HK1.out; omega⟩, ⟨by (with_reducible repeat (first | apply Kd.R_alloc | apply Kd.R_drewN | apply Kd.R_drew)); exact HO_3.out⟩, ⟨by repeat (first | (with_reducible first | exact HB.out | apply below_alloc | apply pw_below_drewN | apply below_drew1) | exact HB.out)⟩⟩
       ·
        rw [if_neg c9] at H
        exact absurd H (by simp)
      ·
       rw [if_neg c7] at H
       exact absurd H (by simp)
     ·
      rw [if_neg c6] at H
      have c6b0 : decide (x4_1 < (l0.length : Int)) = false := decide_eq_false c6
      clear c6
      obtain rfl := Option.some.inj H
      go_wp2
      go_ret
      exact ⟨_, by first | rfl | (simp [errW_none, errW_some] <;> rfl) | (simp [*, errW_none, errW_some] <;> rfl), by (with_reducible repeat (first | apply Kd.R_alloc | apply Kd.R_drewN | apply Kd.R_drew)); exact HO_3.out, by repeat (first | (with_reducible first | exact HB.out | apply below_alloc | apply pw_below_drewN | apply below_drew1) | exact HB.out)⟩
  ·
   rw [if_neg c3] at H
   exact absurd H (by simp)
 ·
  rw [if_neg c2] at H
  exact absurd H (by simp)

def laws_toRadix.f (k : Nat) (l0_0 : List (S80)) : Option ((List (S64))) := (laws_toEdgeS.f k l0_0).bind fun t572 => (some t572)
set_option maxHeartbeats 8000000 in
set_option maxRecDepth 100000 in
theorem laws_toRadix.calls (k : Nat) (A0_0 : Option Addr) (c0_0 : Nat) (l0_0 : List (S80)) (r : List (S64)) (w : World) (hr0_0 : Kd.C k80 w A0_0 l0_0.length l0_0) (hc0_0 : l0_0.length ≤ c0_0) (h : laws_toRadix.f k l0_0 = some r) :
  Calls Try.prog 22 #[.agg #[.slice A0_0 l0_0.length c0_0]] w fun e w' => ∃ v0_ : Value, e = .returned (.agg #[v0_]) ∧ Kd.R k64 64 w' w.heap.size (fun _ => True) v0_ r ∧ Below w.heap.size w w' := by
 have hu36 := Try.underlying36
 have hu26 := Try.underlying26
 have HR0_0 := aM hr0_0
 have HC0_0 := aM hc0_0
 clear hr0_0 hc0_0
 have HB := aM (Below.refl w.heap.size w)
 have H : ((laws_toEdgeS.f k l0_0).bind fun t572 => (some t572)) = some r := h
 clear h
 replace H := Option.bind_eq_some_iff.mp H
 obtain ⟨t572, A20, H⟩ := H
 replace H : (some t572) = some r := H
 have A2 := aM A20
 clear A20
 obtain rfl := Option.some.inj H
 go_enter Try.func22, Try.ntmps22
 go_wp2_with (first | ((with_reducible refine gate_dst (N := 1) rfl ?_); refine box_event ?hg (N := 1) ?hd (cs := #[.slice A0_0 l0_0.length c0_0]) (t := 36) ?hr ?_; (case hd => rfl); (case hg => rfl); (case hr => first | (go_simp; done) | (go_simp; rfl)); intro gb569 hg w3 hbox hb; have n0_ := aM (below_step (by repeat (first | (with_reducible first | exact HB.out | apply below_alloc | apply pw_below_drewN | apply below_drew1) | exact HB.out)) hb); have n1_ := aM (hbox); have n2_ := aM ((by rw [hg]; exact (below_size (by repeat (first | (with_reducible first | exact HB.out | apply below_alloc | apply pw_below_drewN | apply below_drew1) | exact HB.out))) : w.heap.size ≤ gb569)); have n3_ := aM ((by rw [hg]; exact (below_size (by repeat (first | (with_reducible first | exact HB.out | apply below_alloc | apply pw_below_drewN | apply below_drew1) | exact HB.out))) : w.heap.size ≤ gb569)); clear HB; have HB := n0_; have BK569 := n1_; have GW569 := n2_; have GE569 := n3_; clear n0_ n1_ n2_ n3_; clear hb hbox hg) | ((with_reducible refine gate_dst (N := 2) rfl ?_); refine box_event ?hg (N := 2) ?hd (cs := #[.slice none 0 0]) (t := 26) ?hr ?_; (case hd => rfl); (case hg => rfl); (case hr => first | (go_simp; done) | (go_simp; rfl)); intro gb570 hg w4 hbox hb; have n0_ := aM (blk_below (g := gb569) (o := .cells #[.slice A0_0 l0_0.length c0_0] 36 (0, 0)) (by (with_reducible repeat (first | refine blk_drewN ?_ _ | refine blk_drew ?_ | refine blk_alloc ?_ _)); exact BK569.out) hb); have n1_ := aM (below_step (by repeat (first | (with_reducible first | exact HB.out | apply below_alloc | apply pw_below_drewN | apply below_drew1 | refine below_set ?_ GE569.out) | exact HB.out)) hb); have n2_ := aM (hbox); have n3_ := aM ((by rw [hg]; exact (below_size (by repeat (first | (with_reducible first | exact HB.out | apply below_alloc | apply pw_below_drewN | apply below_drew1 | refine below_set ?_ GE569.out) | exact HB.out))) : w.heap.size ≤ gb570)); have n4_ := aM ((by rw [hg]; exact (below_size (by repeat (first | (with_reducible first | exact HB.out | apply below_alloc | apply pw_below_drewN | apply below_drew1 | refine below_set ?_ GE569.out) | exact HB.out))) : w.heap.size ≤ gb570)); have n5_ := aM ((by rw [hg]; exact Nat.ne_of_lt (blk_lt (g := gb569) (o := .cells #[.slice A0_0 l0_0.length c0_0] 36 (0, 0)) (by (with_reducible repeat (first | refine blk_drewN ?_ _ | refine blk_drew ?_ | refine blk_alloc ?_ _)); exact BK569.out)) : gb569 ≠ gb570)); have n6_ := aM ((by rw [hg]; exact Nat.ne_of_gt (blk_lt (g := gb569) (o := .cells #[.slice A0_0 l0_0.length c0_0] 36 (0, 0)) (by (with_reducible repeat (first | refine blk_drewN ?_ _ | refine blk_drew ?_ | refine blk_alloc ?_ _)); exact BK569.out)) : gb570 ≠ gb569)); clear BK569; clear HB; have BK569 := n0_; have HB := n1_; have BK570 := n2_; have GW570 := n3_; have GE570 := n4_; have NB569_570 := n5_; have NB570_569 := n6_; clear n0_ n1_ n2_ n3_ n4_ n5_ n6_; clear hb hbox hg) | ((with_reducible refine gate_dst (N := 3) rfl ?_); refine box_event ?hg (N := 3) ?hd (cs := #[.slice none 0 0]) (t := 26) ?hr ?_; (case hd => rfl); (case hg => rfl); (case hr => first | (go_simp; done) | (go_simp; rfl)); intro gb571 hg w5 hbox hb; have n0_ := aM (blk_below (g := gb569) (o := .cells #[.slice A0_0 l0_0.length c0_0] 36 (0, 0)) (by (with_reducible repeat (first | refine blk_drewN ?_ _ | refine blk_drew ?_ | refine blk_alloc ?_ _)); exact BK569.out) hb); have n1_ := aM (blk_below (g := gb570) (o := .cells #[.slice none 0 0] 26 (0, 0)) (by (with_reducible repeat (first | refine blk_drewN ?_ _ | refine blk_drew ?_ | refine blk_alloc ?_ _)); exact BK570.out) hb); have n2_ := aM (below_step (by repeat (first | (with_reducible first | exact HB.out | apply below_alloc | apply pw_below_drewN | apply below_drew1 | refine below_set ?_ GE569.out | refine below_set ?_ GE570.out) | exact HB.out)) hb); have n3_ := aM (hbox); have n4_ := aM ((by rw [hg]; exact (below_size (by repeat (first | (with_reducible first | exact HB.out | apply below_alloc | apply pw_below_drewN | apply below_drew1 | refine below_set ?_ GE569.out | refine below_set ?_ GE570.out) | exact HB.out))) : w.heap.size ≤ gb571)); have n5_ := aM ((by rw [hg]; exact (below_size (by repeat (first | (with_reducible first | exact HB.out | apply below_alloc | apply pw_below_drewN | apply below_drew1 | refine below_set ?_ GE569.out | refine below_set ?_ GE570.out) | exact HB.out))) : w.heap.size ≤ gb571)); have n6_ := aM ((by rw [hg]; exact Nat.ne_of_lt (blk_lt (g := gb569) (o := .cells #[.slice A0_0 l0_0.length c0_0] 36 (0, 0)) (by (with_reducible repeat (first | refine blk_drewN ?_ _ | refine blk_drew ?_ | refine blk_alloc ?_ _)); exact BK569.out)) : gb569 ≠ gb571)); have n7_ := aM ((by rw [hg]; exact Nat.ne_of_gt (blk_lt (g := gb569) (o := .cells #[.slice A0_0 l0_0.length c0_0] 36 (0, 0)) (by (with_reducible repeat (first | refine blk_drewN ?_ _ | refine blk_drew ?_ | refine blk_alloc ?_ _)); exact BK569.out)) : gb571 ≠ gb569)); have n8_ := aM ((by rw [hg]; exact Nat.ne_of_lt (blk_lt (g := gb570) (o := .cells #[.slice none 0 0] 26 (0, 0)) (by (with_reducible repeat (first | refine blk_drewN ?_ _ | refine blk_drew ?_ | refine blk_alloc ?_ _)); exact BK570.out)) : gb570 ≠ gb571)); have n9_ := aM ((by rw [hg]; exact Nat.ne_of_gt (blk_lt (g := gb570) (o := .cells #[.slice none 0 0] 26 (0, 0)) (by (with_reducible repeat (first | refine blk_drewN ?_ _ | refine blk_drew ?_ | refine blk_alloc ?_ _)); exact BK570.out)) : gb571 ≠ gb570)); clear BK569; clear BK570; clear HB; have BK569 := n0_; have BK570 := n1_; have HB := n2_; have BK571 := n3_; have GW571 := n4_; have GE571 := n5_; have NB569_571 := n6_; have NB571_569 := n7_; have NB570_571 := n8_; have NB571_570 := n9_; clear n0_ n1_ n2_ n3_ n4_ n5_ n6_ n7_ n8_ n9_; clear hb hbox hg; have hnb6 := NB569_570.out; have hnc6 := NB570_569.out; have hnb7 := NB569_571.out; have hnc7 := NB571_569.out; have hcz8_0 : w5.cell? ⟨gb569, 0, none⟩ = some (.slice A0_0 l0_0.length c0_0) := (blk_cell BK569.out 0).trans rfl; have hfz8_0 := blk_frozen BK569.out 0) | ((with_reducible refine gate_callee (f := 53) rfl ?_); refine goesL_ (some 6) rfl rfl Try.func53 (by kernel_rfl) rfl #[.slice A0_0 l0_0.length c0_0] rfl (by (try simp only [List.map_toArray, List.map_cons, List.map_nil]); first | done | rfl | (simp only [List.length_drop, List.length_take]; rfl)) ?_; (with_reducible refine (laws_toEdgeS.calls k _ _ l0_0 t572 _ ?side1 ?side2 A2.out).mono ?_); (case side1 => repeat (first | exact (Kd.C_below HR0_0.out HB.out) | (with_reducible refine Kd.C_alloc ?_ _) | (with_reducible refine Kd.C_drewN ?_ _) | (with_reducible refine Kd.C_drew ?_))); (case side2 => exact HC0_0.out); rintro e w9 ⟨v573, rfl, ho0, hb⟩; refine ⟨_, rfl, ?_⟩; have n0_ := aM (Kd.R_lower ho0 (below_size (by repeat (first | (with_reducible first | exact HB.out | apply below_alloc | apply pw_below_drewN | apply below_drew1 | refine below_set ?_ GE569.out | refine below_set ?_ GE570.out | refine below_set ?_ GE571.out) | exact HB.out)))); have n1_ := aM (blk_below (g := gb569) (o := .cells #[.slice A0_0 l0_0.length c0_0] 36 (0, 0)) (by (with_reducible repeat (first | refine blk_drewN ?_ _ | refine blk_drew ?_ | refine blk_alloc ?_ _)); exact BK569.out) hb); have n2_ := aM (blk_below (g := gb570) (o := .cells #[.slice none 0 0] 26 (0, 0)) (by (with_reducible repeat (first | refine blk_drewN ?_ _ | refine blk_drew ?_ | refine blk_alloc ?_ _)); exact BK570.out) hb); have n3_ := aM (blk_below (g := gb571) (o := .cells #[.slice none 0 0] 26 (0, 0)) (by (with_reducible repeat (first | refine blk_drewN ?_ _ | refine blk_drew ?_ | refine blk_alloc ?_ _)); exact BK571.out) hb); have n4_ := aM (below_step (by repeat (first | (with_reducible first | exact HB.out | apply below_alloc | apply pw_below_drewN | apply below_drew1 | refine below_set ?_ GE569.out | refine below_set ?_ GE570.out | refine below_set ?_ GE571.out) | exact HB.out)) hb); clear BK569; clear BK570; clear BK571; clear HB; have HO574 := n0_; have BK569 := n1_; have BK570 := n2_; have BK571 := n3_; have HB := n4_; clear n0_ n1_ n2_ n3_ n4_; (try clear hb); (try clear hb2); (try clear hk); (try clear hi); (try clear ho0); obtain ⟨Ao10, co10, eo10⟩ := Kd.R_slice HO574.out; subst eo10; have hnb11 := NB571_570.out; have hnc11 := NB570_571.out; have hcz12_0 : w9.cell? ⟨gb571, 0, none⟩ = some (.slice none 0 0) := (blk_cell BK571.out 0).trans rfl; have hfz12_0 := blk_frozen BK571.out 0; have hcz13_0 : w9.cell? ⟨gb570, 0, none⟩ = some (.slice none 0 0) := (blk_cell BK570.out 0).trans rfl; have hfz13_0 := blk_frozen BK570.out 0))
 refine bodyPost_ret (results_cell_row rfl _ _ gb570 26 #[.slice Ao10 t572.length co10] (0, 0) _ rfl (by (with_reducible repeat (first | refine blk_drewN ?_ _ | refine blk_drew ?_ | refine blk_alloc ?_ _)); refine blk_put (cs := #[.slice none 0 0]) ?_ 0 _ rfl; (with_reducible repeat (first | refine blk_drewN ?_ _ | refine blk_drew ?_ | refine blk_alloc ?_ _)); refine blk_far ?_ NB570_571.out _; (with_reducible repeat (first | refine blk_drewN ?_ _ | refine blk_drew ?_ | refine blk_alloc ?_ _)); exact BK570.out) Try.underlying26 rfl (by kernel_rfl)) rfl ?_
 exact ⟨_, by first | rfl | (simp [errW_none, errW_some] <;> rfl) | (simp [*, errW_none, errW_some] <;> rfl), by (with_reducible repeat (first | apply Kd.R_alloc | apply Kd.R_drewN | apply Kd.R_drew)); exact Kd.R_mono (Kd.R_far (p := ⟨gb570, 0, none⟩) (Kd.R_far (p := ⟨gb571, 0, none⟩) (Kd.R_types (Kd.R_types HO574.out BK571.out (by decide)) BK570.out (by decide)) (fun _ hk => hk.1.2) (.slice Ao10 t572.length co10)) (fun _ hk => hk.2) (.slice Ao10 t572.length co10)) (fun _ hk => trivial), by repeat (first | (with_reducible first | exact HB.out | apply below_alloc | apply pw_below_drewN | apply below_drew1 | refine below_set ?_ GE569.out | refine below_set ?_ GE570.out | refine below_set ?_ GE571.out) | exact HB.out)⟩

def impl_common.l0 : Nat → ByteArray → ByteArray → Int → Option (Int)
 | 0, _, _, _ => none
 | k + 1, x0, x1, x5 => if x5 < (x0.size : Int) then (if x5 < (x1.size : Int) then (if 0 ≤ x5 then (if (bt x0 x5) = (bt x1 x5) then (impl_common.l0 k x0 x1 (wrap64 (x5 + 1))) else (some x5)) else (none)) else (some x5)) else (some x5)
def impl_common.f (k : Nat) (a0 : ByteArray) (a1 : ByteArray) : Option (Int) := impl_common.l0 k a0 a1 0
set_option maxHeartbeats 8000000 in
set_option maxRecDepth 100000 in
theorem impl_common.calls (k : Nat) (a0 : ByteArray) (a1 : ByteArray) (r : Int) (w : World) (h : impl_common.f k a0 a1 = some r) :
  Calls Try.prog 96 #[.string a0, .string a1] w fun e w' => e = .returned (.int .i64 r) ∧ Drawn0 w w' := by
 have H : (impl_common.l0 k a0 a1 0) = some r := h
 clear h
 have H' := aM H
 clear H
 go_enter Try.func96, Try.ntmps96
 go_wp2
 repeat (go_quiet (fail); try go_wp2)
 go_loopg [5] k (fun kq v5 w' => ∃ (x5_1 : Int), v5 = .int .i64 x5_1 ∧ Aside0 (impl_common.l0 kq a0 a1 x5_1 = some r) ∧ Aside0 (kq ≤ k) ∧ Drawn0 w w')
 case atStart => exact ⟨(0), (by first | rfl | (simp; done) | (simp [*]; done)), H', ⟨Nat.le_refl _⟩, by repeat (first | exact Drawn0.refl _ | apply Drawn0.step)⟩
 case round =>
  clear H'
  try clear p2
  obtain ⟨x5_1, rfl, HA, HK1, ⟨m1, rfl⟩⟩ := hrel
  cases gk with
  | zero => exact absurd HA.out (by simp [impl_common.l0])
  | succ k1 =>
   have H := HA.out
   clear HA
   simp only [impl_common.l0] at H
   by_cases c3 : x5_1 < (a0.size : Int)
   ·
    rw [if_pos c3] at H
    have c3b0 : decide (x5_1 < (a0.size : Int)) = true := decide_eq_true c3
    clear c3
    by_cases c4 : x5_1 < (a1.size : Int)
    ·
     rw [if_pos c4] at H
     have c4b0 : decide (x5_1 < (a1.size : Int)) = true := decide_eq_true c4
     clear c4
     by_cases c5 : 0 ≤ x5_1
     ·
      rw [if_pos c5] at H
      have c5b0 : decide (0 ≤ x5_1) = true := decide_eq_true c5
      clear c5
      by_cases c8 : (bt a0 x5_1) = (bt a1 x5_1)
      ·
       rw [if_pos c8] at H
       have c8b0 : ((bt a0 x5_1) == (bt a1 x5_1)) = true := beq_iff_eq.mpr c8
       have c8b1 : ((bt a0 x5_1) != (bt a1 x5_1)) = false := bne_eq_false_iff_eq.mpr c8
       clear c8
       have H' := aM H
       clear H
       have p6 : 0 ≤ (x5_1 : Int) := of_decide_eq_true (by first | (with_reducible assumption) | assumption)
       have q6 : x5_1 < (a0.size : Int) := of_decide_eq_true (by first | (with_reducible assumption) | assumption)
       have hx6 := bt_at a0 x5_1
       replace p6 := eq_true p6
       replace q6 := eq_true q6
       have p7 : 0 ≤ (x5_1 : Int) := of_decide_eq_true (by first | (with_reducible assumption) | assumption)
       have q7 : x5_1 < (a1.size : Int) := of_decide_eq_true (by first | (with_reducible assumption) | assumption)
       have hx7 := bt_at a1 x5_1
       replace p7 := eq_true p7
       replace q7 := eq_true q7
       go_wp2
       repeat (go_quiet (fail); try go_wp2)
       go_roundg k1
       case measure => have := HK1.out; omega
       case rel => exact ⟨(wrap64 (x5_1 + 1)), (by first | rfl | (simp; done) | (simp [*]; done)), H', ⟨by have := HK1.out; omega⟩, by repeat (first | exact Drawn0.refl _ | apply Drawn0.step)⟩
      ·
       rw [if_neg c8] at H
       have c8b0 : ((bt a0 x5_1) == (bt a1 x5_1)) = false := beq_eq_false_iff_ne.mpr c8
       have c8b1 : ((bt a0 x5_1) != (bt a1 x5_1)) = true := bne_iff_ne.mpr c8
       obtain rfl := Option.some.inj H
       have p6 : 0 ≤ (x5_1 : Int) := of_decide_eq_true (by first | (with_reducible assumption) | assumption)
       have q6 : x5_1 < (a0.size : Int) := of_decide_eq_true (by first | (with_reducible assumption) | assumption)
       have hx6 := bt_at a0 x5_1
       replace p6 := eq_true p6
       replace q6 := eq_true q6
       have p7 : 0 ≤ (x5_1 : Int) := of_decide_eq_true (by first | (with_reducible assumption) | assumption)
       have q7 : x5_1 < (a1.size : Int) := of_decide_eq_true (by first | (with_reducible assumption) | assumption)
       have hx7 := bt_at a1 x5_1
       replace p7 := eq_true p7
       replace q7 := eq_true q7
       go_wp2
       repeat (go_quiet (fail); try go_wp2)
       go_ret
       exact ⟨by first | rfl | (simp; done) | (simp [*]; done), by repeat (first | exact Drawn0.refl _ | apply Drawn0.step)⟩
     ·
      rw [if_neg c5] at H
      exact absurd H (by simp)
    ·
     rw [if_neg c4] at H
     have c4b0 : decide (x5_1 < (a1.size : Int)) = false := decide_eq_false c4
     clear c4
     obtain rfl := Option.some.inj H
     go_wp2
     repeat (go_quiet (fail); try go_wp2)
     go_ret
     exact ⟨by first | rfl | (simp; done) | (simp [*]; done), by repeat (first | exact Drawn0.refl _ | apply Drawn0.step)⟩
   ·
    rw [if_neg c3] at H
    have c3b0 : decide (x5_1 < (a0.size : Int)) = false := decide_eq_false c3
    clear c3
    obtain rfl := Option.some.inj H
    go_wp2
    repeat (go_quiet (fail); try go_wp2)
    go_ret
    exact ⟨by first | rfl | (simp; done) | (simp [*]; done), by repeat (first | exact Drawn0.refl _ | apply Drawn0.step)⟩

mutual
def impl_grow.l0 : Nat → List (S64) → List ByteArray → Int → Int → Option ((List (S64)))
 | 0, _, _, _, _ => none
 | k + 1, x0, x1, x2, x3 => if (x1.length : Int) > 0 then (impl_grow.l1 k x0 x1 x2 x3 1) else (some x0)
def impl_grow.j2 : Nat → List (S64) → List ByteArray → Int → Int → Int → Option ((List (S64)))
 | 0, _, _, _, _, _ => none
 | k + 1, x0, x1, x2, x3, x9 => if 0 < (x1.length : Int) then (if 0 ≤ x2 then (if x2 ≤ ((rdOf ByteArray.empty x1 0).size : Int) then (if 0 ≤ (wrap64 (x9 - 1)) then (if (wrap64 (x9 - 1)) < (x1.length : Int) then (if x2 ≤ ((rdOf ByteArray.empty x1 (wrap64 (x9 - 1))).size : Int) then ((impl_common.f k ((rdOf ByteArray.empty x1 0).extract (x2 : Int).toNat (rdOf ByteArray.empty x1 0).size) ((rdOf ByteArray.empty x1 (wrap64 (x9 - 1))).extract (x2 : Int).toNat (rdOf ByteArray.empty x1 (wrap64 (x9 - 1))).size)).bind fun t239 => (if x2 ≤ (wrap64 (x2 + t239)) then (if (wrap64 (x2 + t239)) ≤ ((rdOf ByteArray.empty x1 0).size : Int) then (if x0.length < 4398046511104 then ((some (x0 ++ [(⟨(rdOf ByteArray.empty x1 0).extract (x2 : Int).toNat ((wrap64 (x2 + t239)) : Int).toNat, (((rdOf ByteArray.empty x1 0).size : Int) == (wrap64 (x2 + t239))), x3⟩ : S64)] : List (S64))).bind fun y242 => (if 0 ≤ x9 then (if x9 ≤ (x1.length : Int) then ((some (x1.take (x9 : Int).toNat : List ByteArray)).bind fun y245 => (if 0 ≤ (x0.length : Int) then (if (x0.length : Int) < (y242.length : Int) then (if (rd_T64 y242 (x0.length : Int)).f1 = true then (if 1 ≤ (y245.length : Int) then ((impl_grow.f k y242 (y245.drop 1) (wrap64 (x2 + t239)) (x0.length : Int)).bind fun t256 => (impl_grow.l0 k t256 (x1.drop (x9 : Int).toNat) x2 x3)) else (none)) else ((impl_grow.f k y242 y245 (wrap64 (x2 + t239)) (x0.length : Int)).bind fun t264 => (impl_grow.l0 k t264 (x1.drop (x9 : Int).toNat) x2 x3))) else (none)) else (none))) else (none)) else (none))) else (none)) else (none)) else (none))) else (none)) else (none)) else (none)) else (none)) else (none)) else (none)
def impl_grow.l1 : Nat → List (S64) → List ByteArray → Int → Int → Int → Option ((List (S64)))
 | 0, _, _, _, _, _ => none
 | k + 1, x0, x1, x2, x3, x9 => if x9 < (x1.length : Int) then (if 0 ≤ x9 then (if 0 ≤ x2 then (if x2 < ((rdOf ByteArray.empty x1 x9).size : Int) then (if 0 < (x1.length : Int) then (if x2 < ((rdOf ByteArray.empty x1 0).size : Int) then (if (bt (rdOf ByteArray.empty x1 x9) x2) = (bt (rdOf ByteArray.empty x1 0) x2) then (impl_grow.l1 k x0 x1 x2 x3 (wrap64 (x9 + 1))) else (impl_grow.j2 k x0 x1 x2 x3 x9)) else (none)) else (none)) else (none)) else (none)) else (none)) else (impl_grow.j2 k x0 x1 x2 x3 x9)
def impl_grow.f : Nat → List (S64) → List ByteArray → Int → Int → Option ((List (S64)))
 | 0, _, _, _, _ => none
 | k + 1, l0, l1, a2, a3 => impl_grow.l0 k l0 l1 a2 a3
end
def impl_grow.T3 : Bool × List (List Nat × List Nat) := (true, [([], []), ([], []), ([1], [1]), ([0, 2], [0, 2]), ([3], [3]), ([4], [4]), ([4], [4]), ([5, 6, 4], [4, 5, 6]), ([7, 4], [4, 7]), ([4], [4]), ([8, 9, 4], [4, 8, 9]), ([4], [4]), ([11, 4], [4, 11]), ([12, 4], [4, 12]), ([4], [4]), ([13, 14, 4], [4, 13, 14]), ([10, 15, 4], [4, 10, 15]), ([4, 16], [4, 16])])
def impl_grow.B3 : List Nat := [0, 0, 2, 7, 15, 31, 31, 127, 255, 31, 1023, 31, 2079, 6175, 31, 30751, 65535, 131071]
theorem impl_grow.tab3 : rtab .any (opsOf Try.f72 3) = impl_grow.T3 := by kernel_rfl
theorem impl_grow.bits3 : waitsOk impl_grow.T3.2 impl_grow.B3 = true := by kernel_rfl
def impl_grow.T5 : Bool × List (List Nat × List Nat) := (true, [([], []), ([0], [0]), ([1], [1]), ([], []), ([2, 3], [2, 3]), ([], []), ([], []), ([6], [6]), ([5, 7], [5, 7]), ([8], [8]), ([], []), ([9, 10], [9, 10]), ([4, 11], [4, 11]), ([12, 12, 0, 1, 2, 3, 4, 5, 6, 7, 8, 9, 10, 11, 12], [12])])
def impl_grow.B5 : List Nat := [0, 1, 3, 0, 15, 0, 0, 64, 224, 480, 0, 2016, 4095, 8191]
theorem impl_grow.tab5 : rtab .any (opsOf Try.f72 5) = impl_grow.T5 := by kernel_rfl
theorem impl_grow.bits5 : waitsOk impl_grow.T5.2 impl_grow.B5 = true := by kernel_rfl
def impl_grow.T8 : Bool × List (List Nat × List Nat) := (true, [([], []), ([], []), ([1], [1]), ([2], [2]), ([], []), ([], []), ([3, 4, 5], [3, 4, 5]), ([], []), ([7], [7]), ([8], [8]), ([9], [9]), ([], []), ([10, 11], [10, 11]), ([], []), ([6, 12, 13], [6, 12, 13]), ([14], [14]), ([0, 15], [0, 15]), ([16, 16, 0, 1, 2, 3, 4, 5, 6, 7, 8, 9, 10, 11, 12, 13, 14, 15, 16], [0, 16])])
def impl_grow.B8 : List Nat := [0, 0, 2, 6, 0, 0, 62, 0, 128, 384, 896, 0, 3968, 0, 16382, 32766, 65535, 131071]
theorem impl_grow.tab8 : rtab .any (opsOf Try.f72 8) = impl_grow.T8 := by kernel_rfl
theorem impl_grow.bits8 : waitsOk impl_grow.T8.2 impl_grow.B8 = true := by kernel_rfl
set_option maxHeartbeats 8000000 in
set_option maxRecDepth 100000 in
theorem impl_grow.calls (k : Nat) : ∀ (P0_ : Nat → Prop) (u9000_ : Value) (l0 : List (S64)) (P1_ : Nat → Prop) (A1 : Option Addr) (c1 : Nat) (l1 : List ByteArray) (a2 : Int) (a3 : Int) (r : List (S64)) (w0 w : World) (hB : Below w0.heap.size w0 w) (ho0 : Kd.R k64 64 w w0.heap.size P0_ u9000_ l0) (hs1 : Kd.V Kd.string 9 w w0.heap.size (fun k_ => P1_ k_ ∧ some k_ ≠ (u9000_ : Value).ownBlock) (.slice A1 l1.length c1) l1) (h : impl_grow.f k l0 l1 a2 a3 = some r),
  Calls Try.prog 72 #[u9000_, .slice A1 l1.length c1, .int .i64 a2, .int .i64 a3] w fun e w' => ∃ v0_ : Value, e = .returned (v0_) ∧ Kd.R k64 64 w' w0.heap.size (fun k_ => (P0_ k_ ∨ w.heap.size ≤ k_)) v0_ r ∧ Below w0.heap.size w0 w' ∧ Kept w w' (fun k_ => P0_ k_) := by
 induction k using Nat.strongRecOn with
 | _ k ih =>
 intro P0_ u9000_ l0 P1_ A1 c1 l1 a2 a3 r w0 w hB ho0 hs1 h
 cases k with
 | zero => exact absurd h (by simp [impl_grow.f])
 | succ k =>
 simp only [impl_grow.f] at h
 have hu64 := Try.underlying64
 have HO0 := aM (show Kd.R k64 64 w w0.heap.size (fun k_ => (P0_ k_ ∨ w.heap.size ≤ k_)) u9000_ l0 from Kd.R_mono ho0 (fun k_ hk => (.inl hk)))
 have HO1 := aM (show Kd.V Kd.string 9 w w0.heap.size (fun k_ => ((P0_ k_ ∨ P1_ k_) ∨ w.heap.size ≤ k_) ∧ some k_ ≠ (u9000_ : Value).ownBlock) (.slice A1 l1.length c1) l1 from Kd.V_mono hs1 (fun k_ hk => ⟨.inl (.inr hk.1), hk.2⟩))
 have HK := aM (Kept.refl w (fun k_ => P0_ k_))
 have HW0 := aM hB.size
 have HB := aM hB
 clear hB
 have H : (impl_grow.l0 k l0 l1 a2 a3) = some r := h
 clear h
 have H' := aM H
 clear H
 go_enter Try.func72, Try.ntmps72
 go_wp2
 go_loopg [0, 1] k (fun kq v0 v1 w' => ∃ (x0_1 : List (S64)) (x1_1 : List ByteArray), Aside0 (impl_grow.l0 kq x0_1 x1_1 a2 a3 = some r) ∧ Aside0 (kq ≤ k) ∧ Aside0 (Kd.R k64 64 w' w0.heap.size (fun k_ => (P0_ k_ ∨ w.heap.size ≤ k_)) v0 x0_1) ∧ Aside0 (Kd.V Kd.string 9 w' w0.heap.size (fun k_ => ((P0_ k_ ∨ P1_ k_) ∨ w.heap.size ≤ k_) ∧ some k_ ≠ (v0 : Value).ownBlock) v1 x1_1) ∧ Aside0 (Kept w w' (fun k_ => P0_ k_)) ∧ Aside0 (Below w0.heap.size w0 w'))
 case atStart => exact ⟨(l0), (l1), H', ⟨Nat.le_refl _⟩, ⟨by (with_reducible repeat (first | apply Kd.R_alloc | apply Kd.R_drewN | apply Kd.R_drew)); exact HO0.out⟩, ⟨by (with_reducible repeat (first | apply Kd.V_alloc | apply Kd.V_drewN | apply Kd.V_drew)); exact HO1.out⟩, ⟨by repeat (first | (with_reducible first | exact HK.out | apply Kept.alloc | apply Kept.drewN | apply Kept.drew) | exact HK.out)⟩, ⟨by repeat (first | (with_reducible first | exact HB.out | apply below_alloc | apply pw_below_drewN | apply below_drew1) | exact HB.out)⟩⟩
 case round =>
  clear H'
  try clear c1
  try clear p2
  obtain ⟨x0_1, x1_1, HA, HK1, HO_0, HO_1, HK, HB⟩ := hrel
  cases gk with
  | zero => exact absurd HA.out (by simp [impl_grow.l0])
  | succ k1 =>
   have H := HA.out
   clear HA
   simp only [impl_grow.l0] at H
   by_cases c5 : (x1_1.length : Int) > 0
   ·
    rw [if_pos c5] at H
    have c5b0 : decide (0 < (x1_1.length : Int)) = true := decide_eq_true c5
    have c5b1 : decide (0 < x1_1.length) = true := decide_eq_true (by omega)
    clear c5
    have HC6 := aM H
    clear H
    obtain ⟨Ao7, co7, eo7⟩ := Kd.V_slice HO_1.out
    subst eo7
    go_upto_block 2 with (fail)
    go_cut [9] (fun v9 wc => ∃ (kq : Nat) (x9_5 : Int), v9 = .int .i64 x9_5 ∧ Aside0 (impl_grow.j2 kq x0_1 x1_1 a2 a3 x9_5 = some r) ∧ Aside0 (kq ≤ k1) ∧ Aside0 (Kd.R k64 64 wc w0.heap.size (fun k_ => (P0_ k_ ∨ w.heap.size ≤ k_)) u0 x0_1) ∧ Aside0 (Kd.V Kd.string 9 wc w0.heap.size (fun k_ => ((P0_ k_ ∨ P1_ k_) ∨ w.heap.size ≤ k_) ∧ some k_ ≠ (u0 : Value).ownBlock) (.slice Ao7 x1_1.length co7) x1_1) ∧ Aside0 (Kept w wc (fun k_ => P0_ k_)) ∧ Aside0 (Below w0.heap.size w0 wc))
    case first =>
     have H := HC6.out
     clear HC6
     have H' := aM H
     clear H
     go_wp2
     go_loopg [9] k1 (fun kq v9 w' => ∃ (x9_2 : Int), v9 = .int .i64 x9_2 ∧ Aside0 (impl_grow.l1 kq x0_1 x1_1 a2 a3 x9_2 = some r) ∧ Aside0 (kq ≤ k1) ∧ Aside0 (Kd.R k64 64 w' w0.heap.size (fun k_ => (P0_ k_ ∨ w.heap.size ≤ k_)) u0 x0_1) ∧ Aside0 (Kd.V Kd.string 9 w' w0.heap.size (fun k_ => ((P0_ k_ ∨ P1_ k_) ∨ w.heap.size ≤ k_) ∧ some k_ ≠ (u0 : Value).ownBlock) (.slice Ao7 x1_1.length co7) x1_1) ∧ Aside0 (Kept w w' (fun k_ => P0_ k_)) ∧ Aside0 (Below w0.heap.size w0 w'))
     case atStart => exact ⟨(1), (by first | rfl | (simp; done) | (simp [*]; done)), H', ⟨Nat.le_refl _⟩, ⟨by (with_reducible repeat (first | apply Kd.R_alloc | apply Kd.R_drewN | apply Kd.R_drew)); exact HO_0.out⟩, ⟨by (with_reducible repeat (first | apply Kd.V_alloc | apply Kd.V_drewN | apply Kd.V_drew)); exact HO_1.out⟩, ⟨by repeat (first | (with_reducible first | exact HK.out | apply Kept.alloc | apply Kept.drewN | apply Kept.drew) | exact HK.out)⟩, ⟨by repeat (first | (with_reducible first | exact HB.out | apply below_alloc | apply pw_below_drewN | apply below_drew1) | exact HB.out)⟩⟩
     case round =>
      clear H'
      try clear c1
      try clear p2
      try clear c5
      try clear c5b0
      try clear c5b1
      try clear c7
      try clear p2
      obtain ⟨x9_2, rfl, HA, HK2, HO_0, HO_1, HK, HB⟩ := hrel
      cases gk with
      | zero => exact absurd HA.out (by simp [impl_grow.l1])
      | succ k2 =>
       have H := HA.out
       clear HA
       simp only [impl_grow.l1] at H
       by_cases c8 : x9_2 < (x1_1.length : Int)
       ·
        rw [if_pos c8] at H
        have c8b0 : decide (x9_2 < (x1_1.length : Int)) = true := decide_eq_true c8
        clear c8
        (first | rw [c8b0] | (simp only [i64_w, i32_w]; rw [c8b0]) | skip)
        by_cases c9 : 0 ≤ x9_2
        ·
         rw [if_pos c9] at H
         have c9b0 : decide (0 ≤ x9_2) = true := decide_eq_true c9
         clear c9
         by_cases c10 : 0 ≤ a2
         ·
          rw [if_pos c10] at H
          have c10b0 : decide (0 ≤ a2) = true := decide_eq_true c10
          clear c10
          by_cases c11 : a2 < ((rdOf ByteArray.empty x1_1 x9_2).size : Int)
          ·
           rw [if_pos c11] at H
           have c11b0 : decide (a2 < ((rdOf ByteArray.empty x1_1 x9_2).size : Int)) = true := decide_eq_true c11
           clear c11
           by_cases c13 : 0 < (x1_1.length : Int)
           ·
            rw [if_pos c13] at H
            have c13b0 : decide (0 < (x1_1.length : Int)) = true := decide_eq_true c13
            have c13b1 : decide (0 < x1_1.length) = true := decide_eq_true (by omega)
            clear c13
            by_cases c14 : a2 < ((rdOf ByteArray.empty x1_1 0).size : Int)
            ·
             rw [if_pos c14] at H
             have c14b0 : decide (a2 < ((rdOf ByteArray.empty x1_1 0).size : Int)) = true := decide_eq_true c14
             clear c14
             by_cases c16 : (bt (rdOf ByteArray.empty x1_1 x9_2) a2) = (bt (rdOf ByteArray.empty x1_1 0) a2)
             ·
              rw [if_pos c16] at H
              have c16b0 : ((bt (rdOf ByteArray.empty x1_1 x9_2) a2) == (bt (rdOf ByteArray.empty x1_1 0) a2)) = true := beq_iff_eq.mpr c16
              have c16b1 : ((bt (rdOf ByteArray.empty x1_1 x9_2) a2) != (bt (rdOf ByteArray.empty x1_1 0) a2)) = false := bne_eq_false_iff_eq.mpr c16
              clear c16
              have H' := aM H
              clear H
              try go_wp2
              have n0_ := aM (Kd.R_drew HO_0.out)
              have n1_ := aM (Kd.V_drew HO_1.out)
              have n2_ := aM (Kept.drew HK.out)
              have n3_ := aM (below_drew1 HB.out)
              clear HO_0
              clear HO_1
              clear HK
              clear HB
              have HO_0 := n0_
              have HO_1 := n1_
              have HK := n2_
              have HB := n3_
              clear n0_ n1_ n2_ n3_
              have p235 : 0 ≤ (x9_2 : Int) := of_decide_eq_true (by first | (with_reducible assumption) | assumption)
              have q235 : x9_2 < (x1_1.length : Int) := of_decide_eq_true (by first | (with_reducible assumption) | assumption)
              obtain ⟨ad235, e235, hx235_0⟩ := Kd.at_string (Kd.V_reads' HO_1.out).2.2 x9_2 p235 q235
              cases e235
              replace p235 := eq_true p235
              replace q235 := eq_true q235
              have p12 : 0 ≤ (a2 : Int) := of_decide_eq_true (by first | (with_reducible assumption) | assumption)
              have q12 : a2 < ((rdOf ByteArray.empty x1_1 x9_2).size : Int) := of_decide_eq_true (by first | (with_reducible assumption) | assumption)
              have hx12 := bt_at (rdOf ByteArray.empty x1_1 x9_2) a2
              replace p12 := eq_true p12
              replace q12 := eq_true q12
              have p236 : 0 ≤ (0 : Int) := (by omega)
              have q236 : 0 < (x1_1.length : Int) := of_decide_eq_true (by first | (with_reducible assumption) | assumption)
              obtain ⟨ad236, e236, hx236_0⟩ := Kd.at_string (Kd.V_reads' HO_1.out).2.2 0 p236 q236
              obtain rfl : ad235 = ad236 := (by injection e236)
              have qi236 : (0 < x1_1.length) = True := eq_true (by omega)
              (try rw [show ((0 : Int)).toNat = 0 from rfl] at hx236_0)
              (try rw [Addr.add_zero'] at hx236_0)
              replace p236 := eq_true p236
              replace q236 := eq_true q236
              have p15 : 0 ≤ (a2 : Int) := of_decide_eq_true (by first | (with_reducible assumption) | assumption)
              have q15 : a2 < ((rdOf ByteArray.empty x1_1 0).size : Int) := of_decide_eq_true (by first | (with_reducible assumption) | assumption)
              have hx15 := bt_at (rdOf ByteArray.empty x1_1 0) a2
              replace p15 := eq_true p15
              replace q15 := eq_true q15
              refine start_ (n := 18) (S := fun w' => w'.cell? (ad235.add (x9_2).toNat) = some (.string (rdOf ByteArray.empty x1_1 x9_2)) ∧ w'.cell? ad235 = some (.string (rdOf ByteArray.empty x1_1 0))) (ds := []) (bq 18 0) (by kernel_rfl) rfl (by kernel_rfl) ⟨hx235_0, hx236_0⟩ (fun hHeld => ?_); refine with_tabW impl_grow.tab3 impl_grow.bits3 (fun HT_ HW_ => ?_)
              generalize wr.drew = w17 at HO_0 HO_1 HK HB hx235_0 hx236_0 hHeld ⊢
              refine pure_ (i := 0) (N := some 17) (v := ?_) (a' := ?_) (bq 18 1) rfl rfl (any_of HT_.out (by kernel_rfl)) (fun _ _ _ h => h) (Or.inl ⟨by rfl, ?_⟩) ?_ ?_; rotate_left; (intro w'; go_simp; (with_reducible rfl)); rotate_left; (simp only [Act.put, zSA, zSB, zSC, i64_w, i32_w]; rfl)
              refine pure_ (i := 1) (N := some 18) (v := ?_) (a' := ?_) (bq 18 3) rfl rfl (any_of HT_.out (by kernel_rfl)) (fun _ _ _ h => h) (Or.inl ⟨by rfl, ?_⟩) ?_ ?_; rotate_left; (intro w'; go_simp; (with_reducible rfl)); rotate_left; (simp only [Act.put, zSA, zSB, zSC, i64_w, i32_w]; rfl)
              refine pure_ (i := 2) (N := some 19) (v := ?_) (a' := ?_) (bq 18 7) rfl rfl (any_of HT_.out (by kernel_rfl)) (fun _ _ _ h => h) (Or.inl ⟨by rfl, ?_⟩) ?_ ?_; rotate_left; (intro w'; go_simp; (with_reducible rfl)); rotate_left; (simp only [Act.put, zSA, zSB, zSC, i64_w, i32_w]; rfl)
              refine pure_ (i := 3) (N := some 20) (v := ?_) (a' := ?_) (bq 18 15) rfl rfl (any_of HT_.out (by kernel_rfl)) (fun _ _ _ h => h) (Or.inl ⟨by rfl, ?_⟩) ?_ ?_; rotate_left; (intro w'; go_simp; (with_reducible rfl)); rotate_left; (simp only [Act.put, zSA, zSB, zSC, i64_w, i32_w]; rfl)
              refine pure_ (i := 4) (N := some 21) (v := ?_) (a' := ?_) (bq 18 31) rfl rfl (any_of HT_.out (by kernel_rfl)) (fun _ _ _ h => h) (Or.inl ⟨by rfl, ?_⟩) ?_ ?_; rotate_left; (intro w'; go_simp; (with_reducible rfl)); rotate_left; (simp only [Act.put, zSA, zSB, zSC, i64_w, i32_w]; rfl)
              refine pure_ (i := 5) (N := some 22) (v := ?_) (a' := ?_) (bq 18 63) rfl rfl (any_of HT_.out (by kernel_rfl)) (fun _ _ _ h => h) (Or.inl ⟨by rfl, ?_⟩) ?_ ?_; rotate_left; (intro w'; go_simp; (with_reducible rfl)); rotate_left; (simp only [Act.put, zSA, zSB, zSC, i64_w, i32_w]; rfl)
              refine pure_ (i := 6) (N := some 23) (v := ?_) (a' := ?_) (bq 18 127) rfl rfl (any_of HT_.out (by kernel_rfl)) (fun _ _ _ h => h) (Or.inl ⟨by rfl, ?_⟩) ?_ ?_; rotate_left; (intro w'; go_simp; (with_reducible rfl)); rotate_left; (simp only [Act.put, zSA, zSB, zSC, i64_w, i32_w]; rfl)
              refine pure_ (i := 7) (N := some 24) (v := ?_) (a' := ?_) (bq 18 255) rfl rfl (any_of HT_.out (by kernel_rfl)) (fun _ _ _ h => h) (Or.inl ⟨by rfl, ?_⟩) ?_ ?_; rotate_left; (intro w'; go_simp; (with_reducible rfl)); rotate_left; (simp only [Act.put, zSA, zSB, zSC, i64_w, i32_w]; rfl)
              refine pure_ (i := 9) (N := some 26) (v := ?_) (a' := ?_) (bq 18 767) rfl rfl (any_of HT_.out (by kernel_rfl)) (fun _ _ _ h => h) (Or.inl ⟨by rfl, ?_⟩) ?_ ?_; rotate_left; (intro w'; go_simp; (with_reducible rfl)); rotate_left; (simp only [Act.put, zSA, zSB, zSC, i64_w, i32_w]; rfl)
              refine pure_ (i := 11) (N := some 28) (v := ?_) (a' := ?_) (bq 18 2815) rfl rfl (any_of HT_.out (by kernel_rfl)) (fun _ _ _ h => h) (Or.inl ⟨by rfl, ?_⟩) ?_ ?_; rotate_left; (intro w'; go_simp; (with_reducible rfl)); rotate_left; (simp only [Act.put, zSA, zSB, zSC, i64_w, i32_w]; rfl)
              refine pure_ (i := 12) (N := some 29) (v := ?_) (a' := ?_) (bq 18 6911) rfl rfl (any_of HT_.out (by kernel_rfl)) (fun _ _ _ h => h) (Or.inl ⟨by rfl, ?_⟩) ?_ ?_; rotate_left; (intro w'; go_simp; (with_reducible rfl)); rotate_left; (simp only [Act.put, zSA, zSB, zSC, i64_w, i32_w]; rfl)
              refine pure_ (i := 14) (N := some 31) (v := ?_) (a' := ?_) (bq 18 23295) rfl rfl (any_of HT_.out (by kernel_rfl)) (fun _ _ _ h => h) (Or.inl ⟨by rfl, ?_⟩) ?_ ?_; rotate_left; (intro w'; go_simp; (with_reducible rfl)); rotate_left; (simp only [Act.put, zSA, zSB, zSC, i64_w, i32_w]; rfl)
              refine take_ (i := 8) (N := some 25) (v := ?_) (a' := ?_) (bq 18 23551) rfl rfl (take_ofW HT_.out HW_.out (by kernel_rfl)) (fun _ _ _ h => h) (Or.inl ⟨by rfl, ?_⟩) hHeld ?_ ?_; rotate_left; (rintro w' ⟨s0, s1⟩; go_simp; (with_reducible rfl)); rotate_left; (simp only [Act.put, zSA, zSB, zSC, i64_w, i32_w]; rfl)
              refine take_ (i := 10) (N := some 27) (v := ?_) (a' := ?_) (bq 18 24575) rfl rfl (take_ofW HT_.out HW_.out (by kernel_rfl)) (fun _ _ _ h => h) (Or.inl ⟨by rfl, ?_⟩) hHeld ?_ ?_; rotate_left; (rintro w' ⟨s0, s1⟩; go_simp; (with_reducible rfl)); rotate_left; (simp only [Act.put, zSA, zSB, zSC, i64_w, i32_w]; rfl)
              refine take_ (i := 13) (N := some 30) (v := ?_) (a' := ?_) (bq 18 32767) rfl rfl (take_ofW HT_.out HW_.out (by kernel_rfl)) (fun _ _ _ h => h) (Or.inl ⟨by rfl, ?_⟩) hHeld ?_ ?_; rotate_left; (rintro w' ⟨s0, s1⟩; go_simp; (with_reducible rfl)); rotate_left; (simp only [Act.put, zSA, zSB, zSC, i64_w, i32_w]; rfl)
              refine take_ (i := 15) (N := some 32) (v := ?_) (a' := ?_) (bq 18 65535) rfl rfl (take_ofW HT_.out HW_.out (by kernel_rfl)) (fun _ _ _ h => h) (Or.inl ⟨by rfl, ?_⟩) hHeld ?_ ?_; rotate_left; (rintro w' ⟨s0, s1⟩; go_simp; (with_reducible rfl)); rotate_left; (simp only [Act.put, zSA, zSB, zSC, i64_w, i32_w]; rfl)
              refine pure_ (i := 16) (N := some 33) (v := ?_) (a' := ?_) (bq 18 131071) rfl rfl (any_of HT_.out (by kernel_rfl)) (fun _ _ _ h => h) (Or.inl ⟨by rfl, ?_⟩) ?_ ?_; rotate_left; (intro w'; go_simp; (with_reducible rfl)); rotate_left; (simp only [Act.put, zSA, zSB, zSC, i64_w, i32_w]; rfl)
              refine pure_ (i := 17) (N := some 34) (v := ?_) (a' := ?_) (bq 18 262143) rfl rfl (any_of HT_.out (by kernel_rfl)) (fun _ _ _ h => h) (Or.inl ⟨by rfl, ?_⟩) ?_ ?_; rotate_left; (intro w'; go_simp; (with_reducible rfl)); rotate_left; (simp only [Act.put, zSA, zSB, zSC, i64_w, i32_w]; rfl)
              refine done_ (done_of HT_.out (by kernel_rfl)) ?_
              try go_wp2
              go_roundg k2
              case measure => have := HK1.out; have := HK2.out; omega
              case rel => exact ⟨(wrap64 (x9_2 + 1)), (by first | rfl | (simp; done) | (simp [*]; done)), H', ⟨by have := HK1.out; have := HK2.out; omega⟩, ⟨by (with_reducible repeat (first | apply Kd.R_alloc | apply Kd.R_drewN | apply Kd.R_drew)); exact HO_0.out⟩, ⟨by (with_reducible repeat (first | apply Kd.V_alloc | apply Kd.V_drewN | apply Kd.V_drew)); exact HO_1.out⟩, ⟨by repeat (first | (with_reducible first | exact HK.out | apply Kept.alloc | apply Kept.drewN | apply Kept.drew) | exact HK.out)⟩, ⟨by repeat (first | (with_reducible first | exact HB.out | apply below_alloc | apply pw_below_drewN | apply below_drew1) | exact HB.out)⟩⟩
             ·
              rw [if_neg c16] at H
              have c16b0 : ((bt (rdOf ByteArray.empty x1_1 x9_2) a2) == (bt (rdOf ByteArray.empty x1_1 0) a2)) = false := beq_eq_false_iff_ne.mpr c16
              have c16b1 : ((bt (rdOf ByteArray.empty x1_1 x9_2) a2) != (bt (rdOf ByteArray.empty x1_1 0) a2)) = true := bne_iff_ne.mpr c16
              have H' := aM H
              clear H
              try go_wp2
              have n0_ := aM (Kd.R_drew HO_0.out)
              have n1_ := aM (Kd.V_drew HO_1.out)
              have n2_ := aM (Kept.drew HK.out)
              have n3_ := aM (below_drew1 HB.out)
              clear HO_0
              clear HO_1
              clear HK
              clear HB
              have HO_0 := n0_
              have HO_1 := n1_
              have HK := n2_
              have HB := n3_
              clear n0_ n1_ n2_ n3_
              have p235 : 0 ≤ (x9_2 : Int) := of_decide_eq_true (by first | (with_reducible assumption) | assumption)
              have q235 : x9_2 < (x1_1.length : Int) := of_decide_eq_true (by first | (with_reducible assumption) | assumption)
              obtain ⟨ad235, e235, hx235_0⟩ := Kd.at_string (Kd.V_reads' HO_1.out).2.2 x9_2 p235 q235
              cases e235
              replace p235 := eq_true p235
              replace q235 := eq_true q235
              have p12 : 0 ≤ (a2 : Int) := of_decide_eq_true (by first | (with_reducible assumption) | assumption)
              have q12 : a2 < ((rdOf ByteArray.empty x1_1 x9_2).size : Int) := of_decide_eq_true (by first | (with_reducible assumption) | assumption)
              have hx12 := bt_at (rdOf ByteArray.empty x1_1 x9_2) a2
              replace p12 := eq_true p12
              replace q12 := eq_true q12
              have p236 : 0 ≤ (0 : Int) := (by omega)
              have q236 : 0 < (x1_1.length : Int) := of_decide_eq_true (by first | (with_reducible assumption) | assumption)
              obtain ⟨ad236, e236, hx236_0⟩ := Kd.at_string (Kd.V_reads' HO_1.out).2.2 0 p236 q236
              obtain rfl : ad235 = ad236 := (by injection e236)
              have qi236 : (0 < x1_1.length) = True := eq_true (by omega)
              (try rw [show ((0 : Int)).toNat = 0 from rfl] at hx236_0)
              (try rw [Addr.add_zero'] at hx236_0)
              replace p236 := eq_true p236
              replace q236 := eq_true q236
              have p15 : 0 ≤ (a2 : Int) := of_decide_eq_true (by first | (with_reducible assumption) | assumption)
              have q15 : a2 < ((rdOf ByteArray.empty x1_1 0).size : Int) := of_decide_eq_true (by first | (with_reducible assumption) | assumption)
              have hx15 := bt_at (rdOf ByteArray.empty x1_1 0) a2
              replace p15 := eq_true p15
              replace q15 := eq_true q15
              refine start_ (n := 18) (S := fun w' => w'.cell? (ad235.add (x9_2).toNat) = some (.string (rdOf ByteArray.empty x1_1 x9_2)) ∧ w'.cell? ad235 = some (.string (rdOf ByteArray.empty x1_1 0))) (ds := []) (bq 18 0) (by kernel_rfl) rfl (by kernel_rfl) ⟨hx235_0, hx236_0⟩ (fun hHeld => ?_); refine with_tabW impl_grow.tab3 impl_grow.bits3 (fun HT_ HW_ => ?_)
              generalize wr.drew = w18 at HO_0 HO_1 HK HB hx235_0 hx236_0 hHeld ⊢
              refine pure_ (i := 0) (N := some 17) (v := ?_) (a' := ?_) (bq 18 1) rfl rfl (any_of HT_.out (by kernel_rfl)) (fun _ _ _ h => h) (Or.inl ⟨by rfl, ?_⟩) ?_ ?_; rotate_left; (intro w'; go_simp; (with_reducible rfl)); rotate_left; (simp only [Act.put, zSA, zSB, zSC, i64_w, i32_w]; rfl)
              refine pure_ (i := 1) (N := some 18) (v := ?_) (a' := ?_) (bq 18 3) rfl rfl (any_of HT_.out (by kernel_rfl)) (fun _ _ _ h => h) (Or.inl ⟨by rfl, ?_⟩) ?_ ?_; rotate_left; (intro w'; go_simp; (with_reducible rfl)); rotate_left; (simp only [Act.put, zSA, zSB, zSC, i64_w, i32_w]; rfl)
              refine pure_ (i := 2) (N := some 19) (v := ?_) (a' := ?_) (bq 18 7) rfl rfl (any_of HT_.out (by kernel_rfl)) (fun _ _ _ h => h) (Or.inl ⟨by rfl, ?_⟩) ?_ ?_; rotate_left; (intro w'; go_simp; (with_reducible rfl)); rotate_left; (simp only [Act.put, zSA, zSB, zSC, i64_w, i32_w]; rfl)
              refine pure_ (i := 3) (N := some 20) (v := ?_) (a' := ?_) (bq 18 15) rfl rfl (any_of HT_.out (by kernel_rfl)) (fun _ _ _ h => h) (Or.inl ⟨by rfl, ?_⟩) ?_ ?_; rotate_left; (intro w'; go_simp; (with_reducible rfl)); rotate_left; (simp only [Act.put, zSA, zSB, zSC, i64_w, i32_w]; rfl)
              refine pure_ (i := 4) (N := some 21) (v := ?_) (a' := ?_) (bq 18 31) rfl rfl (any_of HT_.out (by kernel_rfl)) (fun _ _ _ h => h) (Or.inl ⟨by rfl, ?_⟩) ?_ ?_; rotate_left; (intro w'; go_simp; (with_reducible rfl)); rotate_left; (simp only [Act.put, zSA, zSB, zSC, i64_w, i32_w]; rfl)
              refine pure_ (i := 5) (N := some 22) (v := ?_) (a' := ?_) (bq 18 63) rfl rfl (any_of HT_.out (by kernel_rfl)) (fun _ _ _ h => h) (Or.inl ⟨by rfl, ?_⟩) ?_ ?_; rotate_left; (intro w'; go_simp; (with_reducible rfl)); rotate_left; (simp only [Act.put, zSA, zSB, zSC, i64_w, i32_w]; rfl)
              refine pure_ (i := 6) (N := some 23) (v := ?_) (a' := ?_) (bq 18 127) rfl rfl (any_of HT_.out (by kernel_rfl)) (fun _ _ _ h => h) (Or.inl ⟨by rfl, ?_⟩) ?_ ?_; rotate_left; (intro w'; go_simp; (with_reducible rfl)); rotate_left; (simp only [Act.put, zSA, zSB, zSC, i64_w, i32_w]; rfl)
              refine pure_ (i := 7) (N := some 24) (v := ?_) (a' := ?_) (bq 18 255) rfl rfl (any_of HT_.out (by kernel_rfl)) (fun _ _ _ h => h) (Or.inl ⟨by rfl, ?_⟩) ?_ ?_; rotate_left; (intro w'; go_simp; (with_reducible rfl)); rotate_left; (simp only [Act.put, zSA, zSB, zSC, i64_w, i32_w]; rfl)
              refine pure_ (i := 9) (N := some 26) (v := ?_) (a' := ?_) (bq 18 767) rfl rfl (any_of HT_.out (by kernel_rfl)) (fun _ _ _ h => h) (Or.inl ⟨by rfl, ?_⟩) ?_ ?_; rotate_left; (intro w'; go_simp; (with_reducible rfl)); rotate_left; (simp only [Act.put, zSA, zSB, zSC, i64_w, i32_w]; rfl)
              refine pure_ (i := 11) (N := some 28) (v := ?_) (a' := ?_) (bq 18 2815) rfl rfl (any_of HT_.out (by kernel_rfl)) (fun _ _ _ h => h) (Or.inl ⟨by rfl, ?_⟩) ?_ ?_; rotate_left; (intro w'; go_simp; (with_reducible rfl)); rotate_left; (simp only [Act.put, zSA, zSB, zSC, i64_w, i32_w]; rfl)
              refine pure_ (i := 12) (N := some 29) (v := ?_) (a' := ?_) (bq 18 6911) rfl rfl (any_of HT_.out (by kernel_rfl)) (fun _ _ _ h => h) (Or.inl ⟨by rfl, ?_⟩) ?_ ?_; rotate_left; (intro w'; go_simp; (with_reducible rfl)); rotate_left; (simp only [Act.put, zSA, zSB, zSC, i64_w, i32_w]; rfl)
              refine pure_ (i := 14) (N := some 31) (v := ?_) (a' := ?_) (bq 18 23295) rfl rfl (any_of HT_.out (by kernel_rfl)) (fun _ _ _ h => h) (Or.inl ⟨by rfl, ?_⟩) ?_ ?_; rotate_left; (intro w'; go_simp; (with_reducible rfl)); rotate_left; (simp only [Act.put, zSA, zSB, zSC, i64_w, i32_w]; rfl)
              refine take_ (i := 8) (N := some 25) (v := ?_) (a' := ?_) (bq 18 23551) rfl rfl (take_ofW HT_.out HW_.out (by kernel_rfl)) (fun _ _ _ h => h) (Or.inl ⟨by rfl, ?_⟩) hHeld ?_ ?_; rotate_left; (rintro w' ⟨s0, s1⟩; go_simp; (with_reducible rfl)); rotate_left; (simp only [Act.put, zSA, zSB, zSC, i64_w, i32_w]; rfl)
              refine take_ (i := 10) (N := some 27) (v := ?_) (a' := ?_) (bq 18 24575) rfl rfl (take_ofW HT_.out HW_.out (by kernel_rfl)) (fun _ _ _ h => h) (Or.inl ⟨by rfl, ?_⟩) hHeld ?_ ?_; rotate_left; (rintro w' ⟨s0, s1⟩; go_simp; (with_reducible rfl)); rotate_left; (simp only [Act.put, zSA, zSB, zSC, i64_w, i32_w]; rfl)
              refine take_ (i := 13) (N := some 30) (v := ?_) (a' := ?_) (bq 18 32767) rfl rfl (take_ofW HT_.out HW_.out (by kernel_rfl)) (fun _ _ _ h => h) (Or.inl ⟨by rfl, ?_⟩) hHeld ?_ ?_; rotate_left; (rintro w' ⟨s0, s1⟩; go_simp; (with_reducible rfl)); rotate_left; (simp only [Act.put, zSA, zSB, zSC, i64_w, i32_w]; rfl)
              refine take_ (i := 15) (N := some 32) (v := ?_) (a' := ?_) (bq 18 65535) rfl rfl (take_ofW HT_.out HW_.out (by kernel_rfl)) (fun _ _ _ h => h) (Or.inl ⟨by rfl, ?_⟩) hHeld ?_ ?_; rotate_left; (rintro w' ⟨s0, s1⟩; go_simp; (with_reducible rfl)); rotate_left; (simp only [Act.put, zSA, zSB, zSC, i64_w, i32_w]; rfl)
              refine pure_ (i := 16) (N := some 33) (v := ?_) (a' := ?_) (bq 18 131071) rfl rfl (any_of HT_.out (by kernel_rfl)) (fun _ _ _ h => h) (Or.inl ⟨by rfl, ?_⟩) ?_ ?_; rotate_left; (intro w'; go_simp; (with_reducible rfl)); rotate_left; (simp only [Act.put, zSA, zSB, zSC, i64_w, i32_w]; rfl)
              refine pure_ (i := 17) (N := some 34) (v := ?_) (a' := ?_) (bq 18 262143) rfl rfl (any_of HT_.out (by kernel_rfl)) (fun _ _ _ h => h) (Or.inl ⟨by rfl, ?_⟩) ?_ ?_; rotate_left; (intro w'; go_simp; (with_reducible rfl)); rotate_left; (simp only [Act.put, zSA, zSB, zSC, i64_w, i32_w]; rfl)
              refine done_ (done_of HT_.out (by kernel_rfl)) ?_
              try go_wp2
              go_meet
              case rel => exact ⟨_, (x9_2), (by first | rfl | (simp; done) | (simp [*]; done)), H', ⟨by have := HK1.out; have := HK2.out; first | omega | exact Nat.le_refl _⟩, ⟨by (with_reducible repeat (first | apply Kd.R_alloc | apply Kd.R_drewN | apply Kd.R_drew)); exact HO_0.out⟩, ⟨by (with_reducible repeat (first | apply Kd.V_alloc | apply Kd.V_drewN | apply Kd.V_drew)); exact HO_1.out⟩, ⟨by repeat (first | (with_reducible first | exact HK.out | apply Kept.alloc | apply Kept.drewN | apply Kept.drew) | exact HK.out)⟩, ⟨by repeat (first | (with_reducible first | exact HB.out | apply below_alloc | apply pw_below_drewN | apply below_drew1) | exact HB.out)⟩⟩
            ·
             rw [if_neg c14] at H
             exact absurd H (by simp)
           ·
            rw [if_neg c13] at H
            exact absurd H (by simp)
          ·
           rw [if_neg c11] at H
           exact absurd H (by simp)
         ·
          rw [if_neg c10] at H
          exact absurd H (by simp)
        ·
         rw [if_neg c9] at H
         exact absurd H (by simp)
       ·
        rw [if_neg c8] at H
        have c8b0 : decide (x9_2 < (x1_1.length : Int)) = false := decide_eq_false c8
        clear c8
        (first | rw [c8b0] | (simp only [i64_w, i32_w]; rw [c8b0]) | skip)
        have H' := aM H
        clear H
        try go_wp2
        have n0_ := aM (Kd.R_drew HO_0.out)
        have n1_ := aM (Kd.V_drew HO_1.out)
        have n2_ := aM (Kept.drew HK.out)
        have n3_ := aM (below_drew1 HB.out)
        clear HO_0
        clear HO_1
        clear HK
        clear HB
        have HO_0 := n0_
        have HO_1 := n1_
        have HK := n2_
        have HB := n3_
        clear n0_ n1_ n2_ n3_
        refine start_ (n := 18) (S := fun w' => True) (ds := []) (bq 18 0) (by kernel_rfl) rfl (by kernel_rfl) trivial (fun hHeld => ?_); refine with_tabW impl_grow.tab3 impl_grow.bits3 (fun HT_ HW_ => ?_)
        generalize wr.drew = w19 at HO_0 HO_1 HK HB hHeld ⊢
        refine pure_ (i := 0) (N := some 17) (v := ?_) (a' := ?_) (bq 18 1) rfl rfl (any_of HT_.out (by kernel_rfl)) (fun _ _ _ h => h) (Or.inl ⟨by rfl, ?_⟩) ?_ ?_; rotate_left; (intro w'; go_simp; (with_reducible rfl)); rotate_left; (simp only [Act.put, zSA, zSB, zSC, i64_w, i32_w]; rfl)
        refine pure_ (i := 1) (N := some 18) (v := ?_) (a' := ?_) (bq 18 3) rfl rfl (any_of HT_.out (by kernel_rfl)) (fun _ _ _ h => h) (Or.inl ⟨by rfl, ?_⟩) ?_ ?_; rotate_left; (intro w'; go_simp; (with_reducible rfl)); rotate_left; (simp only [Act.put, zSA, zSB, zSC, i64_w, i32_w]; rfl)
        refine pure_ (i := 2) (N := some 19) (v := ?_) (a' := ?_) (bq 18 7) rfl rfl (any_of HT_.out (by kernel_rfl)) (fun _ _ _ h => h) (Or.inl ⟨by rfl, ?_⟩) ?_ ?_; rotate_left; (intro w'; go_simp; (with_reducible rfl)); rotate_left; (simp only [Act.put, zSA, zSB, zSC, i64_w, i32_w]; rfl)
        refine pure_ (i := 3) (N := some 20) (v := ?_) (a' := ?_) (bq 18 15) rfl rfl (any_of HT_.out (by kernel_rfl)) (fun _ _ _ h => h) (Or.inl ⟨by rfl, ?_⟩) ?_ ?_; rotate_left; (intro w'; go_simp; (with_reducible rfl)); rotate_left; (simp only [Act.put, zSA, zSB, zSC, i64_w, i32_w]; rfl)
        refine pure_ (i := 4) (N := some 21) (v := ?_) (a' := ?_) (bq 18 31) rfl rfl (any_of HT_.out (by kernel_rfl)) (fun _ _ _ h => h) (Or.inl ⟨by rfl, ?_⟩) ?_ ?_; rotate_left; (intro w'; go_simp; (with_reducible rfl)); rotate_left; (simp only [Act.put, zSA, zSB, zSC, i64_w, i32_w]; rfl)
        refine pure_ (i := 5) (N := some 22) (v := undef) (a' := ?_) (bq 18 63) rfl rfl (any_of HT_.out (by kernel_rfl)) (fun _ _ _ h => h) (Or.inr ⟨by rfl, rfl⟩) ?_ ?_
        rotate_left
        ·
         simp only [Act.put, zSA, zSB, zSC, i64_w, i32_w]
         rfl
        refine pure_ (i := 6) (N := some 23) (v := undef) (a' := ?_) (bq 18 127) rfl rfl (any_of HT_.out (by kernel_rfl)) (fun _ _ _ h => h) (Or.inr ⟨by rfl, rfl⟩) ?_ ?_
        rotate_left
        ·
         simp only [Act.put, zSA, zSB, zSC, i64_w, i32_w]
         rfl
        refine pure_ (i := 7) (N := some 24) (v := undef) (a' := ?_) (bq 18 255) rfl rfl (any_of HT_.out (by kernel_rfl)) (fun _ _ _ h => h) (Or.inr ⟨by rfl, rfl⟩) ?_ ?_
        rotate_left
        ·
         simp only [Act.put, zSA, zSB, zSC, i64_w, i32_w]
         rfl
        refine pure_ (i := 8) (N := some 25) (v := undef) (a' := ?_) (bq 18 511) rfl rfl (any_of HT_.out (by kernel_rfl)) (fun _ _ _ h => h) (Or.inr ⟨by rfl, rfl⟩) ?_ ?_
        rotate_left
        ·
         simp only [Act.put, zSA, zSB, zSC, i64_w, i32_w]
         rfl
        refine pure_ (i := 9) (N := some 26) (v := undef) (a' := ?_) (bq 18 1023) rfl rfl (any_of HT_.out (by kernel_rfl)) (fun _ _ _ h => h) (Or.inr ⟨by rfl, rfl⟩) ?_ ?_
        rotate_left
        ·
         simp only [Act.put, zSA, zSB, zSC, i64_w, i32_w]
         rfl
        refine pure_ (i := 10) (N := some 27) (v := undef) (a' := ?_) (bq 18 2047) rfl rfl (any_of HT_.out (by kernel_rfl)) (fun _ _ _ h => h) (Or.inr ⟨by rfl, rfl⟩) ?_ ?_
        rotate_left
        ·
         simp only [Act.put, zSA, zSB, zSC, i64_w, i32_w]
         rfl
        refine pure_ (i := 11) (N := some 28) (v := undef) (a' := ?_) (bq 18 4095) rfl rfl (any_of HT_.out (by kernel_rfl)) (fun _ _ _ h => h) (Or.inr ⟨by rfl, rfl⟩) ?_ ?_
        rotate_left
        ·
         simp only [Act.put, zSA, zSB, zSC, i64_w, i32_w]
         rfl
        refine pure_ (i := 12) (N := some 29) (v := undef) (a' := ?_) (bq 18 8191) rfl rfl (any_of HT_.out (by kernel_rfl)) (fun _ _ _ h => h) (Or.inr ⟨by rfl, rfl⟩) ?_ ?_
        rotate_left
        ·
         simp only [Act.put, zSA, zSB, zSC, i64_w, i32_w]
         rfl
        refine pure_ (i := 13) (N := some 30) (v := undef) (a' := ?_) (bq 18 16383) rfl rfl (any_of HT_.out (by kernel_rfl)) (fun _ _ _ h => h) (Or.inr ⟨by rfl, rfl⟩) ?_ ?_
        rotate_left
        ·
         simp only [Act.put, zSA, zSB, zSC, i64_w, i32_w]
         rfl
        refine pure_ (i := 14) (N := some 31) (v := undef) (a' := ?_) (bq 18 32767) rfl rfl (any_of HT_.out (by kernel_rfl)) (fun _ _ _ h => h) (Or.inr ⟨by rfl, rfl⟩) ?_ ?_
        rotate_left
        ·
         simp only [Act.put, zSA, zSB, zSC, i64_w, i32_w]
         rfl
        refine pure_ (i := 15) (N := some 32) (v := undef) (a' := ?_) (bq 18 65535) rfl rfl (any_of HT_.out (by kernel_rfl)) (fun _ _ _ h => h) (Or.inr ⟨by rfl, rfl⟩) ?_ ?_
        rotate_left
        ·
         simp only [Act.put, zSA, zSB, zSC, i64_w, i32_w]
         rfl
        refine pure_ (i := 16) (N := some 33) (v := undef) (a' := ?_) (bq 18 131071) rfl rfl (any_of HT_.out (by kernel_rfl)) (fun _ _ _ h => h) (Or.inr ⟨by rfl, rfl⟩) ?_ ?_
        rotate_left
        ·
         simp only [Act.put, zSA, zSB, zSC, i64_w, i32_w]
         rfl
        refine pure_ (i := 17) (N := some 34) (v := ?_) (a' := ?_) (bq 18 262143) rfl rfl (any_of HT_.out (by kernel_rfl)) (fun _ _ _ h => h) (Or.inl ⟨by rfl, ?_⟩) ?_ ?_; rotate_left; (intro w'; go_simp; (with_reducible rfl)); rotate_left; (simp only [Act.put, zSA, zSB, zSC, i64_w, i32_w]; rfl)
        refine done_ (done_of HT_.out (by kernel_rfl)) ?_
        try go_wp2
        go_meet
        case rel => exact ⟨_, (x9_2), (by first | rfl | (simp; done) | (simp [*]; done)), H', ⟨by have := HK1.out; have := HK2.out; first | omega | exact Nat.le_refl _⟩, ⟨by (with_reducible repeat (first | apply Kd.R_alloc | apply Kd.R_drewN | apply Kd.R_drew)); exact HO_0.out⟩, ⟨by (with_reducible repeat (first | apply Kd.V_alloc | apply Kd.V_drewN | apply Kd.V_drew)); exact HO_1.out⟩, ⟨by repeat (first | (with_reducible first | exact HK.out | apply Kept.alloc | apply Kept.drewN | apply Kept.drew) | exact HK.out)⟩, ⟨by repeat (first | (with_reducible first | exact HB.out | apply below_alloc | apply pw_below_drewN | apply below_drew1) | exact HB.out)⟩⟩
    case rest =>
     clear HC6
     try clear c1
     try clear p1
     try clear q1
     try clear hx1
     try clear p2
     try clear q2
     try clear hx2
     try clear qi2
     try clear c5
     try clear c5b0
     try clear c5b1
     try clear p6
     try clear c7
     try clear c8
     try clear c8b0
     try clear c9
     try clear c9b0
     try clear c10
     try clear c10b0
     try clear c11
     try clear c11b0
     try clear p12
     try clear q12
     try clear hx12
     try clear c13
     try clear c13b0
     try clear c13b1
     try clear c14
     try clear c14b0
     try clear p15
     try clear q15
     try clear hx15
     try clear c16
     try clear c16b0
     try clear c16b1
     try clear hx235_0
     try clear hx236_0
     try clear p12
     try clear p15
     try clear p2
     try clear p235
     try clear p236
     try clear q12
     try clear q15
     try clear q235
     try clear q236
     obtain ⟨kq, x9_5, rfl, HA, HJ5, HO_0, HO_1, HK, HB⟩ := hcut
     cases kq with
     | zero => exact absurd HA.out (by simp [impl_grow.j2])
     | succ kj5 =>
      have H := HA.out
      clear HA
      simp only [impl_grow.j2] at H
      by_cases c20 : 0 < (x1_1.length : Int)
      ·
       rw [if_pos c20] at H
       have c20b0 : decide (0 < (x1_1.length : Int)) = true := decide_eq_true c20
       have c20b1 : decide (0 < x1_1.length) = true := decide_eq_true (by omega)
       clear c20
       by_cases c21 : 0 ≤ a2
       ·
        rw [if_pos c21] at H
        have c21b0 := eq_true c21
        have c21b1 : decide (0 ≤ a2) = true := decide_eq_true c21
        clear c21
        by_cases c22 : a2 ≤ ((rdOf ByteArray.empty x1_1 0).size : Int)
        ·
         rw [if_pos c22] at H
         have c22b0 := eq_true c22
         have c22b1 : decide (a2 ≤ ((rdOf ByteArray.empty x1_1 0).size : Int)) = true := decide_eq_true c22
         clear c22
         obtain ⟨ji23, hji23⟩ : ∃ j_ : Int, (wrap64 (x9_5 - 1)) = j_ := ⟨_, rfl⟩
         replace H : (if 0 ≤ (ji23) then (if (ji23) < (x1_1.length : Int) then (if a2 ≤ ((rdOf ByteArray.empty x1_1 (ji23)).size : Int) then ((impl_common.f kj5 ((rdOf ByteArray.empty x1_1 0).extract (a2 : Int).toNat (rdOf ByteArray.empty x1_1 0).size) ((rdOf ByteArray.empty x1_1 (ji23)).extract (a2 : Int).toNat (rdOf ByteArray.empty x1_1 (ji23)).size)).bind fun t239 => (if a2 ≤ (wrap64 (a2 + t239)) then (if (wrap64 (a2 + t239)) ≤ ((rdOf ByteArray.empty x1_1 0).size : Int) then (if x0_1.length < 4398046511104 then ((some (x0_1 ++ [(⟨(rdOf ByteArray.empty x1_1 0).extract (a2 : Int).toNat ((wrap64 (a2 + t239)) : Int).toNat, (((rdOf ByteArray.empty x1_1 0).size : Int) == (wrap64 (a2 + t239))), a3⟩ : S64)] : List (S64))).bind fun y242 => (if 0 ≤ x9_5 then (if x9_5 ≤ (x1_1.length : Int) then ((some (x1_1.take (x9_5 : Int).toNat : List ByteArray)).bind fun y245 => (if 0 ≤ (x0_1.length : Int) then (if (x0_1.length : Int) < (y242.length : Int) then (if (rd_T64 y242 (x0_1.length : Int)).f1 = true then (if 1 ≤ (y245.length : Int) then ((impl_grow.f kj5 y242 (y245.drop 1) (wrap64 (a2 + t239)) (x0_1.length : Int)).bind fun t256 => (impl_grow.l0 kj5 t256 (x1_1.drop (x9_5 : Int).toNat) a2 a3)) else (none)) else ((impl_grow.f kj5 y242 y245 (wrap64 (a2 + t239)) (x0_1.length : Int)).bind fun t264 => (impl_grow.l0 kj5 t264 (x1_1.drop (x9_5 : Int).toNat) a2 a3))) else (none)) else (none))) else (none)) else (none))) else (none)) else (none)) else (none))) else (none)) else (none)) else (none)) = some r := by first | (rw [hji23] at H; exact H) | (simp only [hji23] at H ⊢; exact H)
         have hji23w : (IntKind.i64.wrap (x9_5 - 1)) = ji23 := (i64_w _).trans hji23
         by_cases c24 : 0 ≤ (ji23)
         ·
          rw [if_pos c24] at H
          have c24b0 : decide (0 ≤ (ji23)) = true := decide_eq_true c24
          clear c24
          by_cases c25 : (ji23) < (x1_1.length : Int)
          ·
           rw [if_pos c25] at H
           have c25b0 : decide ((ji23) < (x1_1.length : Int)) = true := decide_eq_true c25
           clear c25
           have c26b0 := eq_true (of_decide_eq_true (by first | (with_reducible assumption) | assumption) : 0 ≤ a2)
           by_cases c27 : a2 ≤ ((rdOf ByteArray.empty x1_1 (ji23)).size : Int)
           ·
            rw [if_pos c27] at H
            have c27b0 := eq_true c27
            have c27b1 : decide (a2 ≤ ((rdOf ByteArray.empty x1_1 (ji23)).size : Int)) = true := decide_eq_true c27
            clear c27
            replace H := Option.bind_eq_some_iff.mp H
            obtain ⟨t239, A280, H⟩ := H
            replace H : (if a2 ≤ (wrap64 (a2 + t239)) then (if (wrap64 (a2 + t239)) ≤ ((rdOf ByteArray.empty x1_1 0).size : Int) then (if x0_1.length < 4398046511104 then ((some (x0_1 ++ [(⟨(rdOf ByteArray.empty x1_1 0).extract (a2 : Int).toNat ((wrap64 (a2 + t239)) : Int).toNat, (((rdOf ByteArray.empty x1_1 0).size : Int) == (wrap64 (a2 + t239))), a3⟩ : S64)] : List (S64))).bind fun y242 => (if 0 ≤ x9_5 then (if x9_5 ≤ (x1_1.length : Int) then ((some (x1_1.take (x9_5 : Int).toNat : List ByteArray)).bind fun y245 => (if 0 ≤ (x0_1.length : Int) then (if (x0_1.length : Int) < (y242.length : Int) then (if (rd_T64 y242 (x0_1.length : Int)).f1 = true then (if 1 ≤ (y245.length : Int) then ((impl_grow.f kj5 y242 (y245.drop 1) (wrap64 (a2 + t239)) (x0_1.length : Int)).bind fun t256 => (impl_grow.l0 kj5 t256 (x1_1.drop (x9_5 : Int).toNat) a2 a3)) else (none)) else ((impl_grow.f kj5 y242 y245 (wrap64 (a2 + t239)) (x0_1.length : Int)).bind fun t264 => (impl_grow.l0 kj5 t264 (x1_1.drop (x9_5 : Int).toNat) a2 a3))) else (none)) else (none))) else (none)) else (none))) else (none)) else (none)) else (none)) = some r := H
            have A28 := aM A280
            clear A280
            have c29b0 := eq_true (of_decide_eq_true (by first | (with_reducible assumption) | assumption) : 0 ≤ a2)
            by_cases c30 : a2 ≤ (wrap64 (a2 + t239))
            ·
             rw [if_pos c30] at H
             have c30b0 := eq_true c30
             have c30b1 : decide (a2 ≤ (wrap64 (a2 + t239))) = true := decide_eq_true c30
             by_cases c31 : (wrap64 (a2 + t239)) ≤ ((rdOf ByteArray.empty x1_1 0).size : Int)
             ·
              rw [if_pos c31] at H
              have c31b0 := eq_true c31
              have c31b1 : decide ((wrap64 (a2 + t239)) ≤ ((rdOf ByteArray.empty x1_1 0).size : Int)) = true := decide_eq_true c31
              by_cases c32 : x0_1.length < 4398046511104
              ·
               rw [if_pos c32] at H
               have LMc32 := aM c32
               clear c32
               obtain ⟨y242, hy242⟩ : ∃ y_ : List (S64), y_ = (x0_1 ++ [(⟨(rdOf ByteArray.empty x1_1 0).extract (a2 : Int).toNat ((wrap64 (a2 + t239)) : Int).toNat, (((rdOf ByteArray.empty x1_1 0).size : Int) == (wrap64 (a2 + t239))), a3⟩ : S64)]) := ⟨_, rfl⟩
               replace H : (if 0 ≤ x9_5 then (if x9_5 ≤ (x1_1.length : Int) then ((some (x1_1.take (x9_5 : Int).toNat : List ByteArray)).bind fun y245 => (if 0 ≤ (x0_1.length : Int) then (if (x0_1.length : Int) < (y242.length : Int) then (if (rd_T64 y242 (x0_1.length : Int)).f1 = true then (if 1 ≤ (y245.length : Int) then ((impl_grow.f kj5 y242 (y245.drop 1) (wrap64 (a2 + t239)) (x0_1.length : Int)).bind fun t256 => (impl_grow.l0 kj5 t256 (x1_1.drop (x9_5 : Int).toNat) a2 a3)) else (none)) else ((impl_grow.f kj5 y242 y245 (wrap64 (a2 + t239)) (x0_1.length : Int)).bind fun t264 => (impl_grow.l0 kj5 t264 (x1_1.drop (x9_5 : Int).toNat) a2 a3))) else (none)) else (none))) else (none)) else (none)) = some r := by first | (rw [hy242]; with_reducible exact H) | (have H2_ := (Option.bind_some _ _).symm.trans H; rw [hy242]; with_reducible exact H2_) | (have H2_ := (Option.bind_some _ _).symm.trans H; with_reducible exact H2_) | with_reducible exact H | (rw [hy242]; exact H) | exact H
               have Ny242 := aM hy242
               clear hy242
               by_cases c33 : 0 ≤ x9_5
               ·
                rw [if_pos c33] at H
                have c33b0 := eq_true c33
                have c33b1 : decide (0 ≤ x9_5) = true := decide_eq_true c33
                clear c33
                by_cases c34 : x9_5 ≤ (x1_1.length : Int)
                ·
                 rw [if_pos c34] at H
                 have c34b0 := eq_true c34
                 have c34b1 : decide (x9_5 ≤ (x1_1.length : Int)) = true := decide_eq_true c34
                 clear c34
                 obtain ⟨y245, hy245⟩ : ∃ y_ : List ByteArray, y_ = (x1_1.take (x9_5 : Int).toNat) := ⟨_, rfl⟩
                 replace H : (if 0 ≤ (x0_1.length : Int) then (if (x0_1.length : Int) < (y242.length : Int) then (if (rd_T64 y242 (x0_1.length : Int)).f1 = true then (if 1 ≤ (y245.length : Int) then ((impl_grow.f kj5 y242 (y245.drop 1) (wrap64 (a2 + t239)) (x0_1.length : Int)).bind fun t256 => (impl_grow.l0 kj5 t256 (x1_1.drop (x9_5 : Int).toNat) a2 a3)) else (none)) else ((impl_grow.f kj5 y242 y245 (wrap64 (a2 + t239)) (x0_1.length : Int)).bind fun t264 => (impl_grow.l0 kj5 t264 (x1_1.drop (x9_5 : Int).toNat) a2 a3))) else (none)) else (none)) = some r := by first | (rw [hy245]; with_reducible exact H) | (have H2_ := (Option.bind_some _ _).symm.trans H; rw [hy245]; with_reducible exact H2_) | (have H2_ := (Option.bind_some _ _).symm.trans H; with_reducible exact H2_) | with_reducible exact H | (rw [hy245]; exact H) | exact H
                 have Ny245 := aM hy245
                 clear hy245
                 by_cases c35 : 0 ≤ (x0_1.length : Int)
                 ·
                  rw [if_pos c35] at H
                  have c35b0 : decide (0 ≤ (x0_1.length : Int)) = true := decide_eq_true c35
                  have c35b1 : decide (0 ≤ x0_1.length) = true := decide_eq_true (by omega)
                  clear c35
                  by_cases c36 : (x0_1.length : Int) < (y242.length : Int)
                  ·
                   rw [if_pos c36] at H
                   have c36b0 : decide ((x0_1.length : Int) < (y242.length : Int)) = true := decide_eq_true c36
                   have c36b1 : decide (x0_1.length < y242.length) = true := decide_eq_true (Int.ofNat_lt.mp c36)
                   clear c36
                   obtain ⟨bq37, hbq37⟩ : ∃ b_ : Bool, b_ = ((rd_T64 y242 (x0_1.length : Int)).f1) := ⟨_, rfl⟩
                   replace H : (if bq37 = true then (if 1 ≤ (y245.length : Int) then ((impl_grow.f kj5 y242 (y245.drop 1) (wrap64 (a2 + t239)) (x0_1.length : Int)).bind fun t256 => (impl_grow.l0 kj5 t256 (x1_1.drop (x9_5 : Int).toNat) a2 a3)) else (none)) else ((impl_grow.f kj5 y242 y245 (wrap64 (a2 + t239)) (x0_1.length : Int)).bind fun t264 => (impl_grow.l0 kj5 t264 (x1_1.drop (x9_5 : Int).toNat) a2 a3))) = some r := by rw [← hbq37] at H; exact H
                   have Nbq37 := aM hbq37
                   clear hbq37
                   by_cases c38 : bq37 = true
                   ·
                    subst c38
                    have H1 : (if 1 ≤ (y245.length : Int) then ((impl_grow.f kj5 y242 (y245.drop 1) (wrap64 (a2 + t239)) (x0_1.length : Int)).bind fun t256 => (impl_grow.l0 kj5 t256 (x1_1.drop (x9_5 : Int).toNat) a2 a3)) else (none)) = some r := by rw [if_pos rfl] at H; exact H
                    clear H
                    have H := H1
                    clear H1
                    by_cases c39 : 1 ≤ (y245.length : Int)
                    ·
                     rw [if_pos c39] at H
                     have c39b0 := eq_true c39
                     have c39b1 : decide (1 ≤ (y245.length : Int)) = true := decide_eq_true c39
                     clear c39
                     obtain ⟨y251, hy251⟩ : ∃ y_ : List ByteArray, y_ = (y245.drop 1) := ⟨_, rfl⟩
                     replace H : ((impl_grow.f kj5 y242 y251 (wrap64 (a2 + t239)) (x0_1.length : Int)).bind fun t256 => (impl_grow.l0 kj5 t256 (x1_1.drop (x9_5 : Int).toNat) a2 a3)) = some r := by first | (rw [hy251]; with_reducible exact H) | (have H2_ := (Option.bind_some _ _).symm.trans H; rw [hy251]; with_reducible exact H2_) | (have H2_ := (Option.bind_some _ _).symm.trans H; with_reducible exact H2_) | with_reducible exact H | (rw [hy251]; exact H) | exact H
                     have Ny251 := aM hy251
                     clear hy251
                     replace H := Option.bind_eq_some_iff.mp H
                     obtain ⟨t256, A400, H⟩ := H
                     replace H : (impl_grow.l0 kj5 t256 (x1_1.drop (x9_5 : Int).toNat) a2 a3) = some r := H
                     have A40 := aM A400
                     clear A400
                     have c41b0 := eq_true (of_decide_eq_true (by first | (with_reducible assumption) | assumption) : 0 ≤ x9_5)
                     have c42b0 := eq_true (of_decide_eq_true (by first | (with_reducible assumption) | assumption) : x9_5 ≤ (x1_1.length : Int))
                     obtain ⟨y259, hy259⟩ : ∃ y_ : List ByteArray, y_ = (x1_1.drop (x9_5 : Int).toNat) := ⟨_, rfl⟩
                     replace H : (impl_grow.l0 kj5 t256 y259 a2 a3) = some r := by first | (rw [hy259]; with_reducible exact H) | (have H2_ := (Option.bind_some _ _).symm.trans H; rw [hy259]; with_reducible exact H2_) | (have H2_ := (Option.bind_some _ _).symm.trans H; with_reducible exact H2_) | with_reducible exact H | (rw [hy259]; exact H) | exact H
                     have Ny259 := aM hy259
                     clear hy259
                     have H' := aM H
                     clear H
                     try go_wp2
                     have n0_ := aM (Kd.R_drew HO_0.out)
                     have n1_ := aM (Kd.V_drew HO_1.out)
                     have n2_ := aM (Kept.drew HK.out)
                     have n3_ := aM (below_drew1 HB.out)
                     clear HO_0
                     clear HO_1
                     clear HK
                     clear HB
                     have HO_0 := n0_
                     have HO_1 := n1_
                     have HK := n2_
                     have HB := n3_
                     clear n0_ n1_ n2_ n3_
                     have p237 : 0 ≤ (0 : Int) := (by omega)
                     have q237 : 0 < (x1_1.length : Int) := of_decide_eq_true (by first | (with_reducible assumption) | assumption)
                     obtain ⟨ad237, e237, hx237_0⟩ := Kd.at_string (Kd.V_reads' HO_1.out).2.2 0 p237 q237
                     cases e237
                     have qi237 : (0 < x1_1.length) = True := eq_true (by omega)
                     (try rw [show ((0 : Int)).toNat = 0 from rfl] at hx237_0)
                     (try rw [Addr.add_zero'] at hx237_0)
                     replace p237 := eq_true p237
                     replace q237 := eq_true q237
                     have p238 : 0 ≤ ((ji23) : Int) := of_decide_eq_true (by first | (with_reducible assumption) | assumption)
                     have q238 : (ji23) < (x1_1.length : Int) := of_decide_eq_true (by first | (with_reducible assumption) | assumption)
                     obtain ⟨ad238, e238, hx238_0⟩ := Kd.at_string (Kd.V_reads' HO_1.out).2.2 (ji23) p238 q238
                     obtain rfl : ad237 = ad238 := (by injection e238)
                     replace p238 := eq_true p238
                     replace q238 := eq_true q238
                     refine start_ (n := 14) (S := fun w' => w'.cell? ad237 = some (.string (rdOf ByteArray.empty x1_1 0)) ∧ w'.cell? (ad237.add ((ji23)).toNat) = some (.string (rdOf ByteArray.empty x1_1 (ji23)))) (ds := []) (bq 14 0) (by kernel_rfl) rfl (by kernel_rfl) ⟨hx237_0, hx238_0⟩ (fun hHeld => ?_); refine with_tabW impl_grow.tab5 impl_grow.bits5 (fun HT_ HW_ => ?_)
                     generalize wc.drew = w43 at HO_0 HO_1 HK HB hx237_0 hx238_0 hHeld ⊢
                     refine pure_ (i := 0) (N := some 37) (v := ?_) (a' := ?_) (bq 14 1) rfl rfl (any_of HT_.out (by kernel_rfl)) (fun _ _ _ h => h) (Or.inl ⟨by rfl, ?_⟩) ?_ ?_; rotate_left; (intro w'; go_simp; (with_reducible rfl)); rotate_left; (simp only [Act.put, zSA, zSB, zSC, i64_w, i32_w]; rfl)
                     refine pure_ (i := 1) (N := some 38) (v := ?_) (a' := ?_) (bq 14 3) rfl rfl (any_of HT_.out (by kernel_rfl)) (fun _ _ _ h => h) (Or.inl ⟨by rfl, ?_⟩) ?_ ?_; rotate_left; (intro w'; go_simp; (with_reducible rfl)); rotate_left; (simp only [Act.put, zSA, zSB, zSC, i64_w, i32_w]; rfl)
                     refine pure_ (i := 3) (N := some 40) (v := ?_) (a' := ?_) (bq 14 11) rfl rfl (any_of HT_.out (by kernel_rfl)) (fun _ _ _ h => h) (Or.inl ⟨by rfl, ?_⟩) ?_ ?_; rotate_left; (intro w'; go_simp; (with_reducible rfl)); rotate_left; (simp only [Act.put, zSA, zSB, zSC, i64_w, i32_w]; rfl)
                     refine pure_ (i := 5) (N := some 42) (v := ?_) (a' := ?_) (bq 14 43) rfl rfl (any_of HT_.out (by kernel_rfl)) (fun _ _ _ h => h) (Or.inl ⟨by rfl, ?_⟩) ?_ ?_; rotate_left; (intro w'; go_simp; (with_reducible rfl)); rotate_left; (simp only [Act.put, zSA, zSB, zSC, i64_w, i32_w]; rfl)
                     refine pure_ (i := 6) (N := some 43) (v := ?_) (a' := ?_) (bq 14 107) rfl rfl (any_of HT_.out (by kernel_rfl)) (fun _ _ _ h => h) (Or.inl ⟨by rfl, ?_⟩) ?_ ?_; rotate_left; (intro w'; go_simp; (with_reducible rfl)); rotate_left; (simp only [Act.put, zSA, zSB, zSC, i64_w, i32_w]; rfl)
                     refine pure_ (i := 7) (N := some 44) (v := ?_) (a' := ?_) (bq 14 235) rfl rfl (any_of HT_.out (by kernel_rfl)) (fun _ _ _ h => h) (Or.inl ⟨by rfl, ?_⟩) ?_ ?_; rotate_left; (intro w'; go_simp; (with_reducible rfl)); rotate_left; (simp only [Act.put, zSA, zSB, zSC, i64_w, i32_w]; rfl)
                     refine pure_ (i := 8) (N := some 45) (v := ?_) (a' := ?_) (bq 14 491) rfl rfl (any_of HT_.out (by kernel_rfl)) (fun _ _ _ h => h) (Or.inl ⟨by rfl, ?_⟩) ?_ ?_; rotate_left; (intro w'; go_simp; (with_reducible rfl)); rotate_left; (simp only [Act.put, zSA, zSB, zSC, i64_w, i32_w]; rfl)
                     refine pure_ (i := 10) (N := some 47) (v := ?_) (a' := ?_) (bq 14 1515) rfl rfl (any_of HT_.out (by kernel_rfl)) (fun _ _ _ h => h) (Or.inl ⟨by rfl, ?_⟩) ?_ ?_; rotate_left; (intro w'; go_simp; (with_reducible rfl)); rotate_left; (simp only [Act.put, zSA, zSB, zSC, i64_w, i32_w]; rfl)
                     refine take_ (i := 2) (N := some 39) (v := ?_) (a' := ?_) (bq 14 1519) rfl rfl (take_ofW HT_.out HW_.out (by kernel_rfl)) (fun _ _ _ h => h) (Or.inl ⟨by rfl, ?_⟩) hHeld ?_ ?_; rotate_left; (rintro w' ⟨s0, s1⟩; go_simp; (with_reducible rfl)); rotate_left; (simp only [Act.put, zSA, zSB, zSC, i64_w, i32_w]; rfl)
                     refine pure_ (i := 4) (N := some 41) (v := ?_) (a' := ?_) (bq 14 1535) rfl rfl (any_of HT_.out (by kernel_rfl)) (fun _ _ _ h => h) (Or.inl ⟨by rfl, ?_⟩) ?_ ?_; rotate_left; (intro w'; go_simp; (with_reducible rfl)); rotate_left; (simp only [Act.put, zSA, zSB, zSC, i64_w, i32_w]; rfl)
                     refine take_ (i := 9) (N := some 46) (v := ?_) (a' := ?_) (bq 14 2047) rfl rfl (take_ofW HT_.out HW_.out (by kernel_rfl)) (fun _ _ _ h => h) (Or.inl ⟨by rfl, ?_⟩) hHeld ?_ ?_; rotate_left; (rintro w' ⟨s0, s1⟩; go_simp; (with_reducible rfl)); rotate_left; (simp only [Act.put, zSA, zSB, zSC, i64_w, i32_w]; rfl)
                     refine pure_ (i := 11) (N := some 48) (v := ?_) (a' := ?_) (bq 14 4095) rfl rfl (any_of HT_.out (by kernel_rfl)) (fun _ _ _ h => h) (Or.inl ⟨by rfl, ?_⟩) ?_ ?_; rotate_left; (intro w'; go_simp; (with_reducible rfl)); rotate_left; (simp only [Act.put, zSA, zSB, zSC, i64_w, i32_w]; rfl)
                     refine one_ (i := 12) (N := some 49) (bq 14 8191) rfl rfl (one_of HT_.out (by kernel_rfl)) (by decide) (fun K hK => ?_)
                     refine goes_ Try.func96 (by kernel_rfl) rfl #[.string ((rdOf ByteArray.empty x1_1 0).extract (a2 : Int).toNat (rdOf ByteArray.empty x1_1 0).size), .string ((rdOf ByteArray.empty x1_1 (ji23)).extract (a2 : Int).toNat (rdOf ByteArray.empty x1_1 (ji23)).size)] (by rfl) rfl rfl (by (try simp only [List.map_toArray, List.map_cons, List.map_nil]); first | done | (simp only [hji23]; rfl) | rfl | (simp only [List.length_drop, List.length_take]; rfl)) ?_
                     with_reducible refine (impl_common.calls kj5 ((rdOf ByteArray.empty x1_1 0).extract (a2 : Int).toNat (rdOf ByteArray.empty x1_1 0).size) ((rdOf ByteArray.empty x1_1 (ji23)).extract (a2 : Int).toNat (rdOf ByteArray.empty x1_1 (ji23)).size) t239 _ A28.out).mono ?_
                     rintro e w' ⟨rfl, ⟨nd, rfl⟩⟩
                     refine ⟨_, rfl, ?_⟩
                     refine hK.out _ _ ⟨hHeld.1, hHeld.2⟩ (fun hHeld => ?_)
                     clear hK K
                     refine norm_ (a' := ?_) ?_ ?_
                     rotate_left
                     ·
                      show Act.put _ (some 49) _ = _
                      simp only [Act.put, zSA, zSB, zSC, i64_w, i32_w]
                      rfl
                     refine pure_ (i := 13) (N := some 10) (v := ?_) (a' := ?_) (bq 14 16383) rfl rfl (any_of HT_.out (by kernel_rfl)) (fun _ _ _ h => h) (Or.inl ⟨by rfl, ?_⟩) ?_ ?_; rotate_left; (intro w'; go_simp; (with_reducible rfl)); rotate_left; (simp only [Act.put, zSA, zSB, zSC, i64_w, i32_w]; rfl)
                     refine done_ (done_of HT_.out (by kernel_rfl)) ?_
                     obtain ⟨Ao44, co44, eo44⟩ := Kd.R_slice HO_0.out
                     subst eo44
                     try go_wp2
                     (try (rw [drewN_self w43]; generalize hq_ : World.drewN w43 _ = w43; have n0_ : Aside0 (Kd.R k64 64 w43 w0.heap.size (fun k_ => (P0_ k_ ∨ w.heap.size ≤ k_)) (.slice Ao44 x0_1.length co44) x0_1) := ⟨by rw [← hq_]; exact (by (with_reducible repeat (first | apply Kd.R_alloc | apply Kd.R_drewN | apply Kd.R_drew)); exact HO_0.out)⟩; have n1_ : Aside0 (Kd.V Kd.string 9 w43 w0.heap.size (fun k_ => ((P0_ k_ ∨ P1_ k_) ∨ w.heap.size ≤ k_) ∧ some k_ ≠ (.slice Ao44 x0_1.length co44 : Value).ownBlock) (.slice (some ad237) x1_1.length co7) x1_1) := ⟨by rw [← hq_]; exact (by (with_reducible repeat (first | apply Kd.V_alloc | apply Kd.V_drewN | apply Kd.V_drew)); exact HO_1.out)⟩; have n2_ : Aside0 (Kept w w43 (fun k_ => P0_ k_)) := ⟨by rw [← hq_]; exact (by repeat (first | (with_reducible first | exact HK.out | apply Kept.alloc | apply Kept.drewN | apply Kept.drew) | exact HK.out))⟩; have n3_ : Aside0 (Below w0.heap.size w0 w43) := ⟨by rw [← hq_]; exact (by repeat (first | (with_reducible first | exact HB.out | apply below_alloc | apply pw_below_drewN | apply below_drew1) | exact HB.out))⟩; clear HO_0 HO_1 HK HB hq_; have HO_0 := n0_; have HO_1 := n1_; have HK := n2_; have HB := n3_; clear n0_ n1_ n2_ n3_))
                     have n0_ := aM (Kd.R_drew HO_0.out)
                     have n1_ := aM (Kd.V_drew HO_1.out)
                     have n2_ := aM (Kept.drew HK.out)
                     have n3_ := aM (below_drew1 HB.out)
                     clear HO_0
                     clear HO_1
                     clear HK
                     clear HB
                     have HO_0 := n0_
                     have HO_1 := n1_
                     have HK := n2_
                     have HB := n3_
                     clear n0_ n1_ n2_ n3_
                     have p240 : 0 ≤ (0 : Int) := (by omega)
                     have q240 : 0 < (x1_1.length : Int) := of_decide_eq_true (by first | (with_reducible assumption) | assumption)
                     obtain ⟨ad240, e240, hx240_0⟩ := Kd.at_string (Kd.V_reads' HO_1.out).2.2 0 p240 q240
                     obtain rfl : ad237 = ad240 := (by injection e240)
                     have qi240 : (0 < x1_1.length) = True := eq_true (by omega)
                     (try rw [show ((0 : Int)).toNat = 0 from rfl] at hx240_0)
                     (try rw [Addr.add_zero'] at hx240_0)
                     replace p240 := eq_true p240
                     replace q240 := eq_true q240
                     have p241 : 0 ≤ (0 : Int) := (by omega)
                     have q241 : 0 < (x1_1.length : Int) := of_decide_eq_true (by first | (with_reducible assumption) | assumption)
                     obtain ⟨ad241, e241, hx241_0⟩ := Kd.at_string (Kd.V_reads' HO_1.out).2.2 0 p241 q241
                     obtain rfl : ad237 = ad241 := (by injection e241)
                     have qi241 : (0 < x1_1.length) = True := eq_true (by omega)
                     (try rw [show ((0 : Int)).toNat = 0 from rfl] at hx241_0)
                     (try rw [Addr.add_zero'] at hx241_0)
                     replace p241 := eq_true p241
                     replace q241 := eq_true q241
                     refine start_ (n := 18) (S := fun w' => w'.cell? ad237 = some (.string (rdOf ByteArray.empty x1_1 0)) ∧ w'.cell? ad237 = some (.string (rdOf ByteArray.empty x1_1 0))) (ds := [15, 16]) (bq 18 0) (by kernel_rfl) rfl (by kernel_rfl) ⟨hx240_0, hx241_0⟩ (fun hHeld => ?_); refine with_tabW impl_grow.tab8 impl_grow.bits8 (fun HT_ HW_ => ?_)
                     generalize w43.drew = w45 at HO_0 HO_1 HK HB hx240_0 hx241_0 hHeld ⊢
                     refine pure_ (i := 0) (N := some 55) (v := ?_) (a' := ?_) (bq 18 1) rfl rfl (any_of HT_.out (by kernel_rfl)) (fun _ _ _ h => h) (Or.inl ⟨by rfl, ?_⟩) ?_ ?_; rotate_left; (intro w'; go_simp; (with_reducible rfl)); rotate_left; (simp only [Act.put, zSA, zSB, zSC, i64_w, i32_w]; rfl)
                     refine pure_ (i := 1) (N := some 56) (v := ?_) (a' := ?_) (bq 18 3) rfl rfl (any_of HT_.out (by kernel_rfl)) (fun _ _ _ h => h) (Or.inl ⟨by rfl, ?_⟩) ?_ ?_; rotate_left; (intro w'; go_simp; (with_reducible rfl)); rotate_left; (simp only [Act.put, zSA, zSB, zSC, i64_w, i32_w]; rfl)
                     refine pure_ (i := 2) (N := some 57) (v := ?_) (a' := ?_) (bq 18 7) rfl rfl (any_of HT_.out (by kernel_rfl)) (fun _ _ _ h => h) (Or.inl ⟨by rfl, ?_⟩) ?_ ?_; rotate_left; (intro w'; go_simp; (with_reducible rfl)); rotate_left; (simp only [Act.put, zSA, zSB, zSC, i64_w, i32_w]; rfl)
                     refine pure_ (i := 4) (N := some 59) (v := ?_) (a' := ?_) (bq 18 23) rfl rfl (any_of HT_.out (by kernel_rfl)) (fun _ _ _ h => h) (Or.inl ⟨by rfl, ?_⟩) ?_ ?_; rotate_left; (intro w'; go_simp; (with_reducible rfl)); rotate_left; (simp only [Act.put, zSA, zSB, zSC, i64_w, i32_w]; rfl)
                     refine pure_ (i := 5) (N := some 60) (v := ?_) (a' := ?_) (bq 18 55) rfl rfl (any_of HT_.out (by kernel_rfl)) (fun _ _ _ h => h) (Or.inl ⟨by rfl, ?_⟩) ?_ ?_; rotate_left; (intro w'; go_simp; (with_reducible rfl)); rotate_left; (simp only [Act.put, zSA, zSB, zSC, i64_w, i32_w]; rfl)
                     refine pure_ (i := 7) (N := some 62) (v := ?_) (a' := ?_) (bq 18 183) rfl rfl (any_of HT_.out (by kernel_rfl)) (fun _ _ _ h => h) (Or.inl ⟨by rfl, ?_⟩) ?_ ?_; rotate_left; (intro w'; go_simp; (with_reducible rfl)); rotate_left; (simp only [Act.put, zSA, zSB, zSC, i64_w, i32_w]; rfl)
                     refine pure_ (i := 8) (N := some 63) (v := ?_) (a' := ?_) (bq 18 439) rfl rfl (any_of HT_.out (by kernel_rfl)) (fun _ _ _ h => h) (Or.inl ⟨by rfl, ?_⟩) ?_ ?_; rotate_left; (intro w'; go_simp; (with_reducible rfl)); rotate_left; (simp only [Act.put, zSA, zSB, zSC, i64_w, i32_w]; rfl)
                     refine pure_ (i := 11) (N := some 66) (v := ?_) (a' := ?_) (bq 18 2487) rfl rfl (any_of HT_.out (by kernel_rfl)) (fun _ _ _ h => h) (Or.inl ⟨by rfl, ?_⟩) ?_ ?_; rotate_left; (intro w'; go_simp; (with_reducible rfl)); rotate_left; (simp only [Act.put, zSA, zSB, zSC, i64_w, i32_w]; rfl)
                     refine pure_ (i := 13) (N := some 68) (v := ?_) (a' := ?_) (bq 18 10679) rfl rfl (any_of HT_.out (by kernel_rfl)) (fun _ _ _ h => h) (Or.inl ⟨by rfl, ?_⟩) ?_ ?_; rotate_left; (intro w'; go_simp; (with_reducible rfl)); rotate_left; (simp only [Act.put, zSA, zSB, zSC, i64_w, i32_w]; rfl)
                     refine take_ (i := 3) (N := some 58) (v := ?_) (a' := ?_) (bq 18 10687) rfl rfl (take_ofW HT_.out HW_.out (by kernel_rfl)) (fun _ _ _ h => h) (Or.inl ⟨by rfl, ?_⟩) hHeld ?_ ?_; rotate_left; (rintro w' ⟨s0, s1⟩; go_simp; (with_reducible rfl)); rotate_left; (simp only [Act.put, zSA, zSB, zSC, i64_w, i32_w]; rfl)
                     refine pure_ (i := 6) (N := some 61) (v := ?_) (a' := ?_) (bq 18 10751) rfl rfl (any_of HT_.out (by kernel_rfl)) (fun _ _ _ h => h) (Or.inl ⟨by rfl, ?_⟩) ?_ ?_; rotate_left; (intro w'; go_simp; (with_reducible rfl)); rotate_left; (simp only [Act.put, zSA, zSB, zSC, i64_w, i32_w]; rfl)
                     refine take_ (i := 9) (N := some 64) (v := ?_) (a' := ?_) (bq 18 11263) rfl rfl (take_ofW HT_.out HW_.out (by kernel_rfl)) (fun _ _ _ h => h) (Or.inl ⟨by rfl, ?_⟩) hHeld ?_ ?_; rotate_left; (rintro w' ⟨s0, s1⟩; go_simp; (with_reducible rfl)); rotate_left; (simp only [Act.put, zSA, zSB, zSC, i64_w, i32_w]; rfl)
                     refine pure_ (i := 10) (N := some 65) (v := ?_) (a' := ?_) (bq 18 12287) rfl rfl (any_of HT_.out (by kernel_rfl)) (fun _ _ _ h => h) (Or.inl ⟨by rfl, ?_⟩) ?_ ?_; rotate_left; (intro w'; go_simp; (with_reducible rfl)); rotate_left; (simp only [Act.put, zSA, zSB, zSC, i64_w, i32_w]; rfl)
                     refine pure_ (i := 12) (N := some 67) (v := ?_) (a' := ?_) (bq 18 16383) rfl rfl (any_of HT_.out (by kernel_rfl)) (fun _ _ _ h => h) (Or.inl ⟨by rfl, ?_⟩) ?_ ?_; rotate_left; (intro w'; go_simp; (with_reducible rfl)); rotate_left; (simp only [Act.put, zSA, zSB, zSC, i64_w, i32_w]; rfl)
                     refine pure_ (i := 14) (N := some 69) (v := ?_) (a' := ?_) (bq 18 32767) rfl rfl (any_of HT_.out (by kernel_rfl)) (fun _ _ _ h => h) (Or.inl ⟨by rfl, ?_⟩) ?_ ?_; rotate_left; (intro w'; go_simp; (with_reducible rfl)); rotate_left; (simp only [Act.put, zSA, zSB, zSC, i64_w, i32_w]; rfl)
                     refine last_ (i := 15) (N := some 70) #[true, true, true, true, true, true, true, true, true, true, true, true, true, true, true, true, false, false] rfl rfl (one_of HT_.out (by kernel_rfl)) (by decide) (fun K hK => ?_)
                     refine value_ (w1 := ?_) (v := ?_) (by rfl) rfl ?_ ?_
                     rotate_left 2
                     ·
                      go_simp
                      constructor
                      ·
                       rfl
                      ·
                       rfl
                     refine hK.out _ _ ?_
                     clear hK K
                     refine norm_ (a' := ?_) ?_ ?_
                     rotate_left
                     ·
                      show Act.put _ (some 70) _ = _
                      simp only [Act.put, zSA, zSB, zSC, i64_w, i32_w]
                      rfl
                     refine last_ (i := 16) (N := some 71) #[true, true, true, true, true, true, true, true, true, true, true, true, true, true, true, true, true, false] rfl rfl (one_of HT_.out (by kernel_rfl)) (by decide) (fun K hK => ?_)
                     refine Kd.R_append_step k64 (w0 := w0) w0.heap.size (by rfl) (.tmp 55) (.tmp 70) 24 64 (.agg #[(.string ⟨#[]⟩), (.bool false), (.int .i64 0)]) 32 rfl Try.underlying24 info64 rfl (by decide) (by omega) (.slice Ao44 x0_1.length co44) x0_1 (⟨(rdOf ByteArray.empty x1_1 0).extract (a2 : Int).toNat ((wrap64 (a2 + t239)) : Int).toNat, (((rdOf ByteArray.empty x1_1 0).size : Int) == (wrap64 (a2 + t239))), a3⟩ : S64) [.string ((rdOf ByteArray.empty x1_1 0).extract (a2 : Int).toNat ((wrap64 (a2 + t239)) : Int).toNat), .bool (((rdOf ByteArray.empty x1_1 0).size : Int) == (wrap64 (a2 + t239))), .int .i64 a3] (fun k_ => (P0_ k_ ∨ w.heap.size ≤ k_)) (fun _ => False) rfl rfl ?aP (fun _ hk => hk.elim) ?aF ?aO ?aB ?aS ?aL ?_
                     (case aP => exact k64_mkM _ _ _ (⟨(rdOf ByteArray.empty x1_1 0).extract (a2 : Int).toNat ((wrap64 (a2 + t239)) : Int).toNat, (((rdOf ByteArray.empty x1_1 0).size : Int) == (wrap64 (a2 + t239))), a3⟩ : S64))
                     (case aB => exact (by repeat (first | (with_reducible first | exact HB.out | apply below_alloc | apply pw_below_drewN | apply below_drew1) | exact HB.out)))
                     (case aF => exact (fun k_ hk => (.inr (Nat.le_trans (by first | exact HK.out.1 | exact (show Kept w _ (fun k_ => P0_ k_) from by repeat (first | (with_reducible first | exact HK.out | apply Kept.alloc | apply Kept.drewN | apply Kept.drew) | exact HK.out)).1) hk))))
                     (case aO => exact (by (with_reducible repeat (first | apply Kd.R_alloc | apply Kd.R_drewN | apply Kd.R_drew)); exact HO_0.out))
                     (case aS => exact (below_size (by repeat (first | (with_reducible first | exact HB.out | apply below_alloc | apply pw_below_drewN | apply below_drew1) | exact HB.out))))
                     (case aL => have := LMc32.out; omega)
                     intro v243 w46 ho hb hg hat
                     rw [← Ny242.out] at ho
                     have n0_ := aM (Kd.V_afterv (ok := (fun k_ => ((P0_ k_ ∨ P1_ k_) ∨ w.heap.size ≤ k_))) (by (with_reducible repeat (first | apply Kd.V_alloc | apply Kd.V_drewN | apply Kd.V_drew)); exact HO_1.out) hg hat)
                     have n1_ := aM (hb)
                     have n2_ := aM (Kept.of_grown (S := (fun k_ => P0_ k_)) hg (by repeat (first | (with_reducible first | exact HK.out | apply Kept.alloc | apply Kept.drewN | apply Kept.drew) | exact HK.out)) (fun k_ e_ => (HO_0.out.1 k_ e_)))
                     have n3_ := aM (ho)
                     clear HO_1
                     clear HB
                     clear HK
                     clear HO_0
                     have HO_1 := n0_
                     have HB := n1_
                     have HK := n2_
                     have HO244 := n3_
                     clear n0_ n1_ n2_ n3_
                     clear ho hb hg hat
                     refine hK.out _ _ ?_
                     clear hK K
                     refine norm_ (a' := ?_) ?_ ?_
                     rotate_left
                     ·
                      show Act.put _ (some 71) _ = _
                      simp only [Act.put, zSA, zSB, zSC, i64_w, i32_w]
                      rfl
                     refine pure_ (i := 17) (N := some 0) (v := ?_) (a' := ?_) (bq 18 262143) rfl rfl (any_of HT_.out (by kernel_rfl)) (fun _ _ _ h => h) (Or.inl ⟨by rfl, ?_⟩) ?_ ?_; rotate_left; (intro w'; go_simp; (with_reducible rfl)); rotate_left; (simp only [Act.put, zSA, zSB, zSC, i64_w, i32_w]; rfl)
                     refine done_ (done_of HT_.out (by kernel_rfl)) ?_
                     have q47 : (x9_5 : Int) ≤ ((x1_1.length : Int) : Int) := of_decide_eq_true (by first | (with_reducible assumption) | assumption)
                     obtain ⟨i047, hi047, _, hsz47, _⟩ := info_parts info9
                     have hroom47 : x1_1.length ≤ co7 := (Kd.V_reads' HO_1.out).2.1
                     have hC47 : Kd.F Kd.string _ _ (some ad237) x1_1.length x1_1 := (Kd.V_at (base := w0.heap.size) HO_1.out).2.2
                     have hcut47 := cut_to (P := Try.prog) 22 9 .i64 Try.underlying22 hi047 (some ad237) x1_1.length co7 x9_5 (of_decide_eq_true (by first | (with_reducible assumption) | assumption)) q47 hroom47
                     have hr47 := Kd.F_take (m := (x9_5 : Int).toNat) hC47 (by omega)
                     have hy47 : y245.length = (x9_5 : Int).toNat := (by rw [Ny245.out, List.length_take]; omega)
                     rw [← Ny245.out] at hr47
                     rw [← hy47] at hcut47
                     have HO249 := aM (show Kd.V Kd.string 9 _ w0.heap.size _ (.slice (some ad237) y245.length co7) y245 from Kd.V_mk (by omega) hr47)
                     have HC249 := aM (show y245.length ≤ co7 from by omega)
                     clear hr47 hC47 hroom47 hi047 hsz47
                     have KY47 := aM hy47
                     clear hy47
                     replace q47 := eq_true q47
                     obtain ⟨Ao48, co48, eo48⟩ := Kd.R_slice HO244.out
                     subst eo48
                     have p250 : 0 ≤ ((x0_1.length : Int) : Int) := of_decide_eq_true (by first | (with_reducible assumption) | assumption)
                     have q250 : (x0_1.length : Int) < (y242.length : Int) := of_decide_eq_true (by first | (with_reducible assumption) | assumption)
                     obtain ⟨ad250, e250, hx250_0, hx250_1, hx250_2⟩ := at_T64 (Kd.R_reads' HO244.out).2.2 (x0_1.length : Int) p250 q250
                     (try rw [← Nbq37.out] at hx250_1)
                     cases e250
                     try have hz_hx250_0 := aM hx250_0
                     try have hz_hx250_1 := aM hx250_1
                     try have hz_hx250_2 := aM hx250_2
                     (try simp only [Go.IntWalk.toNatUp] at hx250_0)
                     (try simp only [Go.IntWalk.toNatUp] at hx250_1)
                     (try simp only [Go.IntWalk.toNatUp] at hx250_2)
                     replace p250 := eq_true p250
                     replace q250 := eq_true q250
                     have q49 : (1 : Int) ≤ ((y245.length : Int) : Int) := of_decide_eq_true (by first | (with_reducible assumption) | assumption)
                     obtain ⟨i049, hi049, _, hsz49, _⟩ := info_parts info9
                     have hroom49 : y245.length ≤ co7 := (Kd.V_reads' HO249.out).2.1
                     have hC49 : Kd.F Kd.string _ _ (some ad237) y245.length y245 := (Kd.V_at (base := w0.heap.size) HO249.out).2.2
                     have hcut49 := cut_from (P := Try.prog) 22 9 .i64 Try.underlying22 hi049 1 hsz49 (some ad237) y245.length co7 1 (by omega) q49
                     have hr49 := Kd.F_cut (m := (1 : Int).toNat) (c := co7) hC49 (by omega) hroom49
                     obtain ⟨A49, hA49⟩ : ∃ A1, A1 = (if co7 = (1 : Int).toNat then (some ad237) else ((some ad237) : Option Addr).map (·.add ((1 : Int).toNat * 1))) := ⟨_, rfl⟩
                     obtain ⟨c49, hc49⟩ : ∃ c1, c1 = co7 - (1 : Int).toNat := ⟨_, rfl⟩
                     have hy49 : y251.length = y245.length - (1 : Int).toNat := (by rw [Ny251.out, List.length_drop] <;> omega)
                     rw [show (y245).drop (1 : Int).toNat = y251 from Ny251.out.symm] at hr49
                     replace hr49 : Kd.F Kd.string _ _ A49 y251.length y251 := (by rw [hA49]; exact hr49)
                     rw [← hy49, ← hA49, ← hc49] at hcut49
                     have HO255 := aM (show Kd.V Kd.string 9 _ w0.heap.size _ (.slice A49 y251.length c49) y251 from Kd.V_mk (by rw [hy49, hc49]; exact Nat.sub_le_sub_right hroom49 _) hr49)
                     have HC255 := aM (show y251.length ≤ c49 from by rw [hy49, hc49]; exact Nat.sub_le_sub_right hroom49 _)
                     clear hr49 hC49 hroom49 hi049 hsz49 hc49
                     have KY49 := aM hy49
                     have KA49 := aM hA49
                     clear hy49 hA49
                     replace q49 := eq_true q49
                     try go_wp2_with (first | ((with_reducible refine gate_callee (f := 72) rfl ?_); refine goesL_ (some 86) rfl rfl Try.func72 (by kernel_rfl) rfl #[.slice (some ad250) y242.length co48, .slice A49 y251.length c49, .int .i64 (wrap64 (a2 + t239)), .int .i64 (x0_1.length : Int)] rfl (by (try simp only [List.map_toArray, List.map_cons, List.map_nil]); first | done | rfl | (simp only [List.length_drop, List.length_take]; rfl)) ?_; (with_reducible refine (ih kj5 (by have := HK1.out; have := HJ5.out; omega) (fun k_ => some k_ = (.slice (some ad250) y242.length co48 : Value).ownBlock) (.slice (some ad250) y242.length co48) y242 (fun k_ => (((P0_ k_ ∨ P1_ k_) ∨ w.heap.size ≤ k_) ∧ some k_ ≠ (.slice (some ad250) y242.length co48 : Value).ownBlock)) _ _ y251 (wrap64 (a2 + t239)) (x0_1.length : Int) t256 w0 _ ?side1 ?side2 ?side3 A40.out).mono ?_); (case side1 => repeat (first | (with_reducible first | exact HB.out | apply below_alloc | apply pw_below_drewN | apply below_drew1) | exact HB.out)); (case side2 => exact Kd.R_tight rfl HO244.out); (case side3 => exact Kd.V_mono (HO255.out) (fun k_ hk_ => ⟨hk_, hk_.2⟩)); rintro e w50 ⟨v257, rfl, ho0, hb, hkp⟩; refine ⟨_, rfl, ?_⟩; have n0_ := aM (Kd.V_mono (ok' := fun k_ => ((P0_ k_ ∨ P1_ k_) ∨ w.heap.size ≤ k_) ∧ some k_ ≠ (v257 : Value).ownBlock) (Kd.V_keptB (HO_1.out) hkp (fun k_ hk_ hs_ => (hk_.2) hs_)) (fun k_ hk_ => ⟨hk_.1.1, fun e_ => Or.elim (ho0.1 k_ e_.symm) (fun hs_ => hk_.2.1 hs_) (fun hn_ => Nat.not_le.2 hk_.2.2 hn_)⟩)); have n1_ := aM (Kd.V_mono (ok' := fun k_ => ((P0_ k_ ∨ P1_ k_) ∨ w.heap.size ≤ k_) ∧ some k_ ≠ (v257 : Value).ownBlock) (Kd.V_keptB (HO249.out) hkp (fun k_ hk_ hs_ => (hk_.2) hs_)) (fun k_ hk_ => ⟨hk_.1.1, fun e_ => Or.elim (ho0.1 k_ e_.symm) (fun hs_ => hk_.2.1 hs_) (fun hn_ => Nat.not_le.2 hk_.2.2 hn_)⟩)); have n2_ := aM (Kd.V_mono (ok' := fun k_ => ((P0_ k_ ∨ P1_ k_) ∨ w.heap.size ≤ k_) ∧ some k_ ≠ (v257 : Value).ownBlock) (Kd.V_keptB (HO255.out) hkp (fun k_ hk_ hs_ => (hk_.2) hs_)) (fun k_ hk_ => ⟨hk_.1.1, fun e_ => Or.elim (ho0.1 k_ e_.symm) (fun hs_ => hk_.2.1 hs_) (fun hn_ => Nat.not_le.2 hk_.2.2 hn_)⟩)); have n3_ := aM (Kd.R_mono (ok' := fun k_ => (P0_ k_ ∨ w.heap.size ≤ k_)) ho0 (fun k_ hk_ => Or.elim hk_ (fun hs_ => (HO244.out.1 k_ (hs_).symm)) (fun hn_ => (.inr (Nat.le_trans (by first | exact HK.out.1 | exact (show Kept w _ (fun k_ => P0_ k_) from by repeat (first | (with_reducible first | exact HK.out | apply Kept.alloc | apply Kept.drewN | apply Kept.drew) | exact HK.out)).1) hn_))))); have n4_ := aM (Kept.then_ (S := (fun k_ => P0_ k_)) (by repeat (first | (with_reducible first | exact HK.out | apply Kept.alloc | apply Kept.drewN | apply Kept.drew) | exact HK.out)) hkp (fun k_ hs_ => (fun e_ => (HO244.out.1 k_ e_.symm)) hs_)); have n5_ := aM (hb); clear HO_1; clear HO249; clear HO255; clear HK; clear HB; clear HO244; have HO_1 := n0_; have HO249 := n1_; have HO255 := n2_; have HO258 := n3_; have HK := n4_; have HB := n5_; clear n0_ n1_ n2_ n3_ n4_ n5_; (try clear hb); (try clear hkp); (try clear ho0); have q51 : (x9_5 : Int) ≤ ((x1_1.length : Int) : Int) := of_decide_eq_true (by first | (with_reducible assumption) | assumption); obtain ⟨i051, hi051, _, hsz51, _⟩ := info_parts info9; have hroom51 : x1_1.length ≤ co7 := (Kd.V_reads' HO_1.out).2.1; have hC51 : Kd.F Kd.string _ _ (some ad237) x1_1.length x1_1 := (Kd.V_at (base := w0.heap.size) HO_1.out).2.2; have q051 : (0 : Int) ≤ (x9_5 : Int) := of_decide_eq_true (by first | (with_reducible assumption) | assumption); have hcut51 := cut_from (P := Try.prog) 22 9 .i64 Try.underlying22 hi051 1 hsz51 (some ad237) x1_1.length co7 x9_5 q051 q51; have hr51 := Kd.F_cut (m := (x9_5 : Int).toNat) (c := co7) hC51 (by omega) hroom51; obtain ⟨A51, hA51⟩ : ∃ A1, A1 = (if co7 = (x9_5 : Int).toNat then (some ad237) else ((some ad237) : Option Addr).map (·.add ((x9_5 : Int).toNat * 1))) := ⟨_, rfl⟩; obtain ⟨c51, hc51⟩ : ∃ c1, c1 = co7 - (x9_5 : Int).toNat := ⟨_, rfl⟩; have hy51 : y259.length = x1_1.length - (x9_5 : Int).toNat := (by rw [Ny259.out, List.length_drop] <;> omega); rw [show (x1_1).drop (x9_5 : Int).toNat = y259 from Ny259.out.symm] at hr51; replace hr51 : Kd.F Kd.string _ _ A51 y259.length y259 := (by rw [hA51]; exact hr51); rw [← hy51, ← hA51, ← hc51] at hcut51; have HO263 := aM (show Kd.V Kd.string 9 _ w0.heap.size _ (.slice A51 y259.length c51) y259 from Kd.V_mk (by rw [hy51, hc51]; exact Nat.sub_le_sub_right hroom51 _) hr51); have HC263 := aM (show y259.length ≤ c51 from by rw [hy51, hc51]; exact Nat.sub_le_sub_right hroom51 _); clear hr51 hC51 hroom51 hi051 hsz51 hc51; have KY51 := aM hy51; have KA51 := aM hA51; clear hy51 hA51; replace q51 := eq_true q51))
                     go_roundg kj5
                     case measure => have := HK1.out; have := HJ5.out; omega
                     case rel => exact ⟨(t256), (y259), H', ⟨by have := HK1.out; have := HJ5.out; omega⟩, ⟨by (with_reducible repeat (first | apply Kd.R_alloc | apply Kd.R_drewN | apply Kd.R_drew)); exact HO258.out⟩, ⟨by (with_reducible repeat (first | apply Kd.V_alloc | apply Kd.V_drewN | apply Kd.V_drew)); exact HO263.out⟩, ⟨by repeat (first | (with_reducible first | exact HK.out | apply Kept.alloc | apply Kept.drewN | apply Kept.drew) | exact HK.out)⟩, ⟨by repeat (first | (with_reducible first | exact HB.out | apply below_alloc | apply pw_below_drewN | apply below_drew1) | exact HB.out)⟩⟩
                    ·
                     rw [if_neg c39] at H
                     exact absurd H (by simp)
                   ·
                    replace c38 := Bool.eq_false_iff.mpr c38
                    subst c38
                    have H1 : ((impl_grow.f kj5 y242 y245 (wrap64 (a2 + t239)) (x0_1.length : Int)).bind fun t264 => (impl_grow.l0 kj5 t264 (x1_1.drop (x9_5 : Int).toNat) a2 a3)) = some r := by rw [if_neg (show ¬ (false = true) by decide)] at H; exact H
                    clear H
                    have H := H1
                    clear H1
                    replace H := Option.bind_eq_some_iff.mp H
                    obtain ⟨t264, A520, H⟩ := H
                    replace H : (impl_grow.l0 kj5 t264 (x1_1.drop (x9_5 : Int).toNat) a2 a3) = some r := H
                    have A52 := aM A520
                    clear A520
                    have c53b0 := eq_true (of_decide_eq_true (by first | (with_reducible assumption) | assumption) : 0 ≤ x9_5)
                    have c54b0 := eq_true (of_decide_eq_true (by first | (with_reducible assumption) | assumption) : x9_5 ≤ (x1_1.length : Int))
                    obtain ⟨y267, hy267⟩ : ∃ y_ : List ByteArray, y_ = (x1_1.drop (x9_5 : Int).toNat) := ⟨_, rfl⟩
                    replace H : (impl_grow.l0 kj5 t264 y267 a2 a3) = some r := by first | (rw [hy267]; with_reducible exact H) | (have H2_ := (Option.bind_some _ _).symm.trans H; rw [hy267]; with_reducible exact H2_) | (have H2_ := (Option.bind_some _ _).symm.trans H; with_reducible exact H2_) | with_reducible exact H | (rw [hy267]; exact H) | exact H
                    have Ny267 := aM hy267
                    clear hy267
                    have H' := aM H
                    clear H
                    try go_wp2
                    have n0_ := aM (Kd.R_drew HO_0.out)
                    have n1_ := aM (Kd.V_drew HO_1.out)
                    have n2_ := aM (Kept.drew HK.out)
                    have n3_ := aM (below_drew1 HB.out)
                    clear HO_0
                    clear HO_1
                    clear HK
                    clear HB
                    have HO_0 := n0_
                    have HO_1 := n1_
                    have HK := n2_
                    have HB := n3_
                    clear n0_ n1_ n2_ n3_
                    have p237 : 0 ≤ (0 : Int) := (by omega)
                    have q237 : 0 < (x1_1.length : Int) := of_decide_eq_true (by first | (with_reducible assumption) | assumption)
                    obtain ⟨ad237, e237, hx237_0⟩ := Kd.at_string (Kd.V_reads' HO_1.out).2.2 0 p237 q237
                    cases e237
                    have qi237 : (0 < x1_1.length) = True := eq_true (by omega)
                    (try rw [show ((0 : Int)).toNat = 0 from rfl] at hx237_0)
                    (try rw [Addr.add_zero'] at hx237_0)
                    replace p237 := eq_true p237
                    replace q237 := eq_true q237
                    have p238 : 0 ≤ ((ji23) : Int) := of_decide_eq_true (by first | (with_reducible assumption) | assumption)
                    have q238 : (ji23) < (x1_1.length : Int) := of_decide_eq_true (by first | (with_reducible assumption) | assumption)
                    obtain ⟨ad238, e238, hx238_0⟩ := Kd.at_string (Kd.V_reads' HO_1.out).2.2 (ji23) p238 q238
                    obtain rfl : ad237 = ad238 := (by injection e238)
                    replace p238 := eq_true p238
                    replace q238 := eq_true q238
                    refine start_ (n := 14) (S := fun w' => w'.cell? ad237 = some (.string (rdOf ByteArray.empty x1_1 0)) ∧ w'.cell? (ad237.add ((ji23)).toNat) = some (.string (rdOf ByteArray.empty x1_1 (ji23)))) (ds := []) (bq 14 0) (by kernel_rfl) rfl (by kernel_rfl) ⟨hx237_0, hx238_0⟩ (fun hHeld => ?_); refine with_tabW impl_grow.tab5 impl_grow.bits5 (fun HT_ HW_ => ?_)
                    generalize wc.drew = w55 at HO_0 HO_1 HK HB hx237_0 hx238_0 hHeld ⊢
                    refine pure_ (i := 0) (N := some 37) (v := ?_) (a' := ?_) (bq 14 1) rfl rfl (any_of HT_.out (by kernel_rfl)) (fun _ _ _ h => h) (Or.inl ⟨by rfl, ?_⟩) ?_ ?_; rotate_left; (intro w'; go_simp; (with_reducible rfl)); rotate_left; (simp only [Act.put, zSA, zSB, zSC, i64_w, i32_w]; rfl)
                    refine pure_ (i := 1) (N := some 38) (v := ?_) (a' := ?_) (bq 14 3) rfl rfl (any_of HT_.out (by kernel_rfl)) (fun _ _ _ h => h) (Or.inl ⟨by rfl, ?_⟩) ?_ ?_; rotate_left; (intro w'; go_simp; (with_reducible rfl)); rotate_left; (simp only [Act.put, zSA, zSB, zSC, i64_w, i32_w]; rfl)
                    refine pure_ (i := 3) (N := some 40) (v := ?_) (a' := ?_) (bq 14 11) rfl rfl (any_of HT_.out (by kernel_rfl)) (fun _ _ _ h => h) (Or.inl ⟨by rfl, ?_⟩) ?_ ?_; rotate_left; (intro w'; go_simp; (with_reducible rfl)); rotate_left; (simp only [Act.put, zSA, zSB, zSC, i64_w, i32_w]; rfl)
                    refine pure_ (i := 5) (N := some 42) (v := ?_) (a' := ?_) (bq 14 43) rfl rfl (any_of HT_.out (by kernel_rfl)) (fun _ _ _ h => h) (Or.inl ⟨by rfl, ?_⟩) ?_ ?_; rotate_left; (intro w'; go_simp; (with_reducible rfl)); rotate_left; (simp only [Act.put, zSA, zSB, zSC, i64_w, i32_w]; rfl)
                    refine pure_ (i := 6) (N := some 43) (v := ?_) (a' := ?_) (bq 14 107) rfl rfl (any_of HT_.out (by kernel_rfl)) (fun _ _ _ h => h) (Or.inl ⟨by rfl, ?_⟩) ?_ ?_; rotate_left; (intro w'; go_simp; (with_reducible rfl)); rotate_left; (simp only [Act.put, zSA, zSB, zSC, i64_w, i32_w]; rfl)
                    refine pure_ (i := 7) (N := some 44) (v := ?_) (a' := ?_) (bq 14 235) rfl rfl (any_of HT_.out (by kernel_rfl)) (fun _ _ _ h => h) (Or.inl ⟨by rfl, ?_⟩) ?_ ?_; rotate_left; (intro w'; go_simp; (with_reducible rfl)); rotate_left; (simp only [Act.put, zSA, zSB, zSC, i64_w, i32_w]; rfl)
                    refine pure_ (i := 8) (N := some 45) (v := ?_) (a' := ?_) (bq 14 491) rfl rfl (any_of HT_.out (by kernel_rfl)) (fun _ _ _ h => h) (Or.inl ⟨by rfl, ?_⟩) ?_ ?_; rotate_left; (intro w'; go_simp; (with_reducible rfl)); rotate_left; (simp only [Act.put, zSA, zSB, zSC, i64_w, i32_w]; rfl)
                    refine pure_ (i := 10) (N := some 47) (v := ?_) (a' := ?_) (bq 14 1515) rfl rfl (any_of HT_.out (by kernel_rfl)) (fun _ _ _ h => h) (Or.inl ⟨by rfl, ?_⟩) ?_ ?_; rotate_left; (intro w'; go_simp; (with_reducible rfl)); rotate_left; (simp only [Act.put, zSA, zSB, zSC, i64_w, i32_w]; rfl)
                    refine take_ (i := 2) (N := some 39) (v := ?_) (a' := ?_) (bq 14 1519) rfl rfl (take_ofW HT_.out HW_.out (by kernel_rfl)) (fun _ _ _ h => h) (Or.inl ⟨by rfl, ?_⟩) hHeld ?_ ?_; rotate_left; (rintro w' ⟨s0, s1⟩; go_simp; (with_reducible rfl)); rotate_left; (simp only [Act.put, zSA, zSB, zSC, i64_w, i32_w]; rfl)
                    refine pure_ (i := 4) (N := some 41) (v := ?_) (a' := ?_) (bq 14 1535) rfl rfl (any_of HT_.out (by kernel_rfl)) (fun _ _ _ h => h) (Or.inl ⟨by rfl, ?_⟩) ?_ ?_; rotate_left; (intro w'; go_simp; (with_reducible rfl)); rotate_left; (simp only [Act.put, zSA, zSB, zSC, i64_w, i32_w]; rfl)
                    refine take_ (i := 9) (N := some 46) (v := ?_) (a' := ?_) (bq 14 2047) rfl rfl (take_ofW HT_.out HW_.out (by kernel_rfl)) (fun _ _ _ h => h) (Or.inl ⟨by rfl, ?_⟩) hHeld ?_ ?_; rotate_left; (rintro w' ⟨s0, s1⟩; go_simp; (with_reducible rfl)); rotate_left; (simp only [Act.put, zSA, zSB, zSC, i64_w, i32_w]; rfl)
                    refine pure_ (i := 11) (N := some 48) (v := ?_) (a' := ?_) (bq 14 4095) rfl rfl (any_of HT_.out (by kernel_rfl)) (fun _ _ _ h => h) (Or.inl ⟨by rfl, ?_⟩) ?_ ?_; rotate_left; (intro w'; go_simp; (with_reducible rfl)); rotate_left; (simp only [Act.put, zSA, zSB, zSC, i64_w, i32_w]; rfl)
                    refine one_ (i := 12) (N := some 49) (bq 14 8191) rfl rfl (one_of HT_.out (by kernel_rfl)) (by decide) (fun K hK => ?_)
                    refine goes_ Try.func96 (by kernel_rfl) rfl #[.string ((rdOf ByteArray.empty x1_1 0).extract (a2 : Int).toNat (rdOf ByteArray.empty x1_1 0).size), .string ((rdOf ByteArray.empty x1_1 (ji23)).extract (a2 : Int).toNat (rdOf ByteArray.empty x1_1 (ji23)).size)] (by rfl) rfl rfl (by (try simp only [List.map_toArray, List.map_cons, List.map_nil]); first | done | (simp only [hji23]; rfl) | rfl | (simp only [List.length_drop, List.length_take]; rfl)) ?_
                    with_reducible refine (impl_common.calls kj5 ((rdOf ByteArray.empty x1_1 0).extract (a2 : Int).toNat (rdOf ByteArray.empty x1_1 0).size) ((rdOf ByteArray.empty x1_1 (ji23)).extract (a2 : Int).toNat (rdOf ByteArray.empty x1_1 (ji23)).size) t239 _ A28.out).mono ?_
                    rintro e w' ⟨rfl, ⟨nd, rfl⟩⟩
                    refine ⟨_, rfl, ?_⟩
                    refine hK.out _ _ ⟨hHeld.1, hHeld.2⟩ (fun hHeld => ?_)
                    clear hK K
                    refine norm_ (a' := ?_) ?_ ?_
                    rotate_left
                    ·
                     show Act.put _ (some 49) _ = _
                     simp only [Act.put, zSA, zSB, zSC, i64_w, i32_w]
                     rfl
                    refine pure_ (i := 13) (N := some 10) (v := ?_) (a' := ?_) (bq 14 16383) rfl rfl (any_of HT_.out (by kernel_rfl)) (fun _ _ _ h => h) (Or.inl ⟨by rfl, ?_⟩) ?_ ?_; rotate_left; (intro w'; go_simp; (with_reducible rfl)); rotate_left; (simp only [Act.put, zSA, zSB, zSC, i64_w, i32_w]; rfl)
                    refine done_ (done_of HT_.out (by kernel_rfl)) ?_
                    obtain ⟨Ao56, co56, eo56⟩ := Kd.R_slice HO_0.out
                    subst eo56
                    try go_wp2
                    (try (rw [drewN_self w55]; generalize hq_ : World.drewN w55 _ = w55; have n0_ : Aside0 (Kd.R k64 64 w55 w0.heap.size (fun k_ => (P0_ k_ ∨ w.heap.size ≤ k_)) (.slice Ao56 x0_1.length co56) x0_1) := ⟨by rw [← hq_]; exact (by (with_reducible repeat (first | apply Kd.R_alloc | apply Kd.R_drewN | apply Kd.R_drew)); exact HO_0.out)⟩; have n1_ : Aside0 (Kd.V Kd.string 9 w55 w0.heap.size (fun k_ => ((P0_ k_ ∨ P1_ k_) ∨ w.heap.size ≤ k_) ∧ some k_ ≠ (.slice Ao56 x0_1.length co56 : Value).ownBlock) (.slice (some ad237) x1_1.length co7) x1_1) := ⟨by rw [← hq_]; exact (by (with_reducible repeat (first | apply Kd.V_alloc | apply Kd.V_drewN | apply Kd.V_drew)); exact HO_1.out)⟩; have n2_ : Aside0 (Kept w w55 (fun k_ => P0_ k_)) := ⟨by rw [← hq_]; exact (by repeat (first | (with_reducible first | exact HK.out | apply Kept.alloc | apply Kept.drewN | apply Kept.drew) | exact HK.out))⟩; have n3_ : Aside0 (Below w0.heap.size w0 w55) := ⟨by rw [← hq_]; exact (by repeat (first | (with_reducible first | exact HB.out | apply below_alloc | apply pw_below_drewN | apply below_drew1) | exact HB.out))⟩; clear HO_0 HO_1 HK HB hq_; have HO_0 := n0_; have HO_1 := n1_; have HK := n2_; have HB := n3_; clear n0_ n1_ n2_ n3_))
                    have n0_ := aM (Kd.R_drew HO_0.out)
                    have n1_ := aM (Kd.V_drew HO_1.out)
                    have n2_ := aM (Kept.drew HK.out)
                    have n3_ := aM (below_drew1 HB.out)
                    clear HO_0
                    clear HO_1
                    clear HK
                    clear HB
                    have HO_0 := n0_
                    have HO_1 := n1_
                    have HK := n2_
                    have HB := n3_
                    clear n0_ n1_ n2_ n3_
                    have p240 : 0 ≤ (0 : Int) := (by omega)
                    have q240 : 0 < (x1_1.length : Int) := of_decide_eq_true (by first | (with_reducible assumption) | assumption)
                    obtain ⟨ad240, e240, hx240_0⟩ := Kd.at_string (Kd.V_reads' HO_1.out).2.2 0 p240 q240
                    obtain rfl : ad237 = ad240 := (by injection e240)
                    have qi240 : (0 < x1_1.length) = True := eq_true (by omega)
                    (try rw [show ((0 : Int)).toNat = 0 from rfl] at hx240_0)
                    (try rw [Addr.add_zero'] at hx240_0)
                    replace p240 := eq_true p240
                    replace q240 := eq_true q240
                    have p241 : 0 ≤ (0 : Int) := (by omega)
                    have q241 : 0 < (x1_1.length : Int) := of_decide_eq_true (by first | (with_reducible assumption) | assumption)
                    obtain ⟨ad241, e241, hx241_0⟩ := Kd.at_string (Kd.V_reads' HO_1.out).2.2 0 p241 q241
                    obtain rfl : ad237 = ad241 := (by injection e241)
                    have qi241 : (0 < x1_1.length) = True := eq_true (by omega)
                    (try rw [show ((0 : Int)).toNat = 0 from rfl] at hx241_0)
                    (try rw [Addr.add_zero'] at hx241_0)
                    replace p241 := eq_true p241
                    replace q241 := eq_true q241
                    refine start_ (n := 18) (S := fun w' => w'.cell? ad237 = some (.string (rdOf ByteArray.empty x1_1 0)) ∧ w'.cell? ad237 = some (.string (rdOf ByteArray.empty x1_1 0))) (ds := [15, 16]) (bq 18 0) (by kernel_rfl) rfl (by kernel_rfl) ⟨hx240_0, hx241_0⟩ (fun hHeld => ?_); refine with_tabW impl_grow.tab8 impl_grow.bits8 (fun HT_ HW_ => ?_)
                    generalize w55.drew = w57 at HO_0 HO_1 HK HB hx240_0 hx241_0 hHeld ⊢
                    refine pure_ (i := 0) (N := some 55) (v := ?_) (a' := ?_) (bq 18 1) rfl rfl (any_of HT_.out (by kernel_rfl)) (fun _ _ _ h => h) (Or.inl ⟨by rfl, ?_⟩) ?_ ?_; rotate_left; (intro w'; go_simp; (with_reducible rfl)); rotate_left; (simp only [Act.put, zSA, zSB, zSC, i64_w, i32_w]; rfl)
                    refine pure_ (i := 1) (N := some 56) (v := ?_) (a' := ?_) (bq 18 3) rfl rfl (any_of HT_.out (by kernel_rfl)) (fun _ _ _ h => h) (Or.inl ⟨by rfl, ?_⟩) ?_ ?_; rotate_left; (intro w'; go_simp; (with_reducible rfl)); rotate_left; (simp only [Act.put, zSA, zSB, zSC, i64_w, i32_w]; rfl)
                    refine pure_ (i := 2) (N := some 57) (v := ?_) (a' := ?_) (bq 18 7) rfl rfl (any_of HT_.out (by kernel_rfl)) (fun _ _ _ h => h) (Or.inl ⟨by rfl, ?_⟩) ?_ ?_; rotate_left; (intro w'; go_simp; (with_reducible rfl)); rotate_left; (simp only [Act.put, zSA, zSB, zSC, i64_w, i32_w]; rfl)
                    refine pure_ (i := 4) (N := some 59) (v := ?_) (a' := ?_) (bq 18 23) rfl rfl (any_of HT_.out (by kernel_rfl)) (fun _ _ _ h => h) (Or.inl ⟨by rfl, ?_⟩) ?_ ?_; rotate_left; (intro w'; go_simp; (with_reducible rfl)); rotate_left; (simp only [Act.put, zSA, zSB, zSC, i64_w, i32_w]; rfl)
                    refine pure_ (i := 5) (N := some 60) (v := ?_) (a' := ?_) (bq 18 55) rfl rfl (any_of HT_.out (by kernel_rfl)) (fun _ _ _ h => h) (Or.inl ⟨by rfl, ?_⟩) ?_ ?_; rotate_left; (intro w'; go_simp; (with_reducible rfl)); rotate_left; (simp only [Act.put, zSA, zSB, zSC, i64_w, i32_w]; rfl)
                    refine pure_ (i := 7) (N := some 62) (v := ?_) (a' := ?_) (bq 18 183) rfl rfl (any_of HT_.out (by kernel_rfl)) (fun _ _ _ h => h) (Or.inl ⟨by rfl, ?_⟩) ?_ ?_; rotate_left; (intro w'; go_simp; (with_reducible rfl)); rotate_left; (simp only [Act.put, zSA, zSB, zSC, i64_w, i32_w]; rfl)
                    refine pure_ (i := 8) (N := some 63) (v := ?_) (a' := ?_) (bq 18 439) rfl rfl (any_of HT_.out (by kernel_rfl)) (fun _ _ _ h => h) (Or.inl ⟨by rfl, ?_⟩) ?_ ?_; rotate_left; (intro w'; go_simp; (with_reducible rfl)); rotate_left; (simp only [Act.put, zSA, zSB, zSC, i64_w, i32_w]; rfl)
                    refine pure_ (i := 11) (N := some 66) (v := ?_) (a' := ?_) (bq 18 2487) rfl rfl (any_of HT_.out (by kernel_rfl)) (fun _ _ _ h => h) (Or.inl ⟨by rfl, ?_⟩) ?_ ?_; rotate_left; (intro w'; go_simp; (with_reducible rfl)); rotate_left; (simp only [Act.put, zSA, zSB, zSC, i64_w, i32_w]; rfl)
                    refine pure_ (i := 13) (N := some 68) (v := ?_) (a' := ?_) (bq 18 10679) rfl rfl (any_of HT_.out (by kernel_rfl)) (fun _ _ _ h => h) (Or.inl ⟨by rfl, ?_⟩) ?_ ?_; rotate_left; (intro w'; go_simp; (with_reducible rfl)); rotate_left; (simp only [Act.put, zSA, zSB, zSC, i64_w, i32_w]; rfl)
                    refine take_ (i := 3) (N := some 58) (v := ?_) (a' := ?_) (bq 18 10687) rfl rfl (take_ofW HT_.out HW_.out (by kernel_rfl)) (fun _ _ _ h => h) (Or.inl ⟨by rfl, ?_⟩) hHeld ?_ ?_; rotate_left; (rintro w' ⟨s0, s1⟩; go_simp; (with_reducible rfl)); rotate_left; (simp only [Act.put, zSA, zSB, zSC, i64_w, i32_w]; rfl)
                    refine pure_ (i := 6) (N := some 61) (v := ?_) (a' := ?_) (bq 18 10751) rfl rfl (any_of HT_.out (by kernel_rfl)) (fun _ _ _ h => h) (Or.inl ⟨by rfl, ?_⟩) ?_ ?_; rotate_left; (intro w'; go_simp; (with_reducible rfl)); rotate_left; (simp only [Act.put, zSA, zSB, zSC, i64_w, i32_w]; rfl)
                    refine take_ (i := 9) (N := some 64) (v := ?_) (a' := ?_) (bq 18 11263) rfl rfl (take_ofW HT_.out HW_.out (by kernel_rfl)) (fun _ _ _ h => h) (Or.inl ⟨by rfl, ?_⟩) hHeld ?_ ?_; rotate_left; (rintro w' ⟨s0, s1⟩; go_simp; (with_reducible rfl)); rotate_left; (simp only [Act.put, zSA, zSB, zSC, i64_w, i32_w]; rfl)
                    refine pure_ (i := 10) (N := some 65) (v := ?_) (a' := ?_) (bq 18 12287) rfl rfl (any_of HT_.out (by kernel_rfl)) (fun _ _ _ h => h) (Or.inl ⟨by rfl, ?_⟩) ?_ ?_; rotate_left; (intro w'; go_simp; (with_reducible rfl)); rotate_left; (simp only [Act.put, zSA, zSB, zSC, i64_w, i32_w]; rfl)
                    refine pure_ (i := 12) (N := some 67) (v := ?_) (a' := ?_) (bq 18 16383) rfl rfl (any_of HT_.out (by kernel_rfl)) (fun _ _ _ h => h) (Or.inl ⟨by rfl, ?_⟩) ?_ ?_; rotate_left; (intro w'; go_simp; (with_reducible rfl)); rotate_left; (simp only [Act.put, zSA, zSB, zSC, i64_w, i32_w]; rfl)
                    refine pure_ (i := 14) (N := some 69) (v := ?_) (a' := ?_) (bq 18 32767) rfl rfl (any_of HT_.out (by kernel_rfl)) (fun _ _ _ h => h) (Or.inl ⟨by rfl, ?_⟩) ?_ ?_; rotate_left; (intro w'; go_simp; (with_reducible rfl)); rotate_left; (simp only [Act.put, zSA, zSB, zSC, i64_w, i32_w]; rfl)
                    refine last_ (i := 15) (N := some 70) #[true, true, true, true, true, true, true, true, true, true, true, true, true, true, true, true, false, false] rfl rfl (one_of HT_.out (by kernel_rfl)) (by decide) (fun K hK => ?_)
                    refine value_ (w1 := ?_) (v := ?_) (by rfl) rfl ?_ ?_
                    rotate_left 2
                    ·
                     go_simp
                     constructor
                     ·
                      rfl
                     ·
                      rfl
                    refine hK.out _ _ ?_
                    clear hK K
                    refine norm_ (a' := ?_) ?_ ?_
                    rotate_left
                    ·
                     show Act.put _ (some 70) _ = _
                     simp only [Act.put, zSA, zSB, zSC, i64_w, i32_w]
                     rfl
                    refine last_ (i := 16) (N := some 71) #[true, true, true, true, true, true, true, true, true, true, true, true, true, true, true, true, true, false] rfl rfl (one_of HT_.out (by kernel_rfl)) (by decide) (fun K hK => ?_)
                    refine Kd.R_append_step k64 (w0 := w0) w0.heap.size (by rfl) (.tmp 55) (.tmp 70) 24 64 (.agg #[(.string ⟨#[]⟩), (.bool false), (.int .i64 0)]) 32 rfl Try.underlying24 info64 rfl (by decide) (by omega) (.slice Ao56 x0_1.length co56) x0_1 (⟨(rdOf ByteArray.empty x1_1 0).extract (a2 : Int).toNat ((wrap64 (a2 + t239)) : Int).toNat, (((rdOf ByteArray.empty x1_1 0).size : Int) == (wrap64 (a2 + t239))), a3⟩ : S64) [.string ((rdOf ByteArray.empty x1_1 0).extract (a2 : Int).toNat ((wrap64 (a2 + t239)) : Int).toNat), .bool (((rdOf ByteArray.empty x1_1 0).size : Int) == (wrap64 (a2 + t239))), .int .i64 a3] (fun k_ => (P0_ k_ ∨ w.heap.size ≤ k_)) (fun _ => False) rfl rfl ?aP (fun _ hk => hk.elim) ?aF ?aO ?aB ?aS ?aL ?_
                    (case aP => exact k64_mkM _ _ _ (⟨(rdOf ByteArray.empty x1_1 0).extract (a2 : Int).toNat ((wrap64 (a2 + t239)) : Int).toNat, (((rdOf ByteArray.empty x1_1 0).size : Int) == (wrap64 (a2 + t239))), a3⟩ : S64))
                    (case aB => exact (by repeat (first | (with_reducible first | exact HB.out | apply below_alloc | apply pw_below_drewN | apply below_drew1) | exact HB.out)))
                    (case aF => exact (fun k_ hk => (.inr (Nat.le_trans (by first | exact HK.out.1 | exact (show Kept w _ (fun k_ => P0_ k_) from by repeat (first | (with_reducible first | exact HK.out | apply Kept.alloc | apply Kept.drewN | apply Kept.drew) | exact HK.out)).1) hk))))
                    (case aO => exact (by (with_reducible repeat (first | apply Kd.R_alloc | apply Kd.R_drewN | apply Kd.R_drew)); exact HO_0.out))
                    (case aS => exact (below_size (by repeat (first | (with_reducible first | exact HB.out | apply below_alloc | apply pw_below_drewN | apply below_drew1) | exact HB.out))))
                    (case aL => have := LMc32.out; omega)
                    intro v243 w58 ho hb hg hat
                    rw [← Ny242.out] at ho
                    have n0_ := aM (Kd.V_afterv (ok := (fun k_ => ((P0_ k_ ∨ P1_ k_) ∨ w.heap.size ≤ k_))) (by (with_reducible repeat (first | apply Kd.V_alloc | apply Kd.V_drewN | apply Kd.V_drew)); exact HO_1.out) hg hat)
                    have n1_ := aM (hb)
                    have n2_ := aM (Kept.of_grown (S := (fun k_ => P0_ k_)) hg (by repeat (first | (with_reducible first | exact HK.out | apply Kept.alloc | apply Kept.drewN | apply Kept.drew) | exact HK.out)) (fun k_ e_ => (HO_0.out.1 k_ e_)))
                    have n3_ := aM (ho)
                    clear HO_1
                    clear HB
                    clear HK
                    clear HO_0
                    have HO_1 := n0_
                    have HB := n1_
                    have HK := n2_
                    have HO244 := n3_
                    clear n0_ n1_ n2_ n3_
                    clear ho hb hg hat
                    refine hK.out _ _ ?_
                    clear hK K
                    refine norm_ (a' := ?_) ?_ ?_
                    rotate_left
                    ·
                     show Act.put _ (some 71) _ = _
                     simp only [Act.put, zSA, zSB, zSC, i64_w, i32_w]
                     rfl
                    refine pure_ (i := 17) (N := some 0) (v := ?_) (a' := ?_) (bq 18 262143) rfl rfl (any_of HT_.out (by kernel_rfl)) (fun _ _ _ h => h) (Or.inl ⟨by rfl, ?_⟩) ?_ ?_; rotate_left; (intro w'; go_simp; (with_reducible rfl)); rotate_left; (simp only [Act.put, zSA, zSB, zSC, i64_w, i32_w]; rfl)
                    refine done_ (done_of HT_.out (by kernel_rfl)) ?_
                    have q59 : (x9_5 : Int) ≤ ((x1_1.length : Int) : Int) := of_decide_eq_true (by first | (with_reducible assumption) | assumption)
                    obtain ⟨i059, hi059, _, hsz59, _⟩ := info_parts info9
                    have hroom59 : x1_1.length ≤ co7 := (Kd.V_reads' HO_1.out).2.1
                    have hC59 : Kd.F Kd.string _ _ (some ad237) x1_1.length x1_1 := (Kd.V_at (base := w0.heap.size) HO_1.out).2.2
                    have hcut59 := cut_to (P := Try.prog) 22 9 .i64 Try.underlying22 hi059 (some ad237) x1_1.length co7 x9_5 (of_decide_eq_true (by first | (with_reducible assumption) | assumption)) q59 hroom59
                    have hr59 := Kd.F_take (m := (x9_5 : Int).toNat) hC59 (by omega)
                    have hy59 : y245.length = (x9_5 : Int).toNat := (by rw [Ny245.out, List.length_take]; omega)
                    rw [← Ny245.out] at hr59
                    rw [← hy59] at hcut59
                    have HO249 := aM (show Kd.V Kd.string 9 _ w0.heap.size _ (.slice (some ad237) y245.length co7) y245 from Kd.V_mk (by omega) hr59)
                    have HC249 := aM (show y245.length ≤ co7 from by omega)
                    clear hr59 hC59 hroom59 hi059 hsz59
                    have KY59 := aM hy59
                    clear hy59
                    replace q59 := eq_true q59
                    obtain ⟨Ao60, co60, eo60⟩ := Kd.R_slice HO244.out
                    subst eo60
                    have p250 : 0 ≤ ((x0_1.length : Int) : Int) := of_decide_eq_true (by first | (with_reducible assumption) | assumption)
                    have q250 : (x0_1.length : Int) < (y242.length : Int) := of_decide_eq_true (by first | (with_reducible assumption) | assumption)
                    obtain ⟨ad250, e250, hx250_0, hx250_1, hx250_2⟩ := at_T64 (Kd.R_reads' HO244.out).2.2 (x0_1.length : Int) p250 q250
                    (try rw [← Nbq37.out] at hx250_1)
                    cases e250
                    try have hz_hx250_0 := aM hx250_0
                    try have hz_hx250_1 := aM hx250_1
                    try have hz_hx250_2 := aM hx250_2
                    (try simp only [Go.IntWalk.toNatUp] at hx250_0)
                    (try simp only [Go.IntWalk.toNatUp] at hx250_1)
                    (try simp only [Go.IntWalk.toNatUp] at hx250_2)
                    replace p250 := eq_true p250
                    replace q250 := eq_true q250
                    try go_wp2_with (first | ((with_reducible refine gate_callee (f := 72) rfl ?_); refine goesL_ (some 86) rfl rfl Try.func72 (by kernel_rfl) rfl #[.slice (some ad250) y242.length co60, .slice (some ad237) y245.length co7, .int .i64 (wrap64 (a2 + t239)), .int .i64 (x0_1.length : Int)] rfl (by (try simp only [List.map_toArray, List.map_cons, List.map_nil]); first | done | rfl | (simp only [List.length_drop, List.length_take]; rfl)) ?_; (with_reducible refine (ih kj5 (by have := HK1.out; have := HJ5.out; omega) (fun k_ => some k_ = (.slice (some ad250) y242.length co60 : Value).ownBlock) (.slice (some ad250) y242.length co60) y242 (fun k_ => (((P0_ k_ ∨ P1_ k_) ∨ w.heap.size ≤ k_) ∧ some k_ ≠ (.slice (some ad250) y242.length co60 : Value).ownBlock)) _ _ y245 (wrap64 (a2 + t239)) (x0_1.length : Int) t264 w0 _ ?side1 ?side2 ?side3 A52.out).mono ?_); (case side1 => repeat (first | (with_reducible first | exact HB.out | apply below_alloc | apply pw_below_drewN | apply below_drew1) | exact HB.out)); (case side2 => exact Kd.R_tight rfl HO244.out); (case side3 => exact Kd.V_mono (HO249.out) (fun k_ hk_ => ⟨hk_, hk_.2⟩)); rintro e w61 ⟨v265, rfl, ho0, hb, hkp⟩; refine ⟨_, rfl, ?_⟩; have n0_ := aM (Kd.V_mono (ok' := fun k_ => ((P0_ k_ ∨ P1_ k_) ∨ w.heap.size ≤ k_) ∧ some k_ ≠ (v265 : Value).ownBlock) (Kd.V_keptB (HO_1.out) hkp (fun k_ hk_ hs_ => (hk_.2) hs_)) (fun k_ hk_ => ⟨hk_.1.1, fun e_ => Or.elim (ho0.1 k_ e_.symm) (fun hs_ => hk_.2.1 hs_) (fun hn_ => Nat.not_le.2 hk_.2.2 hn_)⟩)); have n1_ := aM (Kd.V_mono (ok' := fun k_ => ((P0_ k_ ∨ P1_ k_) ∨ w.heap.size ≤ k_) ∧ some k_ ≠ (v265 : Value).ownBlock) (Kd.V_keptB (HO249.out) hkp (fun k_ hk_ hs_ => (hk_.2) hs_)) (fun k_ hk_ => ⟨hk_.1.1, fun e_ => Or.elim (ho0.1 k_ e_.symm) (fun hs_ => hk_.2.1 hs_) (fun hn_ => Nat.not_le.2 hk_.2.2 hn_)⟩)); have n2_ := aM (Kd.R_mono (ok' := fun k_ => (P0_ k_ ∨ w.heap.size ≤ k_)) ho0 (fun k_ hk_ => Or.elim hk_ (fun hs_ => (HO244.out.1 k_ (hs_).symm)) (fun hn_ => (.inr (Nat.le_trans (by first | exact HK.out.1 | exact (show Kept w _ (fun k_ => P0_ k_) from by repeat (first | (with_reducible first | exact HK.out | apply Kept.alloc | apply Kept.drewN | apply Kept.drew) | exact HK.out)).1) hn_))))); have n3_ := aM (Kept.then_ (S := (fun k_ => P0_ k_)) (by repeat (first | (with_reducible first | exact HK.out | apply Kept.alloc | apply Kept.drewN | apply Kept.drew) | exact HK.out)) hkp (fun k_ hs_ => (fun e_ => (HO244.out.1 k_ e_.symm)) hs_)); have n4_ := aM (hb); clear HO_1; clear HO249; clear HK; clear HB; clear HO244; have HO_1 := n0_; have HO249 := n1_; have HO266 := n2_; have HK := n3_; have HB := n4_; clear n0_ n1_ n2_ n3_ n4_; (try clear hb); (try clear hkp); (try clear ho0); have q62 : (x9_5 : Int) ≤ ((x1_1.length : Int) : Int) := of_decide_eq_true (by first | (with_reducible assumption) | assumption); obtain ⟨i062, hi062, _, hsz62, _⟩ := info_parts info9; have hroom62 : x1_1.length ≤ co7 := (Kd.V_reads' HO_1.out).2.1; have hC62 : Kd.F Kd.string _ _ (some ad237) x1_1.length x1_1 := (Kd.V_at (base := w0.heap.size) HO_1.out).2.2; have q062 : (0 : Int) ≤ (x9_5 : Int) := of_decide_eq_true (by first | (with_reducible assumption) | assumption); have hcut62 := cut_from (P := Try.prog) 22 9 .i64 Try.underlying22 hi062 1 hsz62 (some ad237) x1_1.length co7 x9_5 q062 q62; have hr62 := Kd.F_cut (m := (x9_5 : Int).toNat) (c := co7) hC62 (by omega) hroom62; obtain ⟨A62, hA62⟩ : ∃ A1, A1 = (if co7 = (x9_5 : Int).toNat then (some ad237) else ((some ad237) : Option Addr).map (·.add ((x9_5 : Int).toNat * 1))) := ⟨_, rfl⟩; obtain ⟨c62, hc62⟩ : ∃ c1, c1 = co7 - (x9_5 : Int).toNat := ⟨_, rfl⟩; have hy62 : y267.length = x1_1.length - (x9_5 : Int).toNat := (by rw [Ny267.out, List.length_drop] <;> omega); rw [show (x1_1).drop (x9_5 : Int).toNat = y267 from Ny267.out.symm] at hr62; replace hr62 : Kd.F Kd.string _ _ A62 y267.length y267 := (by rw [hA62]; exact hr62); rw [← hy62, ← hA62, ← hc62] at hcut62; have HO271 := aM (show Kd.V Kd.string 9 _ w0.heap.size _ (.slice A62 y267.length c62) y267 from Kd.V_mk (by rw [hy62, hc62]; exact Nat.sub_le_sub_right hroom62 _) hr62); have HC271 := aM (show y267.length ≤ c62 from by rw [hy62, hc62]; exact Nat.sub_le_sub_right hroom62 _); clear hr62 hC62 hroom62 hi062 hsz62 hc62; have KY62 := aM hy62; have KA62 := aM hA62; clear hy62 hA62; replace q62 := eq_true q62))
                    go_roundg kj5
                    case measure => have := HK1.out; have := HJ5.out; omega
                    case rel => exact ⟨(t264), (y267), H', ⟨by have := HK1.out; have := HJ5.out; omega⟩, ⟨by (with_reducible repeat (first | apply Kd.R_alloc | apply Kd.R_drewN | apply Kd.R_drew)); exact HO266.out⟩, ⟨by (with_reducible repeat (first | apply Kd.V_alloc | apply Kd.V_drewN | apply Kd.V_drew)); exact HO271.out⟩, ⟨by repeat (first | (with_reducible first | exact HK.out | apply Kept.alloc | apply Kept.drewN | apply Kept.drew) | exact HK.out)⟩, ⟨by repeat (first | (with_reducible first | exact HB.out | apply below_alloc | apply pw_below_drewN | apply below_drew1) | exact HB.out)⟩⟩
                  ·
                   rw [if_neg c36] at H
                   exact absurd H (by simp)
                 ·
                  rw [if_neg c35] at H
                  exact absurd H (by simp)
                ·
                 rw [if_neg c34] at H
                 exact absurd H (by simp)
               ·
                rw [if_neg c33] at H
                exact absurd H (by simp)
              ·
               rw [if_neg c32] at H
               exact absurd H (by simp)
             ·
              rw [if_neg c31] at H
              exact absurd H (by simp)
            ·
             rw [if_neg c30] at H
             exact absurd H (by simp)
           ·
            rw [if_neg c27] at H
            exact absurd H (by simp)
          ·
           rw [if_neg c25] at H
           exact absurd H (by simp)
         ·
          rw [if_neg c24] at H
          exact absurd H (by simp)
        ·
         rw [if_neg c22] at H
         exact absurd H (by simp)
       ·
        rw [if_neg c21] at H
        exact absurd H (by simp)
      ·
       rw [if_neg c20] at H
       exact absurd H (by simp)
   ·
    rw [if_neg c5] at H
    have c5b0 : decide (0 < (x1_1.length : Int)) = false := decide_eq_false c5
    have c5b1 : decide (0 < x1_1.length) = false := decide_eq_false (by omega)
    clear c5
    obtain rfl := Option.some.inj H
    obtain ⟨Ao63, co63, eo63⟩ := Kd.V_slice HO_1.out
    subst eo63
    go_wp2
    go_ret
    exact ⟨_, by first | rfl | (simp [errW_none, errW_some] <;> rfl) | (simp [*, errW_none, errW_some] <;> rfl), by (with_reducible repeat (first | apply Kd.R_alloc | apply Kd.R_drewN | apply Kd.R_drew)); exact HO_0.out, by repeat (first | (with_reducible first | exact HB.out | apply below_alloc | apply pw_below_drewN | apply below_drew1) | exact HB.out), by repeat (first | (with_reducible first | exact HK.out | apply Kept.alloc | apply Kept.drewN | apply Kept.drew) | exact HK.out)⟩

def impl_smallLetters.l0 : Nat → ByteArray → Int → Int → Int → Option (Bool)
 | 0, _, _, _, _ => none
 | k + 1, x0, x1, x7, x8 => if x8 < x7 then (if 0 ≤ x8 then (if x8 < (x0.size : Int) then (if (bt x0 x8) < 97 then (some false) else (if (bt x0 x8) > 122 then (some false) else (impl_smallLetters.l0 k x0 x1 x7 (wrap64 (x8 + 1))))) else (none)) else (none)) else (some (decide ((x0.size : Int) ≤ x1)))
def impl_smallLetters.f (k : Nat) (a0 : ByteArray) (a1 : Int) : Option (Bool) := impl_smallLetters.l0 k a0 a1 (a0.size : Int) 0
set_option maxHeartbeats 8000000 in
set_option maxRecDepth 100000 in
theorem impl_smallLetters.calls (k : Nat) (a0 : ByteArray) (a1 : Int) (r : Bool) (w : World) (h : impl_smallLetters.f k a0 a1 = some r) :
  Calls Try.prog 69 #[.string a0, .int .i64 a1] w fun e w' => e = .returned (.bool r) ∧ Drawn0 w w' := by
 have H : (impl_smallLetters.l0 k a0 a1 (a0.size : Int) 0) = some r := h
 clear h
 have H' := aM H
 clear H
 go_enter Try.func69, Try.ntmps69
 go_wp2
 go_loopg [8] k (fun kq v8 w' => ∃ (x8_1 : Int), v8 = .int .i64 x8_1 ∧ Aside0 (impl_smallLetters.l0 kq a0 a1 (a0.size : Int) x8_1 = some r) ∧ Aside0 (kq ≤ k) ∧ Drawn0 w w')
 case atStart => exact ⟨(0), (by first | rfl | (simp; done) | (simp [*]; done)), H', ⟨Nat.le_refl _⟩, by repeat (first | exact Drawn0.refl _ | apply Drawn0.step)⟩
 case round =>
  clear H'
  try clear p2
  obtain ⟨x8_1, rfl, HA, HK1, ⟨m1, rfl⟩⟩ := hrel
  cases gk with
  | zero => exact absurd HA.out (by simp [impl_smallLetters.l0])
  | succ k1 =>
   have H := HA.out
   clear HA
   simp only [impl_smallLetters.l0] at H
   by_cases c3 : x8_1 < (a0.size : Int)
   ·
    rw [if_pos c3] at H
    have c3b0 : decide (x8_1 < (a0.size : Int)) = true := decide_eq_true c3
    clear c3
    by_cases c4 : 0 ≤ x8_1
    ·
     rw [if_pos c4] at H
     have c4b0 : decide (0 ≤ x8_1) = true := decide_eq_true c4
     clear c4
     by_cases c5 : x8_1 < (a0.size : Int)
     ·
      rw [if_pos c5] at H
      have c5b0 : decide (x8_1 < (a0.size : Int)) = true := decide_eq_true c5
      clear c5
      by_cases c7 : (bt a0 x8_1) < 97
      ·
       rw [if_pos c7] at H
       have c7b0 : decide ((bt a0 x8_1) < 97) = true := decide_eq_true c7
       clear c7
       obtain rfl := Option.some.inj H
       have p6 : 0 ≤ (x8_1 : Int) := of_decide_eq_true (by first | (with_reducible assumption) | assumption)
       have q6 : x8_1 < (a0.size : Int) := of_decide_eq_true (by first | (with_reducible assumption) | assumption)
       have hx6 := bt_at a0 x8_1
       replace p6 := eq_true p6
       replace q6 := eq_true q6
       go_wp2
       go_ret
       exact ⟨by first | rfl | (simp; done) | (simp [*]; done), by repeat (first | exact Drawn0.refl _ | apply Drawn0.step)⟩
      ·
       rw [if_neg c7] at H
       have c7b0 : decide ((bt a0 x8_1) < 97) = false := decide_eq_false c7
       clear c7
       by_cases c9 : (bt a0 x8_1) > 122
       ·
        rw [if_pos c9] at H
        have c9b0 : decide (122 < (bt a0 x8_1)) = true := decide_eq_true c9
        clear c9
        obtain rfl := Option.some.inj H
        have p6 : 0 ≤ (x8_1 : Int) := of_decide_eq_true (by first | (with_reducible assumption) | assumption)
        have q6 : x8_1 < (a0.size : Int) := of_decide_eq_true (by first | (with_reducible assumption) | assumption)
        have hx6 := bt_at a0 x8_1
        replace p6 := eq_true p6
        replace q6 := eq_true q6
        have p8 : 0 ≤ (x8_1 : Int) := of_decide_eq_true (by first | (with_reducible assumption) | assumption)
        have q8 : x8_1 < (a0.size : Int) := of_decide_eq_true (by first | (with_reducible assumption) | assumption)
        have hx8 := bt_at a0 x8_1
        replace p8 := eq_true p8
        replace q8 := eq_true q8
        go_wp2
        go_ret
        exact ⟨by first | rfl | (simp; done) | (simp [*]; done), by repeat (first | exact Drawn0.refl _ | apply Drawn0.step)⟩
       ·
        rw [if_neg c9] at H
        have c9b0 : decide (122 < (bt a0 x8_1)) = false := decide_eq_false c9
        clear c9
        have H' := aM H
        clear H
        have p6 : 0 ≤ (x8_1 : Int) := of_decide_eq_true (by first | (with_reducible assumption) | assumption)
        have q6 : x8_1 < (a0.size : Int) := of_decide_eq_true (by first | (with_reducible assumption) | assumption)
        have hx6 := bt_at a0 x8_1
        replace p6 := eq_true p6
        replace q6 := eq_true q6
        have p8 : 0 ≤ (x8_1 : Int) := of_decide_eq_true (by first | (with_reducible assumption) | assumption)
        have q8 : x8_1 < (a0.size : Int) := of_decide_eq_true (by first | (with_reducible assumption) | assumption)
        have hx8 := bt_at a0 x8_1
        replace p8 := eq_true p8
        replace q8 := eq_true q8
        go_wp2
        go_roundg k1
        case measure => have := HK1.out; omega
        case rel => exact ⟨(wrap64 (x8_1 + 1)), (by first | rfl | (simp; done) | (simp [*]; done)), H', ⟨by have := HK1.out; omega⟩, by repeat (first | exact Drawn0.refl _ | apply Drawn0.step)⟩
     ·
      rw [if_neg c5] at H
      exact absurd H (by simp)
    ·
     rw [if_neg c4] at H
     exact absurd H (by simp)
   ·
    rw [if_neg c3] at H
    have c3b0 : decide (x8_1 < (a0.size : Int)) = false := decide_eq_false c3
    clear c3
    obtain rfl := Option.some.inj H
    go_wp2
    go_ret
    exact ⟨by first | rfl | (simp; done) | (simp [*]; done), by repeat (first | exact Drawn0.refl _ | apply Drawn0.step)⟩

def impl_nameOK.f (k : Nat) (a0 : ByteArray) : Option (Bool) := if a0.toList = ([] : List UInt8) then (some false) else ((impl_smallLetters.f k a0 20).bind fun t417 => (some t417))
set_option maxHeartbeats 8000000 in
set_option maxRecDepth 100000 in
theorem impl_nameOK.calls (k : Nat) (a0 : ByteArray) (r : Bool) (w : World) (h : impl_nameOK.f k a0 = some r) :
  Calls Try.prog 42 #[.string a0] w fun e w' => e = .returned (.bool r) ∧ Drawn0 w w' := by
 have H : (if a0.toList = ([] : List UInt8) then (some false) else ((impl_smallLetters.f k a0 20).bind fun t417 => (some t417))) = some r := h
 clear h
 by_cases c2 : a0.toList = ([] : List UInt8)
 ·
  rw [if_pos c2] at H
  have c2b0 : (a0.toList == ([] : List UInt8)) = true := beq_iff_eq.mpr c2
  have c2b1 : (a0.toList != ([] : List UInt8)) = false := bne_eq_false_iff_eq.mpr c2
  clear c2
  obtain rfl := Option.some.inj H
  go_enter Try.func42, Try.ntmps42
  go_wp2
  go_ret
  exact ⟨by first | rfl | (rw [Go.Proofs.Ytcngebfcpobnnaa.Pre.bne_nil]; first | rfl | (simp; done) | (simp <;> rfl)) | (simp; done) | (simp [*]; done), by repeat (first | exact Drawn0.refl _ | apply Drawn0.step)⟩
 ·
  rw [if_neg c2] at H
  have c2b0 : (a0.toList == ([] : List UInt8)) = false := beq_eq_false_iff_ne.mpr c2
  have c2b1 : (a0.toList != ([] : List UInt8)) = true := bne_iff_ne.mpr c2
  replace H := Option.bind_eq_some_iff.mp H
  obtain ⟨t417, A30, H⟩ := H
  replace H : (some t417) = some r := H
  have A3 := aM A30
  clear A30
  obtain rfl := Option.some.inj H
  go_enter Try.func42, Try.ntmps42
  go_wp2_with (first | (go_at_call 69; (try simp only [i64_w]); (with_reducible refine (impl_smallLetters.calls k a0 20 t417 _ A3.out).mono ?_); rintro e w' ⟨rfl, ⟨nd, rfl⟩⟩))
  go_ret
  exact ⟨by first | rfl | (rw [Go.Proofs.Ytcngebfcpobnnaa.Pre.bne_nil]; first | rfl | (simp; done) | (simp <;> rfl)) | (simp; done) | (simp [*]; done), by repeat (first | exact Drawn0.refl _ | apply Drawn0.step)⟩

def impl_radixOf.f (k : Nat) (l0 : List ByteArray) : Option ((List (S64))) := (impl_grow.f k (([(⟨(⟨#[]⟩ : ByteArray), false, (-1)⟩ : S64)] : List (S64))) l0 0 0).bind fun t276 => (some t276)
set_option maxHeartbeats 8000000 in
set_option maxRecDepth 100000 in
theorem impl_radixOf.calls (k : Nat) (A0 : Option Addr) (c0 : Nat) (l0 : List ByteArray) (r : List (S64)) (w : World) (hr0 : Kd.C Kd.string w A0 l0.length l0) (hc0 : l0.length ≤ c0) (h : impl_radixOf.f k l0 = some r) :
  Calls Try.prog 46 #[.slice A0 l0.length c0] w fun e w' => ∃ v0_ : Value, e = .returned (.agg #[v0_]) ∧ Kd.R k64 64 w' w.heap.size (fun _ => True) v0_ r ∧ Below w.heap.size w w' := by
 have hu26 := Try.underlying26
 have hu64 := Try.underlying64
 have HR0 := aM hr0
 have HC0 := aM hc0
 clear hr0 hc0
 have HB := aM (Below.refl w.heap.size w)
 have H : ((impl_grow.f k (([(⟨(⟨#[]⟩ : ByteArray), false, (-1)⟩ : S64)] : List (S64))) l0 0 0).bind fun t276 => (some t276)) = some r := h
 clear h
 obtain ⟨y273, hy273⟩ : ∃ y_ : List (S64), y_ = (([(⟨(⟨#[]⟩ : ByteArray), false, (-1)⟩ : S64)] : List (S64))) := ⟨_, rfl⟩
 replace H : ((impl_grow.f k y273 l0 0 0).bind fun t276 => (some t276)) = some r := by first | (rw [hy273]; with_reducible exact H) | (have H2_ := (Option.bind_some _ _).symm.trans H; rw [hy273]; with_reducible exact H2_) | (have H2_ := (Option.bind_some _ _).symm.trans H; with_reducible exact H2_) | with_reducible exact H | (rw [hy273]; exact H) | exact H
 have Ny273 := aM hy273
 clear hy273
 replace H := Option.bind_eq_some_iff.mp H
 obtain ⟨t276, A20, H⟩ := H
 replace H : (some t276) = some r := H
 have A2 := aM A20
 clear A20
 obtain rfl := Option.some.inj H
 go_enter Try.func46, Try.ntmps46
 go_wp2_with (first | ((with_reducible refine gate_dst (N := 2) rfl ?_); refine box_event ?hg (N := 2) ?hd (cs := #[.slice none 0 0]) (t := 26) ?hr ?_; (case hd => rfl); (case hg => rfl); (case hr => first | (go_simp; done) | (go_simp; rfl)); intro gb272 hg w3 hbox hb; have n0_ := aM (below_step (by repeat (first | (with_reducible first | exact HB.out | apply below_alloc | apply pw_below_drewN | apply below_drew1) | exact HB.out)) hb); have n1_ := aM (hbox); have n2_ := aM ((by rw [hg]; exact (below_size (by repeat (first | (with_reducible first | exact HB.out | apply below_alloc | apply pw_below_drewN | apply below_drew1) | exact HB.out))) : w.heap.size ≤ gb272)); have n3_ := aM ((by rw [hg]; exact (below_size (by repeat (first | (with_reducible first | exact HB.out | apply below_alloc | apply pw_below_drewN | apply below_drew1) | exact HB.out))) : w.heap.size ≤ gb272)); clear HB; have HB := n0_; have BK272 := n1_; have GW272 := n2_; have GE272 := n3_; clear n0_ n1_ n2_ n3_; clear hb hbox hg) | ((with_reducible refine gate_dst (N := 4) rfl ?_); refine Kd.R_lit k64 _ 64 ?hg (N := 4) ?hd (xs := ([(⟨(⟨#[]⟩ : ByteArray), false, (-1)⟩ : S64)] : List (S64))) (inner := [.string (⟨#[]⟩ : ByteArray), .bool false, .int .i64 (-1)]) (ok := fun _ => True) (okp := fun _ => True) ?hr ?hp (fun _ hk => hk) trivial (Below.refl _ _) (Nat.le_refl _) (by simp) ?_; (case hd => rfl); (case hg => rfl); (case hr => first | (go_simp; done) | (go_simp; rfl)); (case hp => exact (Reps.c3 (show Kd.M k64 _ _ _ (⟨(⟨#[]⟩ : ByteArray), false, (-1)⟩ : S64) [.string (⟨#[]⟩ : ByteArray), .bool false, .int .i64 (-1)] from (k64_mkM _ _ _ (⟨(⟨#[]⟩ : ByteArray), false, (-1)⟩ : S64) )) (Reps.none _ _))); intro v274 w4 ho5 hb hg_ hnew_; clear hg_ hnew_; (first | rw [← Ny273.out] at ho5 | (simp only [Int.reduceToNat] at ho5; rw [← Ny273.out] at ho5)); have n0_ := aM (Kd.R_lower ho5 (below_size (by repeat (first | (with_reducible first | exact HB.out | apply below_alloc | apply pw_below_drewN | apply below_drew1 | refine below_set ?_ GE272.out) | exact HB.out)))); have n1_ := aM (blk_below (g := gb272) (o := .cells #[.slice none 0 0] 26 (0, 0)) (by (with_reducible repeat (first | refine blk_drewN ?_ _ | refine blk_drew ?_ | refine blk_alloc ?_ _)); exact BK272.out) hb); have n2_ := aM (below_step (by repeat (first | (with_reducible first | exact HB.out | apply below_alloc | apply pw_below_drewN | apply below_drew1 | refine below_set ?_ GE272.out) | exact HB.out)) hb); clear BK272; clear HB; have HO275 := n0_; have BK272 := n1_; have HB := n2_; clear n0_ n1_ n2_; clear hb ho5; obtain ⟨Ao6, co6, eo6⟩ := Kd.R_slice HO275.out; subst eo6) | ((with_reducible refine gate_callee (f := 72) rfl ?_); refine goesL_ (some 6) rfl rfl Try.func72 (by kernel_rfl) rfl #[.slice Ao6 y273.length co6, .slice A0 l0.length c0, .int .i64 0, .int .i64 0] rfl (by (try simp only [List.map_toArray, List.map_cons, List.map_nil]); first | done | rfl | (simp only [List.length_drop, List.length_take]; rfl)) ?_; (with_reducible refine (impl_grow.calls k (fun k_ => some k_ = (.slice Ao6 y273.length co6 : Value).ownBlock) (.slice Ao6 y273.length co6) y273 (fun k_ => k_ < w.heap.size) _ _ l0 0 0 t276 w _ ?side1 ?side2 ?side3 A2.out).mono ?_); (case side1 => repeat (first | (with_reducible first | exact HB.out | apply below_alloc | apply pw_below_drewN | apply below_drew1 | refine below_set ?_ GE272.out) | exact HB.out)); (case side2 => exact Kd.R_tight rfl HO275.out); (case side3 => exact Kd.V_mono (Kd.V_mk HC0.out (Kd.F_below (Kd.C_F Kd.heap_string HR0.out) (by repeat (first | (with_reducible first | exact HB.out | apply below_alloc | apply pw_below_drewN | apply below_drew1 | refine below_set ?_ GE272.out) | exact HB.out)))) (fun k_ hk_ => ⟨hk_, fun e_ => Nat.not_le.2 hk_ (Kd.R_base HO275.out k_ e_.symm)⟩)); rintro e w7 ⟨v277, rfl, ho0, hb, hkp⟩; refine ⟨_, rfl, ?_⟩; have n0_ := aM (blk_kept (by (with_reducible repeat (first | refine blk_drewN ?_ _ | refine blk_drew ?_ | refine blk_alloc ?_ _)); exact BK272.out) hkp (fun hs_ => (fun e_ => (Kd.R_ne HO275.out BK272.out (by decide)) e_) hs_)); have n1_ := aM (Kd.R_mono (ok' := fun k_ => True) ho0 (fun k_ hk_ => trivial)); have n2_ := aM (hb); clear BK272; clear HB; clear HO275; have BK272 := n0_; have HO278 := n1_; have HB := n2_; clear n0_ n1_ n2_; (try clear hb); (try clear hkp); (try clear ho0); obtain ⟨Ao8, co8, eo8⟩ := Kd.R_slice HO278.out; subst eo8; have hcz9_0 : w7.cell? ⟨gb272, 0, none⟩ = some (.slice none 0 0) := (blk_cell BK272.out 0).trans rfl; have hfz9_0 := blk_frozen BK272.out 0))
 refine bodyPost_ret (results_cell_row rfl _ _ gb272 26 #[.slice Ao8 t276.length co8] (0, 0) _ rfl (by (with_reducible repeat (first | refine blk_drewN ?_ _ | refine blk_drew ?_ | refine blk_alloc ?_ _)); refine blk_put (cs := #[.slice none 0 0]) ?_ 0 _ rfl; (with_reducible repeat (first | refine blk_drewN ?_ _ | refine blk_drew ?_ | refine blk_alloc ?_ _)); exact BK272.out) Try.underlying26 rfl (by kernel_rfl)) rfl ?_
 exact ⟨_, by first | rfl | (simp [errW_none, errW_some] <;> rfl) | (simp [*, errW_none, errW_some] <;> rfl), by (with_reducible repeat (first | apply Kd.R_alloc | apply Kd.R_drewN | apply Kd.R_drew)); exact Kd.R_mono (Kd.R_far (p := ⟨gb272, 0, none⟩) (Kd.R_types HO278.out BK272.out (by decide)) (fun _ hk => hk.2) (.slice Ao8 t276.length co8)) (fun _ hk => trivial), by repeat (first | (with_reducible first | exact HB.out | apply below_alloc | apply pw_below_drewN | apply below_drew1 | refine below_set ?_ GE272.out) | exact HB.out)⟩

def impl_within.f (a0 : Int) (a1 : Int) (a2 : Int) : Option (Bool) := if a0 ≥ a1 then (some (decide (a0 ≤ a2))) else (some false)
set_option maxHeartbeats 8000000 in
set_option maxRecDepth 100000 in
theorem impl_within.calls (a0 : Int) (a1 : Int) (a2 : Int) (r : Bool) (w : World) (h : impl_within.f a0 a1 a2 = some r) :
  Calls Try.prog 78 #[.int .i64 a0, .int .i64 a1, .int .i64 a2] w fun e w' => e = .returned (.bool r) ∧ Drawn0 w w' := by
 have H : (if a0 ≥ a1 then (some (decide (a0 ≤ a2))) else (some false)) = some r := h
 clear h
 by_cases c4 : a0 ≥ a1
 ·
  rw [if_pos c4] at H
  have c4b0 : decide (a1 ≤ a0) = true := decide_eq_true c4
  clear c4
  obtain rfl := Option.some.inj H
  go_enter Try.func78, Try.ntmps78
  go_wp2
  go_ret
  exact ⟨by first | rfl | (simp; done) | (simp [*]; done), by repeat (first | exact Drawn0.refl _ | apply Drawn0.step)⟩
 ·
  rw [if_neg c4] at H
  have c4b0 : decide (a1 ≤ a0) = false := decide_eq_false c4
  clear c4
  obtain rfl := Option.some.inj H
  go_enter Try.func78, Try.ntmps78
  go_wp2
  go_ret
  exact ⟨by first | rfl | (simp; done) | (simp [*]; done), by repeat (first | exact Drawn0.refl _ | apply Drawn0.step)⟩

end Go.Proofs.Ytcngebfcpobnnaa.PQ
end

section
namespace Go.Proofs.Ytcngebfcpobnnaa.PQ
open Go.RowKit Go.Proofs.YtcngebfcpobnnaaW.PrintWords Go.Proofs.YtcngebfcpobnnaaW.PrintLast Go.Proofs.YtcngebfcpobnnaaW.PrintMore
attribute [local go_sem] max2_int min2_int max_two min_two max_three min_three max_four min_four
set_option linter.unusedVariables false
set_option linter.unusedSimpArgs false
attribute [local go_sem high] eqA64
def impl_Edge_79.l0 : Nat → List (S64) → List (S64) → Int → Int → Option (Bool)
 | 0, _, _, _, _ => none
 | k + 1, x0, x1, x12, x13 => if x13 < x12 then (if 0 ≤ x13 then (if x13 < (x0.length : Int) then (if x13 < (x1.length : Int) then (if (!((((rd_T64 x0 x13).f0).toList) == (((rd_T64 x1 x13).f0).toList)) || (!(((rd_T64 x0 x13).f1) == ((rd_T64 x1 x13).f1)) || (!(((rd_T64 x0 x13).f2) == ((rd_T64 x1 x13).f2))))) = true then (some false) else (impl_Edge_79.l0 k x0 x1 x12 (wrap64 (x13 + 1)))) else (none)) else (none)) else (none)) else (some true)
def impl_Edge_79.f (k : Nat) (l0 : List (S64)) (l1 : List (S64)) : Option (Bool) := if (l0.length : Int) = (l1.length : Int) then (impl_Edge_79.l0 k l0 l1 (l0.length : Int) 0) else (some false)
set_option maxHeartbeats 8000000 in
set_option maxRecDepth 100000 in
theorem impl_Edge_79.calls (k : Nat) (A0 : Option Addr) (c0 : Nat) (l0 : List (S64)) (A1 : Option Addr) (c1 : Nat) (l1 : List (S64)) (r : Bool) (w : World) (hr0 : Kd.C k64 w A0 l0.length l0) (hc0 : l0.length ≤ c0) (hr1 : Kd.C k64 w A1 l1.length l1) (hc1 : l1.length ≤ c1) (h : impl_Edge_79.f k l0 l1 = some r) :
  Calls Try.prog 79 #[.slice A0 l0.length c0, .slice A1 l1.length c1] w fun e w' => e = .returned (.bool r) ∧ Drawn0 w w' := by
 have hu64 := Try.underlying64
 have HR0 := aM hr0
 have HC0 := aM hc0
 clear hr0 hc0
 have HR1 := aM hr1
 have HC1 := aM hc1
 clear hr1 hc1
 have H : (if (l0.length : Int) = (l1.length : Int) then (impl_Edge_79.l0 k l0 l1 (l0.length : Int) 0) else (some false)) = some r := h
 clear h
 by_cases c3 : (l0.length : Int) = (l1.length : Int)
 ·
  rw [if_pos c3] at H
  have c3b0 : ((l0.length : Int) == (l1.length : Int)) = true := beq_iff_eq.mpr c3
  have c3b1 : ((l0.length : Int) != (l1.length : Int)) = false := bne_eq_false_iff_eq.mpr c3
  have c3b2 : (l0.length == l1.length) = true := by first | simpa using c3 | (simp at c3 ⊢; omega)
  clear c3
  have H' := aM H
  clear H
  go_enter Try.func79, Try.ntmps79
  go_wp2
  repeat (go_quiet (fail); try go_wp2)
  go_loopg [13] k (fun kq v13 w' => ∃ (x13_1 : Int), v13 = .int .i64 x13_1 ∧ Aside0 (impl_Edge_79.l0 kq l0 l1 (l0.length : Int) x13_1 = some r) ∧ Aside0 (kq ≤ k) ∧ Drawn0 w w')
  case atStart => exact ⟨(0), (by first | rfl | (simp; done) | (simp [*]; done)), H', ⟨Nat.le_refl _⟩, by repeat (first | exact Drawn0.refl _ | apply Drawn0.step)⟩
  case round =>
   clear H'
   try clear c1
   try clear p2
   try clear c3
   try clear c3b0
   try clear c3b1
   try clear c3b2
   obtain ⟨x13_1, rfl, HA, HK1, ⟨m1, rfl⟩⟩ := hrel
   cases gk with
   | zero => exact absurd HA.out (by simp [impl_Edge_79.l0])
   | succ k1 =>
    have H := HA.out
    clear HA
    simp only [impl_Edge_79.l0] at H
    by_cases c4 : x13_1 < (l0.length : Int)
    ·
     rw [if_pos c4] at H
     have c4b0 : decide (x13_1 < (l0.length : Int)) = true := decide_eq_true c4
     clear c4
     by_cases c5 : 0 ≤ x13_1
     ·
      rw [if_pos c5] at H
      have c5b0 : decide (0 ≤ x13_1) = true := decide_eq_true c5
      clear c5
      by_cases c6 : x13_1 < (l0.length : Int)
      ·
       rw [if_pos c6] at H
       have c6b0 : decide (x13_1 < (l0.length : Int)) = true := decide_eq_true c6
       clear c6
       by_cases c7 : x13_1 < (l1.length : Int)
       ·
        rw [if_pos c7] at H
        have c7b0 : decide (x13_1 < (l1.length : Int)) = true := decide_eq_true c7
        clear c7
        by_cases c8 : (!((((rd_T64 l0 x13_1).f0).toList) == (((rd_T64 l1 x13_1).f0).toList)) || (!(((rd_T64 l0 x13_1).f1) == ((rd_T64 l1 x13_1).f1)) || (!(((rd_T64 l0 x13_1).f2) == ((rd_T64 l1 x13_1).f2))))) = true
        ·
         rw [if_pos c8] at H
         have c8b0 : (!((((rd_T64 l0 x13_1).f0).toList) == (((rd_T64 l1 x13_1).f0).toList)) || (!(((rd_T64 l0 x13_1).f1) == ((rd_T64 l1 x13_1).f1)) || (!(((rd_T64 l0 x13_1).f2) == ((rd_T64 l1 x13_1).f2))))) = true := c8
         clear c8
         obtain rfl := Option.some.inj H
         have p279 : 0 ≤ (x13_1 : Int) := of_decide_eq_true (by first | (with_reducible assumption) | assumption)
         have q279 : x13_1 < (l0.length : Int) := of_decide_eq_true (by first | (with_reducible assumption) | assumption)
         obtain ⟨ad279, e279, hx279_0, hx279_1, hx279_2⟩ := at_T64 HR0.out x13_1 p279 q279
         cases e279
         try have hz_hx279_0 := aM hx279_0
         try have hz_hx279_1 := aM hx279_1
         try have hz_hx279_2 := aM hx279_2
         replace p279 := eq_true p279
         replace q279 := eq_true q279
         have p280 : 0 ≤ (x13_1 : Int) := of_decide_eq_true (by first | (with_reducible assumption) | assumption)
         have q280 : x13_1 < (l1.length : Int) := of_decide_eq_true (by first | (with_reducible assumption) | assumption)
         obtain ⟨ad280, e280, hx280_0, hx280_1, hx280_2⟩ := at_T64 HR1.out x13_1 p280 q280
         cases e280
         try have hz_hx280_0 := aM hx280_0
         try have hz_hx280_1 := aM hx280_1
         try have hz_hx280_2 := aM hx280_2
         replace p280 := eq_true p280
         replace q280 := eq_true q280
         go_wp2
         repeat (go_quiet (fail); try go_wp2)
         go_ret
         exact ⟨by first | rfl | (simp; done) | (simp [*]; done), by repeat (first | exact Drawn0.refl _ | apply Drawn0.step)⟩
        ·
         rw [if_neg c8] at H
         have c8b0 : (!((((rd_T64 l0 x13_1).f0).toList) == (((rd_T64 l1 x13_1).f0).toList)) || (!(((rd_T64 l0 x13_1).f1) == ((rd_T64 l1 x13_1).f1)) || (!(((rd_T64 l0 x13_1).f2) == ((rd_T64 l1 x13_1).f2))))) = false := by simpa using c8
         clear c8
         have H' := aM H
         clear H
         have p279 : 0 ≤ (x13_1 : Int) := of_decide_eq_true (by first | (with_reducible assumption) | assumption)
         have q279 : x13_1 < (l0.length : Int) := of_decide_eq_true (by first | (with_reducible assumption) | assumption)
         obtain ⟨ad279, e279, hx279_0, hx279_1, hx279_2⟩ := at_T64 HR0.out x13_1 p279 q279
         cases e279
         try have hz_hx279_0 := aM hx279_0
         try have hz_hx279_1 := aM hx279_1
         try have hz_hx279_2 := aM hx279_2
         replace p279 := eq_true p279
         replace q279 := eq_true q279
         have p280 : 0 ≤ (x13_1 : Int) := of_decide_eq_true (by first | (with_reducible assumption) | assumption)
         have q280 : x13_1 < (l1.length : Int) := of_decide_eq_true (by first | (with_reducible assumption) | assumption)
         obtain ⟨ad280, e280, hx280_0, hx280_1, hx280_2⟩ := at_T64 HR1.out x13_1 p280 q280
         cases e280
         try have hz_hx280_0 := aM hx280_0
         try have hz_hx280_1 := aM hx280_1
         try have hz_hx280_2 := aM hx280_2
         replace p280 := eq_true p280
         replace q280 := eq_true q280
         go_wp2
         repeat (go_quiet (fail); try go_wp2)
         go_roundg k1
         case measure => have := HK1.out; omega
         case rel => exact ⟨(wrap64 (x13_1 + 1)), (by first | rfl | (simp; done) | (simp [*]; done)), H', ⟨by have := HK1.out; omega⟩, by repeat (first | exact Drawn0.refl _ | apply Drawn0.step)⟩
       ·
        rw [if_neg c7] at H
        exact absurd H (by simp)
      ·
       rw [if_neg c6] at H
       exact absurd H (by simp)
     ·
      rw [if_neg c5] at H
      exact absurd H (by simp)
    ·
     rw [if_neg c4] at H
     have c4b0 : decide (x13_1 < (l0.length : Int)) = false := decide_eq_false c4
     clear c4
     obtain rfl := Option.some.inj H
     go_wp2
     repeat (go_quiet (fail); try go_wp2)
     go_ret
     exact ⟨by first | rfl | (simp; done) | (simp [*]; done), by repeat (first | exact Drawn0.refl _ | apply Drawn0.step)⟩
 ·
  rw [if_neg c3] at H
  have c3b0 : ((l0.length : Int) == (l1.length : Int)) = false := beq_eq_false_iff_ne.mpr c3
  have c3b1 : ((l0.length : Int) != (l1.length : Int)) = true := bne_iff_ne.mpr c3
  have c3b2 : (l0.length == l1.length) = false := by first | simpa using c3 | (simp at c3 ⊢; omega)
  obtain rfl := Option.some.inj H
  go_enter Try.func79, Try.ntmps79
  go_wp2
  repeat (go_quiet (fail); try go_wp2)
  go_ret
  exact ⟨by first | rfl | (simp; done) | (simp [*]; done), by repeat (first | exact Drawn0.refl _ | apply Drawn0.step)⟩

end Go.Proofs.Ytcngebfcpobnnaa.PQ
end

section
namespace Go.Proofs.Ytcngebfcpobnnaa.PQ
open Go.RowKit Go.Proofs.YtcngebfcpobnnaaW.PrintWords Go.Proofs.YtcngebfcpobnnaaW.PrintLast Go.Proofs.YtcngebfcpobnnaaW.PrintMore
attribute [local go_sem] max2_int min2_int max_two min_two max_three min_three max_four min_four
set_option linter.unusedVariables false
set_option linter.unusedSimpArgs false
def laws_markText.l0 : Nat → Int → ByteArray → Option (ByteArray)
 | 0, _, _ => none
 | k + 1, x0, x3 => if x0 > 0 then ((some (([(wrap64 (48 + (Int.tmod x0 10))) % 256] : List Int) : List Int)).bind fun y497 => (if (strOfNums y497).size + x3.size ≤ 9223372036854775807 then (laws_markText.l0 k (wrap64 (Int.tdiv x0 10)) ((strOfNums y497) ++ x3)) else (none))) else (if 1 + x3.size ≤ 9223372036854775807 then (some ((⟨#[109]⟩ : ByteArray) ++ x3)) else (none))
def laws_markText.f (k : Nat) (a0 : Int) : Option (ByteArray) := if a0 ≤ 0 then (some (⟨#[109, 48]⟩ : ByteArray)) else (laws_markText.l0 k a0 (⟨#[]⟩ : ByteArray))
set_option maxHeartbeats 8000000 in
set_option maxRecDepth 100000 in
theorem laws_markText.calls (k : Nat) (a0 : Int) (r : ByteArray) (w : World) (h : laws_markText.f k a0 = some r) :
  Calls Try.prog 48 #[.int .i64 a0] w fun e w' => e = .returned (.string r) ∧ Below w.heap.size w w' := by
 have HB := aM (Below.refl w.heap.size w)
 have H : (if a0 ≤ 0 then (some (⟨#[109, 48]⟩ : ByteArray)) else (laws_markText.l0 k a0 (⟨#[]⟩ : ByteArray))) = some r := h
 clear h
 by_cases c2 : a0 ≤ 0
 ·
  rw [if_pos c2] at H
  have c2b0 : decide (a0 ≤ 0) = true := decide_eq_true c2
  clear c2
  obtain rfl := Option.some.inj H
  go_enter Try.func48, Try.ntmps48
  go_wp2
  go_ret
  exact ⟨by first | rfl | (simp [errW_none, errW_some] <;> rfl) | (simp [*, errW_none, errW_some] <;> rfl), by repeat (first | (with_reducible first | exact HB.out | apply below_alloc | apply pw_below_drewN | apply below_drew1) | exact HB.out)⟩
 ·
  rw [if_neg c2] at H
  have c2b0 : decide (a0 ≤ 0) = false := decide_eq_false c2
  clear c2
  have H' := aM H
  clear H
  go_enter Try.func48, Try.ntmps48
  go_wp2
  go_loopg [0, 3] k (fun kq v0 v3 w' => ∃ (x0_1 : Int) (x3_1 : ByteArray), v0 = .int .i64 x0_1 ∧ v3 = .string x3_1 ∧ Aside0 (laws_markText.l0 kq x0_1 x3_1 = some r) ∧ Aside0 (kq ≤ k) ∧ Aside0 (Below w.heap.size w w'))
  case atStart => exact ⟨(a0), ((⟨#[]⟩ : ByteArray)), (by first | rfl | (simp; done) | (simp [*]; done)), (by first | rfl | (simp; done) | (simp [*]; done)), H', ⟨Nat.le_refl _⟩, ⟨by repeat (first | (with_reducible first | exact HB.out | apply below_alloc | apply pw_below_drewN | apply below_drew1) | exact HB.out)⟩⟩
  case round =>
   clear H'
   try clear c2
   try clear c2b0
   try clear p2
   obtain ⟨x0_1, x3_1, rfl, rfl, HA, HK1, HB⟩ := hrel
   cases gk with
   | zero => exact absurd HA.out (by simp [laws_markText.l0])
   | succ k1 =>
    have H := HA.out
    clear HA
    simp only [laws_markText.l0] at H
    by_cases c3 : x0_1 > 0
    ·
     rw [if_pos c3] at H
     have c3b0 : decide (0 < x0_1) = true := decide_eq_true c3
     clear c3
     obtain ⟨y497, hy497⟩ : ∃ y_ : List Int, y_ = (([(wrap64 (48 + (Int.tmod x0_1 10))) % 256] : List Int)) := ⟨_, rfl⟩
     replace H : (if (strOfNums y497).size + x3_1.size ≤ 9223372036854775807 then (laws_markText.l0 k1 (wrap64 (Int.tdiv x0_1 10)) ((strOfNums y497) ++ x3_1)) else (none)) = some r := by first | (rw [hy497]; with_reducible exact H) | (have H2_ := (Option.bind_some _ _).symm.trans H; rw [hy497]; with_reducible exact H2_) | (have H2_ := (Option.bind_some _ _).symm.trans H; with_reducible exact H2_) | with_reducible exact H | (rw [hy497]; exact H) | exact H
     have Ny497 := aM hy497
     clear hy497
     by_cases c4 : (strOfNums y497).size + x3_1.size ≤ 9223372036854775807
     ·
      rw [if_pos c4] at H
      have c4b0 := eq_true c4
      have c4b1 : decide ((strOfNums y497).size + x3_1.size ≤ 9223372036854775807) = true := decide_eq_true c4
      try have c4b2 : (9223372036854775807 < (strOfNums y497).size + x3_1.size) = False := eq_false (Nat.not_lt.2 c4)
      try have c4b3 := c4b2
      try simp only [ByteArray.size_append] at c4b3
      have H' := aM H
      clear H
      go_wp2_with (first | ((with_reducible refine gate_dst (N := 12) rfl ?_); refine Kd.R_lit (Kd.int .u8) _ 5 ?hg (N := 12) ?hd (xs := ([(wrap64 (48 + (Int.tmod x0_1 10))) % 256] : List Int)) (inner := [.int .u8 ((wrap64 (48 + (Int.tmod x0_1 10))) % 256)]) (ok := fun _ => True) (okp := fun _ => True) ?hr ?hp (fun _ hk => hk) trivial (Below.refl _ _) (Nat.le_refl _) (by simp) ?_; (case hd => rfl); (case hg => rfl); (case hr => first | (go_simp; done) | (go_simp; rfl)); (case hp => exact (Reps.one (show Kd.M (Kd.int .u8) _ _ _ ((wrap64 (48 + (Int.tmod x0_1 10))) % 256) [.int .u8 ((wrap64 (48 + (Int.tmod x0_1 10))) % 256)] from rfl) (Reps.none _ _))); intro v498 w5 ho6 hb hg_ hnew_; clear hg_ hnew_; (first | rw [← Ny497.out] at ho6 | (simp only [Int.reduceToNat] at ho6; rw [← Ny497.out] at ho6)); have n0_ := aM (Kd.R_lower ho6 (below_size (by repeat (first | (with_reducible first | exact HB.out | apply below_alloc | apply pw_below_drewN | apply below_drew1) | exact HB.out)))); have n1_ := aM (below_step (by repeat (first | (with_reducible first | exact HB.out | apply below_alloc | apply pw_below_drewN | apply below_drew1) | exact HB.out)) hb); clear HB; have HO499 := n0_; have HB := n1_; clear n0_ n1_; clear hb ho6; have hcv7 := own_string (P := Try.prog) Try.underlying78 Try.underlying5 Try.underlying9 (Kd.own_of_R HO499.out)))
      go_roundg k1
      case measure => have := HK1.out; omega
      case rel => exact ⟨(wrap64 (Int.tdiv x0_1 10)), ((strOfNums y497) ++ x3_1), (by first | rfl | (simp; done) | (simp [*]; done)), (by first | rfl | (simp; done) | (simp [*]; done)), H', ⟨by have := HK1.out; omega⟩, ⟨by repeat (first | (with_reducible first | exact HB.out | apply below_alloc | apply pw_below_drewN | apply below_drew1) | exact HB.out)⟩⟩
     ·
      rw [if_neg c4] at H
      exact absurd H (by simp)
    ·
     rw [if_neg c3] at H
     have c3b0 : decide (0 < x0_1) = false := decide_eq_false c3
     clear c3
     by_cases c8 : 1 + x3_1.size ≤ 9223372036854775807
     ·
      rw [if_pos c8] at H
      have c8b0 := eq_true c8
      have c8b1 : decide (1 + x3_1.size ≤ 9223372036854775807) = true := decide_eq_true c8
      try have c8b2 : (9223372036854775807 < 1 + x3_1.size) = False := eq_false (Nat.not_lt.2 c8)
      try have c8b3 := c8b2
      try simp only [ByteArray.size_append] at c8b3
      obtain rfl := Option.some.inj H
      go_wp2
      go_ret
      exact ⟨by first | rfl | (simp [errW_none, errW_some] <;> rfl) | (simp [*, errW_none, errW_some] <;> rfl), by repeat (first | (with_reducible first | exact HB.out | apply below_alloc | apply pw_below_drewN | apply below_drew1) | exact HB.out)⟩
     ·
      rw [if_neg c8] at H
      exact absurd H (by simp)


def laws_markEdgeS.l0 : Nat → List (S64) → Int → Int → Option (Int × (List (S64)))
 | 0, _, _, _ => none
 | k + 1, x0, x1, x5 => if x5 < (x0.length : Int) then ((laws_markText.f k x1).bind fun t502 => (if 0 ≤ x5 then ((some (x0.set (x5 : Int).toNat (⟨t502, (rd_T64 x0 x5).f1, (rd_T64 x0 x5).f2⟩ : S64) : List (S64))).bind fun y503 => ((some (y503.set (x5 : Int).toNat (⟨(rd_T64 y503 x5).f0, ((Int.tmod (wrap64 (x1 + 1)) 3) == 0), (rd_T64 y503 x5).f2⟩ : S64) : List (S64))).bind fun y504 => (laws_markEdgeS.l0 k (y504.set (x5 : Int).toNat (⟨(rd_T64 y504 x5).f0, (rd_T64 y504 x5).f1, wrap64 ((wrap64 (x1 + 1)) + 1)⟩ : S64)) (wrap64 ((wrap64 ((wrap64 (x1 + 1)) + 1)) + 1)) (wrap64 (x5 + 1))))) else (none))) else (some (x1, x0))
def laws_markEdgeS.f (k : Nat) (l0 : List (S64)) (a1 : Int) : Option (Int × (List (S64))) := laws_markEdgeS.l0 k l0 a1 0
set_option maxHeartbeats 8000000 in
set_option maxRecDepth 100000 in
theorem laws_markEdgeS.calls (k : Nat) (P0_ : Nat → Prop) (u9000_ : Value) (l0 : List (S64)) (a1 : Int) (r1 : Int) (r2 : List (S64)) (w0 w : World) (hB : Below w0.heap.size w0 w) (ho0 : Kd.R k64 64 w w0.heap.size P0_ u9000_ l0) (h : laws_markEdgeS.f k l0 a1 = some (r1, r2)) :
  Calls Try.prog 49 #[u9000_, .int .i64 a1] w fun e w' => e = .returned (.int .i64 r1) ∧ Kd.R k64 64 w' w0.heap.size (fun k_ => (P0_ k_ ∨ w.heap.size ≤ k_)) u9000_ r2 ∧ Below w0.heap.size w0 w' ∧ Kept w w' (fun k_ => P0_ k_) := by
 have HO0 := aM (show Kd.R k64 64 w w0.heap.size (fun k_ => (P0_ k_ ∨ w.heap.size ≤ k_)) u9000_ l0 from Kd.R_mono ho0 (fun k_ hk => (.inl hk)))
 have HK := aM (Kept.refl w (fun k_ => P0_ k_))
 have HW0 := aM hB.size
 have HB := aM hB
 clear hB
 have H : (laws_markEdgeS.l0 k l0 a1 0) = some (r1, r2) := h
 clear h
 have H' := aM H
 clear H
 go_enter Try.func49, Try.ntmps49
 go_wp2
 go_loopg [1, 5] k (fun kq v1 v5 w' => ∃ (x0_1 : List (S64)) (x1_1 : Int) (x5_1 : Int), v1 = .int .i64 x1_1 ∧ v5 = .int .i64 x5_1 ∧ Aside0 (laws_markEdgeS.l0 kq x0_1 x1_1 x5_1 = some (r1, r2)) ∧ Aside0 (kq ≤ k) ∧ Aside0 (Kd.R k64 64 w' w0.heap.size (fun k_ => (P0_ k_ ∨ w.heap.size ≤ k_)) u9000_ x0_1) ∧ Aside0 (Kept w w' (fun k_ => P0_ k_)) ∧ Aside0 (Below w0.heap.size w0 w'))
 case atStart => exact ⟨(l0), (a1), (0), (by first | rfl | (simp; done) | (simp [*]; done)), (by first | rfl | (simp; done) | (simp [*]; done)), H', ⟨Nat.le_refl _⟩, ⟨by (with_reducible repeat (first | apply Kd.R_alloc | apply Kd.R_drewN | apply Kd.R_drew)); exact HO0.out⟩, ⟨by repeat (first | (with_reducible first | exact HK.out | apply Kept.alloc | apply Kept.drewN | apply Kept.drew) | exact HK.out)⟩, ⟨by repeat (first | (with_reducible first | exact HB.out | apply below_alloc | apply pw_below_drewN | apply below_drew1) | exact HB.out)⟩⟩
 case round =>
  clear H'
  try clear p2
  obtain ⟨x0_1, x1_1, x5_1, rfl, rfl, HA, HK1, HO_0, HK, HB⟩ := hrel
  cases gk with
  | zero => exact absurd HA.out (by simp [laws_markEdgeS.l0])
  | succ k1 =>
   have H := HA.out
   clear HA
   simp only [laws_markEdgeS.l0] at H
   by_cases c3 : x5_1 < (x0_1.length : Int)
   ·
    rw [if_pos c3] at H
    have c3b0 : decide (x5_1 < (x0_1.length : Int)) = true := decide_eq_true c3
    clear c3
    replace H := Option.bind_eq_some_iff.mp H
    obtain ⟨t502, A40, H⟩ := H
    replace H : (if 0 ≤ x5_1 then ((some (x0_1.set (x5_1 : Int).toNat (⟨t502, (rd_T64 x0_1 x5_1).f1, (rd_T64 x0_1 x5_1).f2⟩ : S64) : List (S64))).bind fun y503 => ((some (y503.set (x5_1 : Int).toNat (⟨(rd_T64 y503 x5_1).f0, ((Int.tmod (wrap64 (x1_1 + 1)) 3) == 0), (rd_T64 y503 x5_1).f2⟩ : S64) : List (S64))).bind fun y504 => (laws_markEdgeS.l0 k1 (y504.set (x5_1 : Int).toNat (⟨(rd_T64 y504 x5_1).f0, (rd_T64 y504 x5_1).f1, wrap64 ((wrap64 (x1_1 + 1)) + 1)⟩ : S64)) (wrap64 ((wrap64 ((wrap64 (x1_1 + 1)) + 1)) + 1)) (wrap64 (x5_1 + 1))))) else (none)) = some (r1, r2) := H
    have A4 := aM A40
    clear A40
    by_cases c5 : 0 ≤ x5_1
    ·
     rw [if_pos c5] at H
     have c5b0 : decide (0 ≤ x5_1) = true := decide_eq_true c5
     clear c5
     obtain ⟨y503, hy503⟩ : ∃ y_ : List (S64), y_ = (x0_1.set (x5_1 : Int).toNat (⟨t502, (rd_T64 x0_1 x5_1).f1, (rd_T64 x0_1 x5_1).f2⟩ : S64)) := ⟨_, rfl⟩
     replace H : ((some (y503.set (x5_1 : Int).toNat (⟨(rd_T64 y503 x5_1).f0, ((Int.tmod (wrap64 (x1_1 + 1)) 3) == 0), (rd_T64 y503 x5_1).f2⟩ : S64) : List (S64))).bind fun y504 => (laws_markEdgeS.l0 k1 (y504.set (x5_1 : Int).toNat (⟨(rd_T64 y504 x5_1).f0, (rd_T64 y504 x5_1).f1, wrap64 ((wrap64 (x1_1 + 1)) + 1)⟩ : S64)) (wrap64 ((wrap64 ((wrap64 (x1_1 + 1)) + 1)) + 1)) (wrap64 (x5_1 + 1)))) = some (r1, r2) := by first | (rw [hy503]; with_reducible exact H) | (have H2_ := (Option.bind_some _ _).symm.trans H; rw [hy503]; with_reducible exact H2_) | (have H2_ := (Option.bind_some _ _).symm.trans H; with_reducible exact H2_) | with_reducible exact H | (rw [hy503]; exact H) | exact H
     have Ny503 := aM hy503
     clear hy503
     obtain ⟨y504, hy504⟩ : ∃ y_ : List (S64), y_ = (y503.set (x5_1 : Int).toNat (⟨(rd_T64 y503 x5_1).f0, ((Int.tmod (wrap64 (x1_1 + 1)) 3) == 0), (rd_T64 y503 x5_1).f2⟩ : S64)) := ⟨_, rfl⟩
     replace H : (laws_markEdgeS.l0 k1 (y504.set (x5_1 : Int).toNat (⟨(rd_T64 y504 x5_1).f0, (rd_T64 y504 x5_1).f1, wrap64 ((wrap64 (x1_1 + 1)) + 1)⟩ : S64)) (wrap64 ((wrap64 ((wrap64 (x1_1 + 1)) + 1)) + 1)) (wrap64 (x5_1 + 1))) = some (r1, r2) := by first | (rw [hy504]; with_reducible exact H) | (have H2_ := (Option.bind_some _ _).symm.trans H; rw [hy504]; with_reducible exact H2_) | (have H2_ := (Option.bind_some _ _).symm.trans H; with_reducible exact H2_) | with_reducible exact H | (rw [hy504]; exact H) | exact H
     have Ny504 := aM hy504
     clear hy504
     obtain ⟨y505, hy505⟩ : ∃ y_ : List (S64), y_ = (y504.set (x5_1 : Int).toNat (⟨(rd_T64 y504 x5_1).f0, (rd_T64 y504 x5_1).f1, wrap64 ((wrap64 (x1_1 + 1)) + 1)⟩ : S64)) := ⟨_, rfl⟩
     replace H : (laws_markEdgeS.l0 k1 y505 (wrap64 ((wrap64 ((wrap64 (x1_1 + 1)) + 1)) + 1)) (wrap64 (x5_1 + 1))) = some (r1, r2) := by first | (rw [hy505]; with_reducible exact H) | (have H2_ := (Option.bind_some _ _).symm.trans H; rw [hy505]; with_reducible exact H2_) | (have H2_ := (Option.bind_some _ _).symm.trans H; with_reducible exact H2_) | with_reducible exact H | (rw [hy505]; exact H) | exact H
     have Ny505 := aM hy505
     clear hy505
     have H' := aM H
     clear H
     obtain ⟨Ao9, co9, eo9⟩ := Kd.R_slice HO_0.out
     subst eo9
     go_wp2_with (first | ((with_reducible refine gate_callee (f := 48) rfl ?_); refine goesL_ (some 15) rfl rfl Try.func48 (by kernel_rfl) rfl #[.int .i64 x1_1] rfl (by (try simp only [List.map_toArray, List.map_cons, List.map_nil]); first | done | rfl | (simp only [List.length_drop, List.length_take]; rfl)) ?_; (with_reducible refine (laws_markText.calls k1 x1_1 t502 _ A4.out).mono ?_); rintro e w10 ⟨rfl, hb⟩; refine ⟨_, rfl, ?_⟩; have n0_ := aM (Kd.R_below (by (with_reducible repeat (first | apply Kd.R_alloc | apply Kd.R_drewN | apply Kd.R_drew)); exact HO_0.out) hb); have n1_ := aM (Kept.below (S := (fun k_ => P0_ k_)) (by repeat (first | (with_reducible first | exact HK.out | apply Kept.alloc | apply Kept.drewN | apply Kept.drew) | exact HK.out)) hb); have n2_ := aM (below_step (by repeat (first | (with_reducible first | exact HB.out | apply below_alloc | apply pw_below_drewN | apply below_drew1) | exact HB.out)) hb); clear HO_0; clear HK; clear HB; have HO_0 := n0_; have HK := n1_; have HB := n2_; clear n0_ n1_ n2_; (try clear hb); (try clear hb2); (try clear hk); (try clear hi); have p6 : 0 ≤ (x5_1 : Int) := of_decide_eq_true (by first | (with_reducible assumption) | assumption); have q6 : (x5_1 : Int) < ((x0_1.length : Int) : Int) := of_decide_eq_true (by first | (with_reducible assumption) | assumption); obtain ⟨go6, co6, eo6, gb6, gl6, cl6, HG6⟩ := Kd.R_form HO_0.out (by omega); (first | cases eo6 | (injection eo6 with ea_ en_ ec_; (first | subst ea_ | (injection ea_ with ea_; subst ea_)); subst ec_; clear en_)); have GB6 := aM gb6; have GG6 := aM HG6; clear gb6 gl6 HG6; have HMgo6 := aM (show (P0_ go6 ∨ w.heap.size ≤ go6) from (HO_0.out.1 _ rfl)); obtain ⟨ce6, hcl6, hM6, hcc6, hfr6⟩ := Kd.R_elem HO_0.out z64 (x5_1 : Int) p6 q6; obtain rfl := k64_openM hM6; have hx6_0 : w10.cell? ⟨go6, (x5_1 : Int).toNat * 3, none⟩ = some (.string ((rd_T64 x0_1 x5_1).f0)) := hcc6 0 _ rfl; have hx6_1 : w10.cell? ⟨go6, (x5_1 : Int).toNat * 3 + 1, none⟩ = some (.bool ((rd_T64 x0_1 x5_1).f1)) := hcc6 1 _ rfl; have hx6_2 : w10.cell? ⟨go6, (x5_1 : Int).toNat * 3 + 2, none⟩ = some (.int .i64 ((rd_T64 x0_1 x5_1).f2)) := hcc6 2 _ rfl; have hf6_0 : w10.frozen? ⟨go6, (x5_1 : Int).toNat * 3, none⟩ = false := hfr6 0; have hf6_1 : w10.frozen? ⟨go6, (x5_1 : Int).toNat * 3 + 1, none⟩ = false := hfr6 1; have hf6_2 : w10.frozen? ⟨go6, (x5_1 : Int).toNat * 3 + 2, none⟩ = false := hfr6 2; clear hcl6 hcc6 hfr6 hM6; replace p6 := eq_true p6; replace q6 := eq_true q6; have HX11 := aM (show Kd.R k64 64 w10 w0.heap.size (fun k_ => (P0_ k_ ∨ w.heap.size ≤ k_)) (.slice (some ⟨go6, 0, none⟩) x0_1.length co9) x0_1 from (by (with_reducible repeat (first | apply Kd.R_alloc | apply Kd.R_drewN | apply Kd.R_drew)); exact HO_0.out)); obtain ⟨ce11, hcl11, hM11, hcc11, hfr11⟩ := Kd.R_elem HX11.out z64 (x5_1 : Int) (of_decide_eq_true (by first | (with_reducible assumption) | assumption)) (by have h_ : (x5_1 : Int) < ((x0_1.length : Int) : Int) := of_decide_eq_true (by first | (with_reducible assumption) | assumption); first | exact h_ | (have e_ := (Kd.R_reads' HO_0.out).1; omega) | simpa using h_); obtain rfl := k64_openM hM11; have HP11 := Kd.R_seg HX11.out (x5_1 : Int) (of_decide_eq_true (by first | (with_reducible assumption) | assumption)) (by have h_ : (x5_1 : Int) < ((x0_1.length : Int) : Int) := of_decide_eq_true (by first | (with_reducible assumption) | assumption); first | exact h_ | (have e_ := (Kd.R_reads' HO_0.out).1; omega) | simpa using h_) (seg := [.string t502]) (j := 0) hcl11 hcc11 (show 1 ≤ 3 from by decide) (x' := (⟨t502, (rd_T64 x0_1 x5_1).f1, (rd_T64 x0_1 x5_1).f2⟩ : S64)) (k64_mkM _ _ _ (⟨t502, (rd_T64 x0_1 x5_1).f1, (rd_T64 x0_1 x5_1).f2⟩ : S64) ) (fun _ hk => hk); have hx11_0 := hcc11 0 _ rfl; (try simp only [show (k64).sz = 3 from rfl, Nat.mul_one, Nat.add_zero] at hx11_0); have hf11_0 := hfr11 0; (try simp only [show (k64).sz = 3 from rfl, Nat.mul_one, Nat.add_zero] at hf11_0); clear hcl11 hcc11 hfr11 hM11) | ((with_reducible refine gate_store (t := 9) (p := 17) rfl ?_); refine store_event (t := 9) (p := 17) (v := ?vo_w12) (w1 := (w10.setCell ⟨go6, (x5_1 : Int).toNat * 3, none⟩ (.string t502))) ?hg ?ho ?hn ?hr ?_; (case ho => rfl); (case hg => rfl); (case hn => rfl); (case hr => first | (go_simp; done) | (go_simp; rfl)); intro w12 hw; have hg : w10.grownBy w12 (some go6) := (by rw [hw]; exact HP11.2); have hp_ : Kd.R k64 64 w12 w0.heap.size (fun k_ => (P0_ k_ ∨ w.heap.size ≤ k_)) (.slice (some ⟨go6, 0, none⟩) x0_1.length co9) y503 := (by rw [hw, Ny503.out]; exact HP11.1); clear HP11; have n0_ := aM (hp_); have n1_ := aM ((by rw [hw]; exact below_set (HB.out) GB6.out : Below w0.heap.size w0 w12)); have n2_ := aM (Kept.of_grown (S := (fun k_ => P0_ k_)) hg (by repeat (first | (with_reducible first | exact HK.out | apply Kept.alloc | apply Kept.drewN | apply Kept.drew) | exact HK.out)) (fun k_ e_ => (HO_0.out.1 k_ e_))); clear HO_0; clear HB; clear HK; have HO_0 := n0_; have HB := n1_; have HK := n2_; clear n0_ n1_ n2_; clear hg hw hp_; have p7 : 0 ≤ (x5_1 : Int) := of_decide_eq_true (by first | (with_reducible assumption) | assumption); have q7 : (x5_1 : Int) < ((x0_1.length : Int) : Int) := of_decide_eq_true (by first | (with_reducible assumption) | assumption); obtain ⟨ce7, hcl7, hM7, hcc7, hfr7⟩ := Kd.R_elem HO_0.out z64 (x5_1 : Int) p7 q7; obtain rfl := k64_openM hM7; have hx7_0 : w12.cell? ⟨go6, (x5_1 : Int).toNat * 3, none⟩ = some (.string ((rd_T64 y503 x5_1).f0)) := hcc7 0 _ rfl; have hx7_1 : w12.cell? ⟨go6, (x5_1 : Int).toNat * 3 + 1, none⟩ = some (.bool ((rd_T64 y503 x5_1).f1)) := hcc7 1 _ rfl; have hx7_2 : w12.cell? ⟨go6, (x5_1 : Int).toNat * 3 + 2, none⟩ = some (.int .i64 ((rd_T64 y503 x5_1).f2)) := hcc7 2 _ rfl; have hf7_0 : w12.frozen? ⟨go6, (x5_1 : Int).toNat * 3, none⟩ = false := hfr7 0; have hf7_1 : w12.frozen? ⟨go6, (x5_1 : Int).toNat * 3 + 1, none⟩ = false := hfr7 1; have hf7_2 : w12.frozen? ⟨go6, (x5_1 : Int).toNat * 3 + 2, none⟩ = false := hfr7 2; clear hcl7 hcc7 hfr7 hM7; replace p7 := eq_true p7; replace q7 := eq_true q7; have HX13 := aM (show Kd.R k64 64 w12 w0.heap.size (fun k_ => (P0_ k_ ∨ w.heap.size ≤ k_)) (.slice (some ⟨go6, 0, none⟩) x0_1.length co9) y503 from (by (with_reducible repeat (first | apply Kd.R_alloc | apply Kd.R_drewN | apply Kd.R_drew)); exact HO_0.out)); obtain ⟨ce13, hcl13, hM13, hcc13, hfr13⟩ := Kd.R_elem HX13.out z64 (x5_1 : Int) (of_decide_eq_true (by first | (with_reducible assumption) | assumption)) (by have h_ : (x5_1 : Int) < ((x0_1.length : Int) : Int) := of_decide_eq_true (by first | (with_reducible assumption) | assumption); first | exact h_ | (have e_ := (Kd.R_reads' HO_0.out).1; omega) | simpa using h_); obtain rfl := k64_openM hM13; have HP13 := Kd.R_seg HX13.out (x5_1 : Int) (of_decide_eq_true (by first | (with_reducible assumption) | assumption)) (by have h_ : (x5_1 : Int) < ((x0_1.length : Int) : Int) := of_decide_eq_true (by first | (with_reducible assumption) | assumption); first | exact h_ | (have e_ := (Kd.R_reads' HO_0.out).1; omega) | simpa using h_) (seg := [.bool ((Int.tmod (wrap64 (x1_1 + 1)) 3) == 0)]) (j := 1) hcl13 hcc13 (show 2 ≤ 3 from by decide) (x' := (⟨(rd_T64 y503 x5_1).f0, ((Int.tmod (wrap64 (x1_1 + 1)) 3) == 0), (rd_T64 y503 x5_1).f2⟩ : S64)) (k64_mkM _ _ _ (⟨(rd_T64 y503 x5_1).f0, ((Int.tmod (wrap64 (x1_1 + 1)) 3) == 0), (rd_T64 y503 x5_1).f2⟩ : S64) ) (fun _ hk => hk); have hx13_1 := hcc13 1 _ rfl; (try simp only [show (k64).sz = 3 from rfl, Nat.mul_one, Nat.add_zero] at hx13_1); have hf13_1 := hfr13 1; (try simp only [show (k64).sz = 3 from rfl, Nat.mul_one, Nat.add_zero] at hf13_1); clear hcl13 hcc13 hfr13 hM13) | ((with_reducible refine gate_store (t := 4) (p := 26) rfl ?_); refine store_event (t := 4) (p := 26) (v := ?vo_w14) (w1 := (w12.setCell ⟨go6, (x5_1 : Int).toNat * 3 + 1, none⟩ (.bool ((Int.tmod (wrap64 (x1_1 + 1)) 3) == 0)))) ?hg ?ho ?hn ?hr ?_; (case ho => rfl); (case hg => rfl); (case hn => rfl); (case hr => first | (go_simp; done) | (go_simp; rfl)); intro w14 hw; have hg : w12.grownBy w14 (some go6) := (by rw [hw]; exact HP13.2); have hp_ : Kd.R k64 64 w14 w0.heap.size (fun k_ => (P0_ k_ ∨ w.heap.size ≤ k_)) (.slice (some ⟨go6, 0, none⟩) x0_1.length co9) y504 := (by rw [hw, Ny504.out]; exact HP13.1); clear HP13; have n0_ := aM (hp_); have n1_ := aM ((by rw [hw]; exact below_set (HB.out) GB6.out : Below w0.heap.size w0 w14)); have n2_ := aM (Kept.of_grown (S := (fun k_ => P0_ k_)) hg (by repeat (first | (with_reducible first | exact HK.out | apply Kept.alloc | apply Kept.drewN | apply Kept.drew) | exact HK.out)) (fun k_ e_ => (HO_0.out.1 k_ e_))); clear HO_0; clear HB; clear HK; have HO_0 := n0_; have HB := n1_; have HK := n2_; clear n0_ n1_ n2_; clear hg hw hp_; have p8 : 0 ≤ (x5_1 : Int) := of_decide_eq_true (by first | (with_reducible assumption) | assumption); have q8 : (x5_1 : Int) < ((x0_1.length : Int) : Int) := of_decide_eq_true (by first | (with_reducible assumption) | assumption); obtain ⟨ce8, hcl8, hM8, hcc8, hfr8⟩ := Kd.R_elem HO_0.out z64 (x5_1 : Int) p8 q8; obtain rfl := k64_openM hM8; have hx8_0 : w14.cell? ⟨go6, (x5_1 : Int).toNat * 3, none⟩ = some (.string ((rd_T64 y504 x5_1).f0)) := hcc8 0 _ rfl; have hx8_1 : w14.cell? ⟨go6, (x5_1 : Int).toNat * 3 + 1, none⟩ = some (.bool ((rd_T64 y504 x5_1).f1)) := hcc8 1 _ rfl; have hx8_2 : w14.cell? ⟨go6, (x5_1 : Int).toNat * 3 + 2, none⟩ = some (.int .i64 ((rd_T64 y504 x5_1).f2)) := hcc8 2 _ rfl; have hf8_0 : w14.frozen? ⟨go6, (x5_1 : Int).toNat * 3, none⟩ = false := hfr8 0; have hf8_1 : w14.frozen? ⟨go6, (x5_1 : Int).toNat * 3 + 1, none⟩ = false := hfr8 1; have hf8_2 : w14.frozen? ⟨go6, (x5_1 : Int).toNat * 3 + 2, none⟩ = false := hfr8 2; clear hcl8 hcc8 hfr8 hM8; replace p8 := eq_true p8; replace q8 := eq_true q8; have HX15 := aM (show Kd.R k64 64 w14 w0.heap.size (fun k_ => (P0_ k_ ∨ w.heap.size ≤ k_)) (.slice (some ⟨go6, 0, none⟩) x0_1.length co9) y504 from (by (with_reducible repeat (first | apply Kd.R_alloc | apply Kd.R_drewN | apply Kd.R_drew)); exact HO_0.out)); obtain ⟨ce15, hcl15, hM15, hcc15, hfr15⟩ := Kd.R_elem HX15.out z64 (x5_1 : Int) (of_decide_eq_true (by first | (with_reducible assumption) | assumption)) (by have h_ : (x5_1 : Int) < ((x0_1.length : Int) : Int) := of_decide_eq_true (by first | (with_reducible assumption) | assumption); first | exact h_ | (have e_ := (Kd.R_reads' HO_0.out).1; omega) | simpa using h_); obtain rfl := k64_openM hM15; have HP15 := Kd.R_seg HX15.out (x5_1 : Int) (of_decide_eq_true (by first | (with_reducible assumption) | assumption)) (by have h_ : (x5_1 : Int) < ((x0_1.length : Int) : Int) := of_decide_eq_true (by first | (with_reducible assumption) | assumption); first | exact h_ | (have e_ := (Kd.R_reads' HO_0.out).1; omega) | simpa using h_) (seg := [.int .i64 (wrap64 ((wrap64 (x1_1 + 1)) + 1))]) (j := 2) hcl15 hcc15 (show 3 ≤ 3 from by decide) (x' := (⟨(rd_T64 y504 x5_1).f0, (rd_T64 y504 x5_1).f1, wrap64 ((wrap64 (x1_1 + 1)) + 1)⟩ : S64)) (k64_mkM _ _ _ (⟨(rd_T64 y504 x5_1).f0, (rd_T64 y504 x5_1).f1, wrap64 ((wrap64 (x1_1 + 1)) + 1)⟩ : S64) ) (fun _ hk => hk); have hx15_2 := hcc15 2 _ rfl; (try simp only [show (k64).sz = 3 from rfl, Nat.mul_one, Nat.add_zero] at hx15_2); have hf15_2 := hfr15 2; (try simp only [show (k64).sz = 3 from rfl, Nat.mul_one, Nat.add_zero] at hf15_2); clear hcl15 hcc15 hfr15 hM15) | ((with_reducible refine gate_store (t := 3) (p := 33) rfl ?_); refine store_event (t := 3) (p := 33) (v := ?vo_w16) (w1 := (w14.setCell ⟨go6, (x5_1 : Int).toNat * 3 + 2, none⟩ (.int .i64 (wrap64 ((wrap64 (x1_1 + 1)) + 1))))) ?hg ?ho ?hn ?hr ?_; (case ho => rfl); (case hg => rfl); (case hn => rfl); (case hr => first | (go_simp; done) | (go_simp; rfl)); intro w16 hw; have hg : w14.grownBy w16 (some go6) := (by rw [hw]; exact HP15.2); have hp_ : Kd.R k64 64 w16 w0.heap.size (fun k_ => (P0_ k_ ∨ w.heap.size ≤ k_)) (.slice (some ⟨go6, 0, none⟩) x0_1.length co9) y505 := (by rw [hw, Ny505.out]; exact HP15.1); clear HP15; have n0_ := aM (hp_); have n1_ := aM ((by rw [hw]; exact below_set (HB.out) GB6.out : Below w0.heap.size w0 w16)); have n2_ := aM (Kept.of_grown (S := (fun k_ => P0_ k_)) hg (by repeat (first | (with_reducible first | exact HK.out | apply Kept.alloc | apply Kept.drewN | apply Kept.drew) | exact HK.out)) (fun k_ e_ => (HO_0.out.1 k_ e_))); clear HO_0; clear HB; clear HK; have HO_0 := n0_; have HB := n1_; have HK := n2_; clear n0_ n1_ n2_; clear hg hw hp_))
     go_roundg k1
     case measure => have := HK1.out; omega
     case rel => exact ⟨(y505), (wrap64 ((wrap64 ((wrap64 (x1_1 + 1)) + 1)) + 1)), (wrap64 (x5_1 + 1)), (by first | rfl | (simp; done) | (simp [*]; done)), (by first | rfl | (simp; done) | (simp [*]; done)), H', ⟨by have := HK1.out; omega⟩, ⟨by (with_reducible repeat (first | apply Kd.R_alloc | apply Kd.R_drewN | apply Kd.R_drew)); exact HO_0.out⟩, ⟨by repeat (first | (with_reducible first | exact HK.out | apply Kept.alloc | apply Kept.drewN | apply Kept.drew) | exact HK.out)⟩, ⟨by repeat (first | (with_reducible first | exact HB.out | apply below_alloc | apply pw_below_drewN | apply below_drew1) | exact HB.out)⟩⟩
    ·
     rw [if_neg c5] at H
     exact absurd H (by simp)
   ·
    rw [if_neg c3] at H
    have c3b0 : decide (x5_1 < (x0_1.length : Int)) = false := decide_eq_false c3
    clear c3
    simp only [Option.some.injEq, Prod.mk.injEq] at H
    obtain ⟨rfl, rfl⟩ := H
    obtain ⟨Ao17, co17, eo17⟩ := Kd.R_slice HO_0.out
    subst eo17
    go_wp2
    go_ret
    exact ⟨by first | rfl | (simp [errW_none, errW_some] <;> rfl) | (simp [*, errW_none, errW_some] <;> rfl), by (with_reducible repeat (first | apply Kd.R_alloc | apply Kd.R_drewN | apply Kd.R_drew)); exact HO_0.out, by repeat (first | (with_reducible first | exact HB.out | apply below_alloc | apply pw_below_drewN | apply below_drew1) | exact HB.out), by repeat (first | (with_reducible first | exact HK.out | apply Kept.alloc | apply Kept.drewN | apply Kept.drew) | exact HK.out)⟩

def laws_markRadix.f (k : Nat) (l0_0 : List (S64)) (a1 : Int) : Option (Int × (List (S64))) := (laws_markEdgeS.f k l0_0 a1).bind fun bt507 => (some (bt507.1, bt507.2))
set_option maxHeartbeats 8000000 in
set_option maxRecDepth 100000 in
theorem laws_markRadix.calls (k : Nat) (P0_0_ : Nat → Prop) (u9000_ : Value) (l0_0 : List (S64)) (a1 : Int) (r1 : Int) (r2 : List (S64)) (w0 w : World) (hB : Below w0.heap.size w0 w) (ho0_0 : Kd.R k64 64 w w0.heap.size P0_0_ u9000_ l0_0) (h : laws_markRadix.f k l0_0 a1 = some (r1, r2)) :
  Calls Try.prog 18 #[.agg #[u9000_], .int .i64 a1] w fun e w' => e = .returned (.int .i64 r1) ∧ Kd.R k64 64 w' w0.heap.size (fun k_ => (P0_0_ k_ ∨ w.heap.size ≤ k_)) u9000_ r2 ∧ Below w0.heap.size w0 w' ∧ Kept w w' (fun k_ => P0_0_ k_) := by
 have hu26 := Try.underlying26
 have HO0_0 := aM (show Kd.R k64 64 w w0.heap.size (fun k_ => (P0_0_ k_ ∨ w.heap.size ≤ k_)) u9000_ l0_0 from Kd.R_mono ho0_0 (fun k_ hk => (.inl hk)))
 have HK := aM (Kept.refl w (fun k_ => P0_0_ k_))
 have HW0 := aM hB.size
 have HB := aM hB
 clear hB
 have H : ((laws_markEdgeS.f k l0_0 a1).bind fun bt507 => (some (bt507.1, bt507.2))) = some (r1, r2) := h
 clear h
 replace H := Option.bind_eq_some_iff.mp H
 obtain ⟨⟨t507, t508⟩, A30, H⟩ := H
 replace H : (some (t507, t508)) = some (r1, r2) := H
 have A3 := aM A30
 clear A30
 simp only [Option.some.injEq, Prod.mk.injEq] at H
 obtain ⟨rfl, rfl⟩ := H
 obtain ⟨Ao4, co4, eo4⟩ := Kd.R_slice HO0_0.out
 subst eo4
 go_enter Try.func18, Try.ntmps18
 go_wp2_with (first | ((with_reducible refine gate_dst (N := 2) rfl ?_); refine box_event ?hg (N := 2) ?hd (cs := #[.slice Ao4 l0_0.length co4]) (t := 26) ?hr ?_; (case hd => rfl); (case hg => rfl); (case hr => first | (go_simp; done) | (go_simp; rfl)); intro gb506 hg w5 hbox hb; have n0_ := aM (Kd.R_below (by (with_reducible repeat (first | apply Kd.R_alloc | apply Kd.R_drewN | apply Kd.R_drew)); exact HO0_0.out) hb); have n1_ := aM (Kept.below (S := (fun k_ => P0_0_ k_)) (by repeat (first | (with_reducible first | exact HK.out | apply Kept.alloc | apply Kept.drewN | apply Kept.drew) | exact HK.out)) hb); have n2_ := aM (below_step (by repeat (first | (with_reducible first | exact HB.out | apply below_alloc | apply pw_below_drewN | apply below_drew1) | exact HB.out)) hb); have n3_ := aM (hbox); have n4_ := aM ((by rw [hg]; exact (by first | exact HK.out.1 | exact (show Kept w _ (fun k_ => P0_0_ k_) from by repeat (first | (with_reducible first | exact HK.out | apply Kept.alloc | apply Kept.drewN | apply Kept.drew) | exact HK.out)).1) : w.heap.size ≤ gb506)); have n5_ := aM ((by rw [hg]; exact (below_size (by repeat (first | (with_reducible first | exact HB.out | apply below_alloc | apply pw_below_drewN | apply below_drew1) | exact HB.out))) : w0.heap.size ≤ gb506)); clear HO0_0; clear HK; clear HB; have HO0_0 := n0_; have HK := n1_; have HB := n2_; have BK506 := n3_; have GW506 := n4_; have GE506 := n5_; clear n0_ n1_ n2_ n3_ n4_ n5_; clear hb hbox hg; have hcz6_0 : w5.cell? ⟨gb506, 0, none⟩ = some (.slice Ao4 l0_0.length co4) := (blk_cell BK506.out 0).trans rfl; have hfz6_0 := blk_frozen BK506.out 0) | ((with_reducible refine gate_callee (f := 49) rfl ?_); refine goesL_ (some 8) rfl rfl Try.func49 (by kernel_rfl) rfl #[.slice Ao4 l0_0.length co4, .int .i64 a1] rfl (by (try simp only [List.map_toArray, List.map_cons, List.map_nil]); first | done | rfl | (simp only [List.length_drop, List.length_take]; rfl)) ?_; (with_reducible refine (laws_markEdgeS.calls k (fun k_ => some k_ = (.slice Ao4 l0_0.length co4 : Value).ownBlock) (.slice Ao4 l0_0.length co4) l0_0 a1 t507 t508 w0 _ ?side1 ?side2 A3.out).mono ?_); (case side1 => repeat (first | (with_reducible first | exact HB.out | apply below_alloc | apply pw_below_drewN | apply below_drew1 | refine below_set ?_ GE506.out) | exact HB.out)); (case side2 => exact Kd.R_tight rfl HO0_0.out); rintro e w7 ⟨rfl, hy0, hb, hkp⟩; refine ⟨_, rfl, ?_⟩; have n0_ := aM (Kd.R_reok rfl hy0 (fun k_ e_ => HO0_0.out.1 k_ e_)); have n1_ := aM (blk_kept (by (with_reducible repeat (first | refine blk_drewN ?_ _ | refine blk_drew ?_ | refine blk_alloc ?_ _)); exact BK506.out) hkp (fun hs_ => (fun e_ => (Kd.R_ne HO0_0.out BK506.out (by decide)) e_) hs_)); have n2_ := aM (Kept.then_ (S := (fun k_ => P0_0_ k_)) (by repeat (first | (with_reducible first | exact HK.out | apply Kept.alloc | apply Kept.drewN | apply Kept.drew | refine Kept.setCell ?_ (.inr GW506.out) _) | exact HK.out)) hkp (fun k_ hs_ => (fun e_ => (HO0_0.out.1 k_ e_.symm)) hs_)); have n3_ := aM (hb); clear HO0_0; clear BK506; clear HK; clear HB; have HO0_0 := n0_; have BK506 := n1_; have HK := n2_; have HB := n3_; clear n0_ n1_ n2_ n3_; (try clear hb); (try clear hkp); (try clear hy0)))
 go_ret
 exact ⟨by first | rfl | (simp [errW_none, errW_some] <;> rfl) | (simp [*, errW_none, errW_some] <;> rfl), by (with_reducible repeat (first | apply Kd.R_alloc | apply Kd.R_drewN | apply Kd.R_drew)); exact HO0_0.out, by repeat (first | (with_reducible first | exact HB.out | apply below_alloc | apply pw_below_drewN | apply below_drew1 | refine below_set ?_ GE506.out) | exact HB.out), by repeat (first | (with_reducible first | exact HK.out | apply Kept.alloc | apply Kept.drewN | apply Kept.drew | refine Kept.setCell ?_ (.inr GW506.out) _) | exact HK.out)⟩

end Go.Proofs.Ytcngebfcpobnnaa.PQ
end
