/- Several texts in one: what the claim's last text rests on. No conditions. -/
import Derived.Test.YtcngebfcpobnnaaMRh7
import Derived.Test.YtcngebfcpobnnaaMRh8
import Derived.Test.YtcngebfcpobnnaaMRh5
section
namespace Go.Proofs.Ytcngebfcpobnnaa.PQ
open Go.RowKit Go.Proofs.YtcngebfcpobnnaaW.PrintWords Go.Proofs.YtcngebfcpobnnaaW.PrintLast Go.Proofs.YtcngebfcpobnnaaW.PrintMore
attribute [local go_sem] max2_int min2_int max_two min_two max_three min_three max_four min_four
set_option linter.unusedVariables false
set_option linter.unusedSimpArgs false
def laws_heldEdgeS.l0 : Nat → List (S64) → Int → Int → Option (Int)
 | 0, _, _, _ => none
 | k + 1, x0, x1, x5 => if x5 < (x0.length : Int) then (if 0 ≤ x5 then ((laws_markText.f k x1).bind fun t510 => (if ((rd_T64 x0 x5).f0).toList = t510.toList then (if (((rd_T64 x0 x5).f1) != ((Int.tmod (wrap64 (x1 + 1)) 3) == 0)) = true then (some (-1)) else (if ((rd_T64 x0 x5).f2) = (wrap64 ((wrap64 (x1 + 1)) + 1)) then (laws_heldEdgeS.l0 k x0 (wrap64 ((wrap64 ((wrap64 (x1 + 1)) + 1)) + 1)) (wrap64 (x5 + 1))) else (some (-1)))) else (some (-1)))) else (none)) else (some x1)
def laws_heldEdgeS.f (k : Nat) (l0 : List (S64)) (a1 : Int) : Option (Int) := laws_heldEdgeS.l0 k l0 a1 0
def laws_heldEdgeS.T4 : Bool × List (List Nat × List Nat) := (true, [([], []), ([], []), ([0, 1], [0, 1]), ([2], [2]), ([3], [3]), ([], []), ([5], [5]), ([4, 6], [4, 6])])
def laws_heldEdgeS.B4 : List Nat := [0, 0, 3, 7, 15, 0, 32, 127]
theorem laws_heldEdgeS.tab4 : rtab .any (opsOf Try.f50 4) = laws_heldEdgeS.T4 := by kernel_rfl
theorem laws_heldEdgeS.bits4 : waitsOk laws_heldEdgeS.T4.2 laws_heldEdgeS.B4 = true := by kernel_rfl
set_option maxHeartbeats 8000000 in
set_option maxRecDepth 100000 in
theorem laws_heldEdgeS.calls (k : Nat) (A0 : Option Addr) (c0 : Nat) (l0 : List (S64)) (a1 : Int) (r : Int) (w : World) (hr0 : Kd.C k64 w A0 l0.length l0) (hc0 : l0.length ≤ c0) (h : laws_heldEdgeS.f k l0 a1 = some r) :
  Calls Try.prog 50 #[.slice A0 l0.length c0, .int .i64 a1] w fun e w' => e = .returned (.int .i64 r) ∧ Below w.heap.size w w' := by
 have HR0 := aM hr0
 have HC0 := aM hc0
 clear hr0 hc0
 have HB := aM (Below.refl w.heap.size w)
 have H : (laws_heldEdgeS.l0 k l0 a1 0) = some r := h
 clear h
 have H' := aM H
 clear H
 go_enter Try.func50, Try.ntmps50
 go_wp2
 go_loopg [1, 5] k (fun kq v1 v5 w' => ∃ (x1_1 : Int) (x5_1 : Int), v1 = .int .i64 x1_1 ∧ v5 = .int .i64 x5_1 ∧ Aside0 (laws_heldEdgeS.l0 kq l0 x1_1 x5_1 = some r) ∧ Aside0 (kq ≤ k) ∧ Aside0 (Below w.heap.size w w'))
 case atStart => exact ⟨(a1), (0), (by first | rfl | (simp; done) | (simp [*]; done)), (by first | rfl | (simp; done) | (simp [*]; done)), H', ⟨Nat.le_refl _⟩, ⟨by repeat (first | (with_reducible first | exact HB.out | apply below_alloc | apply pw_below_drewN | apply below_drew1) | exact HB.out)⟩⟩
 case round =>
  clear H'
  try clear p2
  obtain ⟨x1_1, x5_1, rfl, rfl, HA, HK1, HB⟩ := hrel
  cases gk with
  | zero => exact absurd HA.out (by simp [laws_heldEdgeS.l0])
  | succ k1 =>
   have H := HA.out
   clear HA
   simp only [laws_heldEdgeS.l0] at H
   by_cases c3 : x5_1 < (l0.length : Int)
   ·
    rw [if_pos c3] at H
    have c3b0 : decide (x5_1 < (l0.length : Int)) = true := decide_eq_true c3
    clear c3
    by_cases c4 : 0 ≤ x5_1
    ·
     rw [if_pos c4] at H
     have c4b0 : decide (0 ≤ x5_1) = true := decide_eq_true c4
     clear c4
     replace H := Option.bind_eq_some_iff.mp H
     obtain ⟨t510, A50, H⟩ := H
     replace H : (if ((rd_T64 l0 x5_1).f0).toList = t510.toList then (if (((rd_T64 l0 x5_1).f1) != ((Int.tmod (wrap64 (x1_1 + 1)) 3) == 0)) = true then (some (-1)) else (if ((rd_T64 l0 x5_1).f2) = (wrap64 ((wrap64 (x1_1 + 1)) + 1)) then (laws_heldEdgeS.l0 k1 l0 (wrap64 ((wrap64 ((wrap64 (x1_1 + 1)) + 1)) + 1)) (wrap64 (x5_1 + 1))) else (some (-1)))) else (some (-1))) = some r := H
     have A5 := aM A50
     clear A50
     by_cases c6 : ((rd_T64 l0 x5_1).f0).toList = t510.toList
     ·
      rw [if_pos c6] at H
      have c6b0 : (((rd_T64 l0 x5_1).f0).toList == t510.toList) = true := beq_iff_eq.mpr c6
      have c6b1 : (((rd_T64 l0 x5_1).f0).toList != t510.toList) = false := bne_eq_false_iff_eq.mpr c6
      clear c6
      by_cases c7 : (((rd_T64 l0 x5_1).f1) != ((Int.tmod (wrap64 (x1_1 + 1)) 3) == 0)) = true
      ·
       rw [if_pos c7] at H
       have c7b0 : (((rd_T64 l0 x5_1).f1) != ((Int.tmod (wrap64 (x1_1 + 1)) 3) == 0)) = true := c7
       (try (have c7b1 : decide (((rd_T64 l0 x5_1).f1) = ((Int.tmod (wrap64 (x1_1 + 1)) 3) == 0)) = false := by simpa using c7))
       (try (have c7b2 : (((rd_T64 l0 x5_1).f1) == ((Int.tmod (wrap64 (x1_1 + 1)) 3) == 0)) = false := by simpa using c7))
       (try (have c7b3 : ¬ (((rd_T64 l0 x5_1).f1) = ((Int.tmod (wrap64 (x1_1 + 1)) 3) == 0)) := by simpa using c7))
       clear c7
       obtain rfl := Option.some.inj H
       try go_wp2
       have n0_ := aM (below_drew1 HB.out)
       clear HB
       have HB := n0_
       clear n0_
       have p509 : 0 ≤ (x5_1 : Int) := of_decide_eq_true (by first | (with_reducible assumption) | assumption)
       have q509 : x5_1 < (l0.length : Int) := of_decide_eq_true (by first | (with_reducible assumption) | assumption)
       obtain ⟨ad509, e509, hx509_0, hx509_1, hx509_2⟩ := at_T64 HR0.out x5_1 p509 q509
       have hw509_2 := hx509_2
       have hw509_1 := hx509_1
       have hw509_0 := hx509_0
       cases e509
       try have hz_hx509_0 := aM hx509_0
       try have hz_hx509_1 := aM hx509_1
       try have hz_hx509_2 := aM hx509_2
       replace hx509_0 := (HB.out.cell (World.block_lt_of_cell? w _ hx509_0)).trans hx509_0
       replace hx509_1 := (HB.out.cell (World.block_lt_of_cell? w _ hx509_1)).trans hx509_1
       replace hx509_2 := (HB.out.cell (World.block_lt_of_cell? w _ hx509_2)).trans hx509_2
       replace p509 := eq_true p509
       replace q509 := eq_true q509
       refine start_ (n := 8) (S := fun w' => w'.cell? (ad509.add ((x5_1).toNat * 3)) = some (.string ((rd_T64 l0 x5_1).f0)) ∧ w'.cell? ⟨(ad509.add ((x5_1).toNat * 3)).block, (ad509.add ((x5_1).toNat * 3)).off + 1, none⟩ = some (.bool ((rd_T64 l0 x5_1).f1)) ∧ w'.cell? ⟨(ad509.add ((x5_1).toNat * 3)).block, (ad509.add ((x5_1).toNat * 3)).off + 2, none⟩ = some (.int .i64 ((rd_T64 l0 x5_1).f2))) (ds := []) (bq 8 0) (by kernel_rfl) rfl (by kernel_rfl) ⟨((HB.out.cell (World.block_lt_of_cell? w _ hw509_0)).trans hw509_0), ((HB.out.cell (World.block_lt_of_cell? w _ hw509_1)).trans hw509_1), ((HB.out.cell (World.block_lt_of_cell? w _ hw509_2)).trans hw509_2)⟩ (fun hHeld => ?_); refine with_tabW laws_heldEdgeS.tab4 laws_heldEdgeS.bits4 (fun HT_ HW_ => ?_)
       generalize wr.drew = w8 at HB hx509_0 hx509_1 hx509_2 hHeld ⊢
       refine pure_ (i := 0) (N := some 12) (v := ?_) (a' := ?_) (bq 8 1) rfl rfl (any_of HT_.out (by kernel_rfl)) (fun _ _ _ h => h) (Or.inl ⟨by rfl, ?_⟩) ?_ ?_; rotate_left; (intro w'; go_simp; (with_reducible rfl)); rotate_left; (simp only [Act.put, zSA, zSB, zSC, i64_w, i32_w]; rfl)
       refine pure_ (i := 1) (N := some 13) (v := ?_) (a' := ?_) (bq 8 3) rfl rfl (any_of HT_.out (by kernel_rfl)) (fun _ _ _ h => h) (Or.inl ⟨by rfl, ?_⟩) ?_ ?_; rotate_left; (intro w'; go_simp; (with_reducible rfl)); rotate_left; (simp only [Act.put, zSA, zSB, zSC, i64_w, i32_w]; rfl)
       refine pure_ (i := 2) (N := some 14) (v := ?_) (a' := ?_) (bq 8 7) rfl rfl (any_of HT_.out (by kernel_rfl)) (fun _ _ _ h => h) (Or.inl ⟨by rfl, ?_⟩) ?_ ?_; rotate_left; (intro w'; go_simp; (with_reducible rfl)); rotate_left; (simp only [Act.put, zSA, zSB, zSC, i64_w, i32_w]; rfl)
       refine pure_ (i := 3) (N := some 15) (v := ?_) (a' := ?_) (bq 8 15) rfl rfl (any_of HT_.out (by kernel_rfl)) (fun _ _ _ h => h) (Or.inl ⟨by rfl, ?_⟩) ?_ ?_; rotate_left; (intro w'; go_simp; (with_reducible rfl)); rotate_left; (simp only [Act.put, zSA, zSB, zSC, i64_w, i32_w]; rfl)
       refine pure_ (i := 5) (N := some 17) (v := ?_) (a' := ?_) (bq 8 47) rfl rfl (any_of HT_.out (by kernel_rfl)) (fun _ _ _ h => h) (Or.inl ⟨by rfl, ?_⟩) ?_ ?_; rotate_left; (intro w'; go_simp; (with_reducible rfl)); rotate_left; (simp only [Act.put, zSA, zSB, zSC, i64_w, i32_w]; rfl)
       refine take_ (i := 4) (N := some 16) (v := ?_) (a' := ?_) (bq 8 63) rfl rfl (take_ofW HT_.out HW_.out (by kernel_rfl)) (fun _ _ _ h => h) (Or.inl ⟨by rfl, ?_⟩) hHeld ?_ ?_; rotate_left; (rintro w' ⟨s0, s1, s2⟩; go_simp; (with_reducible rfl)); rotate_left; (simp only [Act.put, zSA, zSB, zSC, i64_w, i32_w]; rfl)
       refine one_ (i := 6) (N := some 18) (bq 8 127) rfl rfl (one_of HT_.out (by kernel_rfl)) (by decide) (fun K hK => ?_)
       refine goes_ Try.func48 (by kernel_rfl) rfl #[.int .i64 x1_1] (by rfl) rfl rfl (by (try simp only [List.map_toArray, List.map_cons, List.map_nil]); first | done | rfl | (simp only [List.length_drop, List.length_take]; rfl)) ?_
       with_reducible refine (laws_markText.calls k1 x1_1 t510 _ A5.out).mono ?_
       rintro e w9 ⟨rfl, hb⟩
       refine ⟨_, rfl, ?_⟩
       have n0_ := aM (below_step (by repeat (first | (with_reducible first | exact HB.out | apply below_alloc | apply pw_below_drewN | apply below_drew1) | exact HB.out)) hb)
       clear HB
       have HB := n0_
       clear n0_
       (try clear hb)
       (try clear hb2)
       (try clear hk)
       (try clear hi)
       refine hK.out _ _ ⟨((HB.out.cell (World.block_lt_of_cell? w _ hw509_0)).trans hw509_0), ((HB.out.cell (World.block_lt_of_cell? w _ hw509_1)).trans hw509_1), ((HB.out.cell (World.block_lt_of_cell? w _ hw509_2)).trans hw509_2)⟩ (fun hHeld => ?_)
       clear hK K
       refine norm_ (a' := ?_) ?_ ?_
       rotate_left
       ·
        show Act.put _ (some 18) _ = _
        simp only [Act.put, zSA, zSB, zSC, i64_w, i32_w]
        rfl
       refine pure_ (i := 7) (N := some 19) (v := ?_) (a' := ?_) (bq 8 255) rfl rfl (any_of HT_.out (by kernel_rfl)) (fun _ _ _ h => h) (Or.inl ⟨by rfl, ?_⟩) ?_ ?_; rotate_left; (intro w'; go_simp; (with_reducible rfl)); rotate_left; (simp only [Act.put, zSA, zSB, zSC, i64_w, i32_w]; rfl)
       refine done_ (done_of HT_.out (by kernel_rfl)) ?_
       have p511 : 0 ≤ (x5_1 : Int) := of_decide_eq_true (by first | (with_reducible assumption) | assumption)
       have q511 : x5_1 < (l0.length : Int) := of_decide_eq_true (by first | (with_reducible assumption) | assumption)
       obtain ⟨ad511, e511, hx511_0, hx511_1, hx511_2⟩ := at_T64 HR0.out x5_1 p511 q511
       obtain rfl : ad509 = ad511 := (by injection e511)
       try have hz_hx511_0 := aM hx511_0
       try have hz_hx511_1 := aM hx511_1
       try have hz_hx511_2 := aM hx511_2
       try (have q_ := hx511_0.symm.trans hz_hx509_0.out; injection q_ with q_; injection q_ with q1_ q2_ q3_; subst q1_; subst q3_)
       try (have q_ := hx511_1.symm.trans hz_hx509_1.out; injection q_ with q_; injection q_ with q1_ q2_ q3_; subst q1_; subst q3_)
       try (have q_ := hx511_2.symm.trans hz_hx509_2.out; injection q_ with q_; injection q_ with q1_ q2_ q3_; subst q1_; subst q3_)
       replace hx511_0 := (HB.out.cell (World.block_lt_of_cell? w _ hx511_0)).trans hx511_0
       replace hx511_1 := (HB.out.cell (World.block_lt_of_cell? w _ hx511_1)).trans hx511_1
       replace hx511_2 := (HB.out.cell (World.block_lt_of_cell? w _ hx511_2)).trans hx511_2
       replace p511 := eq_true p511
       replace q511 := eq_true q511
       try go_wp2
       go_ret
       exact ⟨by first | rfl | (simp [errW_none, errW_some] <;> rfl) | (simp [*, errW_none, errW_some] <;> rfl), by repeat (first | (with_reducible first | exact HB.out | apply below_alloc | apply pw_below_drewN | apply below_drew1) | exact HB.out)⟩
      ·
       rw [if_neg c7] at H
       have c7b0 : (((rd_T64 l0 x5_1).f1) != ((Int.tmod (wrap64 (x1_1 + 1)) 3) == 0)) = false := by simpa using c7
       (try (have c7b1 : decide (((rd_T64 l0 x5_1).f1) = ((Int.tmod (wrap64 (x1_1 + 1)) 3) == 0)) = true := by simpa using c7))
       (try (have c7b2 : (((rd_T64 l0 x5_1).f1) == ((Int.tmod (wrap64 (x1_1 + 1)) 3) == 0)) = true := by simpa using c7))
       clear c7
       by_cases c10 : ((rd_T64 l0 x5_1).f2) = (wrap64 ((wrap64 (x1_1 + 1)) + 1))
       ·
        rw [if_pos c10] at H
        have c10b0 : (((rd_T64 l0 x5_1).f2) == (wrap64 ((wrap64 (x1_1 + 1)) + 1))) = true := beq_iff_eq.mpr c10
        have c10b1 : (((rd_T64 l0 x5_1).f2) != (wrap64 ((wrap64 (x1_1 + 1)) + 1))) = false := bne_eq_false_iff_eq.mpr c10
        clear c10
        have H' := aM H
        clear H
        try go_wp2
        have n0_ := aM (below_drew1 HB.out)
        clear HB
        have HB := n0_
        clear n0_
        have p509 : 0 ≤ (x5_1 : Int) := of_decide_eq_true (by first | (with_reducible assumption) | assumption)
        have q509 : x5_1 < (l0.length : Int) := of_decide_eq_true (by first | (with_reducible assumption) | assumption)
        obtain ⟨ad509, e509, hx509_0, hx509_1, hx509_2⟩ := at_T64 HR0.out x5_1 p509 q509
        have hw509_2 := hx509_2
        have hw509_1 := hx509_1
        have hw509_0 := hx509_0
        cases e509
        try have hz_hx509_0 := aM hx509_0
        try have hz_hx509_1 := aM hx509_1
        try have hz_hx509_2 := aM hx509_2
        replace hx509_0 := (HB.out.cell (World.block_lt_of_cell? w _ hx509_0)).trans hx509_0
        replace hx509_1 := (HB.out.cell (World.block_lt_of_cell? w _ hx509_1)).trans hx509_1
        replace hx509_2 := (HB.out.cell (World.block_lt_of_cell? w _ hx509_2)).trans hx509_2
        replace p509 := eq_true p509
        replace q509 := eq_true q509
        refine start_ (n := 8) (S := fun w' => w'.cell? (ad509.add ((x5_1).toNat * 3)) = some (.string ((rd_T64 l0 x5_1).f0)) ∧ w'.cell? ⟨(ad509.add ((x5_1).toNat * 3)).block, (ad509.add ((x5_1).toNat * 3)).off + 1, none⟩ = some (.bool ((rd_T64 l0 x5_1).f1)) ∧ w'.cell? ⟨(ad509.add ((x5_1).toNat * 3)).block, (ad509.add ((x5_1).toNat * 3)).off + 2, none⟩ = some (.int .i64 ((rd_T64 l0 x5_1).f2))) (ds := []) (bq 8 0) (by kernel_rfl) rfl (by kernel_rfl) ⟨((HB.out.cell (World.block_lt_of_cell? w _ hw509_0)).trans hw509_0), ((HB.out.cell (World.block_lt_of_cell? w _ hw509_1)).trans hw509_1), ((HB.out.cell (World.block_lt_of_cell? w _ hw509_2)).trans hw509_2)⟩ (fun hHeld => ?_); refine with_tabW laws_heldEdgeS.tab4 laws_heldEdgeS.bits4 (fun HT_ HW_ => ?_)
        generalize wr.drew = w11 at HB hx509_0 hx509_1 hx509_2 hHeld ⊢
        refine pure_ (i := 0) (N := some 12) (v := ?_) (a' := ?_) (bq 8 1) rfl rfl (any_of HT_.out (by kernel_rfl)) (fun _ _ _ h => h) (Or.inl ⟨by rfl, ?_⟩) ?_ ?_; rotate_left; (intro w'; go_simp; (with_reducible rfl)); rotate_left; (simp only [Act.put, zSA, zSB, zSC, i64_w, i32_w]; rfl)
        refine pure_ (i := 1) (N := some 13) (v := ?_) (a' := ?_) (bq 8 3) rfl rfl (any_of HT_.out (by kernel_rfl)) (fun _ _ _ h => h) (Or.inl ⟨by rfl, ?_⟩) ?_ ?_; rotate_left; (intro w'; go_simp; (with_reducible rfl)); rotate_left; (simp only [Act.put, zSA, zSB, zSC, i64_w, i32_w]; rfl)
        refine pure_ (i := 2) (N := some 14) (v := ?_) (a' := ?_) (bq 8 7) rfl rfl (any_of HT_.out (by kernel_rfl)) (fun _ _ _ h => h) (Or.inl ⟨by rfl, ?_⟩) ?_ ?_; rotate_left; (intro w'; go_simp; (with_reducible rfl)); rotate_left; (simp only [Act.put, zSA, zSB, zSC, i64_w, i32_w]; rfl)
        refine pure_ (i := 3) (N := some 15) (v := ?_) (a' := ?_) (bq 8 15) rfl rfl (any_of HT_.out (by kernel_rfl)) (fun _ _ _ h => h) (Or.inl ⟨by rfl, ?_⟩) ?_ ?_; rotate_left; (intro w'; go_simp; (with_reducible rfl)); rotate_left; (simp only [Act.put, zSA, zSB, zSC, i64_w, i32_w]; rfl)
        refine pure_ (i := 5) (N := some 17) (v := ?_) (a' := ?_) (bq 8 47) rfl rfl (any_of HT_.out (by kernel_rfl)) (fun _ _ _ h => h) (Or.inl ⟨by rfl, ?_⟩) ?_ ?_; rotate_left; (intro w'; go_simp; (with_reducible rfl)); rotate_left; (simp only [Act.put, zSA, zSB, zSC, i64_w, i32_w]; rfl)
        refine take_ (i := 4) (N := some 16) (v := ?_) (a' := ?_) (bq 8 63) rfl rfl (take_ofW HT_.out HW_.out (by kernel_rfl)) (fun _ _ _ h => h) (Or.inl ⟨by rfl, ?_⟩) hHeld ?_ ?_; rotate_left; (rintro w' ⟨s0, s1, s2⟩; go_simp; (with_reducible rfl)); rotate_left; (simp only [Act.put, zSA, zSB, zSC, i64_w, i32_w]; rfl)
        refine one_ (i := 6) (N := some 18) (bq 8 127) rfl rfl (one_of HT_.out (by kernel_rfl)) (by decide) (fun K hK => ?_)
        refine goes_ Try.func48 (by kernel_rfl) rfl #[.int .i64 x1_1] (by rfl) rfl rfl (by (try simp only [List.map_toArray, List.map_cons, List.map_nil]); first | done | rfl | (simp only [List.length_drop, List.length_take]; rfl)) ?_
        with_reducible refine (laws_markText.calls k1 x1_1 t510 _ A5.out).mono ?_
        rintro e w12 ⟨rfl, hb⟩
        refine ⟨_, rfl, ?_⟩
        have n0_ := aM (below_step (by repeat (first | (with_reducible first | exact HB.out | apply below_alloc | apply pw_below_drewN | apply below_drew1) | exact HB.out)) hb)
        clear HB
        have HB := n0_
        clear n0_
        (try clear hb)
        (try clear hb2)
        (try clear hk)
        (try clear hi)
        refine hK.out _ _ ⟨((HB.out.cell (World.block_lt_of_cell? w _ hw509_0)).trans hw509_0), ((HB.out.cell (World.block_lt_of_cell? w _ hw509_1)).trans hw509_1), ((HB.out.cell (World.block_lt_of_cell? w _ hw509_2)).trans hw509_2)⟩ (fun hHeld => ?_)
        clear hK K
        refine norm_ (a' := ?_) ?_ ?_
        rotate_left
        ·
         show Act.put _ (some 18) _ = _
         simp only [Act.put, zSA, zSB, zSC, i64_w, i32_w]
         rfl
        refine pure_ (i := 7) (N := some 19) (v := ?_) (a' := ?_) (bq 8 255) rfl rfl (any_of HT_.out (by kernel_rfl)) (fun _ _ _ h => h) (Or.inl ⟨by rfl, ?_⟩) ?_ ?_; rotate_left; (intro w'; go_simp; (with_reducible rfl)); rotate_left; (simp only [Act.put, zSA, zSB, zSC, i64_w, i32_w]; rfl)
        refine done_ (done_of HT_.out (by kernel_rfl)) ?_
        have p511 : 0 ≤ (x5_1 : Int) := of_decide_eq_true (by first | (with_reducible assumption) | assumption)
        have q511 : x5_1 < (l0.length : Int) := of_decide_eq_true (by first | (with_reducible assumption) | assumption)
        obtain ⟨ad511, e511, hx511_0, hx511_1, hx511_2⟩ := at_T64 HR0.out x5_1 p511 q511
        obtain rfl : ad509 = ad511 := (by injection e511)
        try have hz_hx511_0 := aM hx511_0
        try have hz_hx511_1 := aM hx511_1
        try have hz_hx511_2 := aM hx511_2
        try (have q_ := hx511_0.symm.trans hz_hx509_0.out; injection q_ with q_; injection q_ with q1_ q2_ q3_; subst q1_; subst q3_)
        try (have q_ := hx511_1.symm.trans hz_hx509_1.out; injection q_ with q_; injection q_ with q1_ q2_ q3_; subst q1_; subst q3_)
        try (have q_ := hx511_2.symm.trans hz_hx509_2.out; injection q_ with q_; injection q_ with q1_ q2_ q3_; subst q1_; subst q3_)
        replace hx511_0 := (HB.out.cell (World.block_lt_of_cell? w _ hx511_0)).trans hx511_0
        replace hx511_1 := (HB.out.cell (World.block_lt_of_cell? w _ hx511_1)).trans hx511_1
        replace hx511_2 := (HB.out.cell (World.block_lt_of_cell? w _ hx511_2)).trans hx511_2
        replace p511 := eq_true p511
        replace q511 := eq_true q511
        have p512 : 0 ≤ (x5_1 : Int) := of_decide_eq_true (by first | (with_reducible assumption) | assumption)
        have q512 : x5_1 < (l0.length : Int) := of_decide_eq_true (by first | (with_reducible assumption) | assumption)
        obtain ⟨ad512, e512, hx512_0, hx512_1, hx512_2⟩ := at_T64 HR0.out x5_1 p512 q512
        obtain rfl : ad509 = ad512 := (by injection e512)
        try have hz_hx512_0 := aM hx512_0
        try have hz_hx512_1 := aM hx512_1
        try have hz_hx512_2 := aM hx512_2
        try (have q_ := hx512_0.symm.trans hz_hx511_0.out; injection q_ with q_; injection q_ with q1_ q2_ q3_; subst q1_; subst q3_)
        try (have q_ := hx512_1.symm.trans hz_hx511_1.out; injection q_ with q_; injection q_ with q1_ q2_ q3_; subst q1_; subst q3_)
        try (have q_ := hx512_2.symm.trans hz_hx511_2.out; injection q_ with q_; injection q_ with q1_ q2_ q3_; subst q1_; subst q3_)
        replace hx512_0 := (HB.out.cell (World.block_lt_of_cell? w _ hx512_0)).trans hx512_0
        replace hx512_1 := (HB.out.cell (World.block_lt_of_cell? w _ hx512_1)).trans hx512_1
        replace hx512_2 := (HB.out.cell (World.block_lt_of_cell? w _ hx512_2)).trans hx512_2
        replace p512 := eq_true p512
        replace q512 := eq_true q512
        try go_wp2
        go_roundg k1
        case measure => have := HK1.out; omega
        case rel => exact ⟨(wrap64 ((wrap64 ((wrap64 (x1_1 + 1)) + 1)) + 1)), (wrap64 (x5_1 + 1)), (by first | rfl | (simp; done) | (simp [*]; done)), (by first | rfl | (simp; done) | (simp [*]; done)), H', ⟨by have := HK1.out; omega⟩, ⟨by repeat (first | (with_reducible first | exact HB.out | apply below_alloc | apply pw_below_drewN | apply below_drew1) | exact HB.out)⟩⟩
       ·
        rw [if_neg c10] at H
        have c10b0 : (((rd_T64 l0 x5_1).f2) == (wrap64 ((wrap64 (x1_1 + 1)) + 1))) = false := beq_eq_false_iff_ne.mpr c10
        have c10b1 : (((rd_T64 l0 x5_1).f2) != (wrap64 ((wrap64 (x1_1 + 1)) + 1))) = true := bne_iff_ne.mpr c10
        obtain rfl := Option.some.inj H
        try go_wp2
        have n0_ := aM (below_drew1 HB.out)
        clear HB
        have HB := n0_
        clear n0_
        have p509 : 0 ≤ (x5_1 : Int) := of_decide_eq_true (by first | (with_reducible assumption) | assumption)
        have q509 : x5_1 < (l0.length : Int) := of_decide_eq_true (by first | (with_reducible assumption) | assumption)
        obtain ⟨ad509, e509, hx509_0, hx509_1, hx509_2⟩ := at_T64 HR0.out x5_1 p509 q509
        have hw509_2 := hx509_2
        have hw509_1 := hx509_1
        have hw509_0 := hx509_0
        cases e509
        try have hz_hx509_0 := aM hx509_0
        try have hz_hx509_1 := aM hx509_1
        try have hz_hx509_2 := aM hx509_2
        replace hx509_0 := (HB.out.cell (World.block_lt_of_cell? w _ hx509_0)).trans hx509_0
        replace hx509_1 := (HB.out.cell (World.block_lt_of_cell? w _ hx509_1)).trans hx509_1
        replace hx509_2 := (HB.out.cell (World.block_lt_of_cell? w _ hx509_2)).trans hx509_2
        replace p509 := eq_true p509
        replace q509 := eq_true q509
        refine start_ (n := 8) (S := fun w' => w'.cell? (ad509.add ((x5_1).toNat * 3)) = some (.string ((rd_T64 l0 x5_1).f0)) ∧ w'.cell? ⟨(ad509.add ((x5_1).toNat * 3)).block, (ad509.add ((x5_1).toNat * 3)).off + 1, none⟩ = some (.bool ((rd_T64 l0 x5_1).f1)) ∧ w'.cell? ⟨(ad509.add ((x5_1).toNat * 3)).block, (ad509.add ((x5_1).toNat * 3)).off + 2, none⟩ = some (.int .i64 ((rd_T64 l0 x5_1).f2))) (ds := []) (bq 8 0) (by kernel_rfl) rfl (by kernel_rfl) ⟨((HB.out.cell (World.block_lt_of_cell? w _ hw509_0)).trans hw509_0), ((HB.out.cell (World.block_lt_of_cell? w _ hw509_1)).trans hw509_1), ((HB.out.cell (World.block_lt_of_cell? w _ hw509_2)).trans hw509_2)⟩ (fun hHeld => ?_); refine with_tabW laws_heldEdgeS.tab4 laws_heldEdgeS.bits4 (fun HT_ HW_ => ?_)
        generalize wr.drew = w13 at HB hx509_0 hx509_1 hx509_2 hHeld ⊢
        refine pure_ (i := 0) (N := some 12) (v := ?_) (a' := ?_) (bq 8 1) rfl rfl (any_of HT_.out (by kernel_rfl)) (fun _ _ _ h => h) (Or.inl ⟨by rfl, ?_⟩) ?_ ?_; rotate_left; (intro w'; go_simp; (with_reducible rfl)); rotate_left; (simp only [Act.put, zSA, zSB, zSC, i64_w, i32_w]; rfl)
        refine pure_ (i := 1) (N := some 13) (v := ?_) (a' := ?_) (bq 8 3) rfl rfl (any_of HT_.out (by kernel_rfl)) (fun _ _ _ h => h) (Or.inl ⟨by rfl, ?_⟩) ?_ ?_; rotate_left; (intro w'; go_simp; (with_reducible rfl)); rotate_left; (simp only [Act.put, zSA, zSB, zSC, i64_w, i32_w]; rfl)
        refine pure_ (i := 2) (N := some 14) (v := ?_) (a' := ?_) (bq 8 7) rfl rfl (any_of HT_.out (by kernel_rfl)) (fun _ _ _ h => h) (Or.inl ⟨by rfl, ?_⟩) ?_ ?_; rotate_left; (intro w'; go_simp; (with_reducible rfl)); rotate_left; (simp only [Act.put, zSA, zSB, zSC, i64_w, i32_w]; rfl)
        refine pure_ (i := 3) (N := some 15) (v := ?_) (a' := ?_) (bq 8 15) rfl rfl (any_of HT_.out (by kernel_rfl)) (fun _ _ _ h => h) (Or.inl ⟨by rfl, ?_⟩) ?_ ?_; rotate_left; (intro w'; go_simp; (with_reducible rfl)); rotate_left; (simp only [Act.put, zSA, zSB, zSC, i64_w, i32_w]; rfl)
        refine pure_ (i := 5) (N := some 17) (v := ?_) (a' := ?_) (bq 8 47) rfl rfl (any_of HT_.out (by kernel_rfl)) (fun _ _ _ h => h) (Or.inl ⟨by rfl, ?_⟩) ?_ ?_; rotate_left; (intro w'; go_simp; (with_reducible rfl)); rotate_left; (simp only [Act.put, zSA, zSB, zSC, i64_w, i32_w]; rfl)
        refine take_ (i := 4) (N := some 16) (v := ?_) (a' := ?_) (bq 8 63) rfl rfl (take_ofW HT_.out HW_.out (by kernel_rfl)) (fun _ _ _ h => h) (Or.inl ⟨by rfl, ?_⟩) hHeld ?_ ?_; rotate_left; (rintro w' ⟨s0, s1, s2⟩; go_simp; (with_reducible rfl)); rotate_left; (simp only [Act.put, zSA, zSB, zSC, i64_w, i32_w]; rfl)
        refine one_ (i := 6) (N := some 18) (bq 8 127) rfl rfl (one_of HT_.out (by kernel_rfl)) (by decide) (fun K hK => ?_)
        refine goes_ Try.func48 (by kernel_rfl) rfl #[.int .i64 x1_1] (by rfl) rfl rfl (by (try simp only [List.map_toArray, List.map_cons, List.map_nil]); first | done | rfl | (simp only [List.length_drop, List.length_take]; rfl)) ?_
        with_reducible refine (laws_markText.calls k1 x1_1 t510 _ A5.out).mono ?_
        rintro e w14 ⟨rfl, hb⟩
        refine ⟨_, rfl, ?_⟩
        have n0_ := aM (below_step (by repeat (first | (with_reducible first | exact HB.out | apply below_alloc | apply pw_below_drewN | apply below_drew1) | exact HB.out)) hb)
        clear HB
        have HB := n0_
        clear n0_
        (try clear hb)
        (try clear hb2)
        (try clear hk)
        (try clear hi)
        refine hK.out _ _ ⟨((HB.out.cell (World.block_lt_of_cell? w _ hw509_0)).trans hw509_0), ((HB.out.cell (World.block_lt_of_cell? w _ hw509_1)).trans hw509_1), ((HB.out.cell (World.block_lt_of_cell? w _ hw509_2)).trans hw509_2)⟩ (fun hHeld => ?_)
        clear hK K
        refine norm_ (a' := ?_) ?_ ?_
        rotate_left
        ·
         show Act.put _ (some 18) _ = _
         simp only [Act.put, zSA, zSB, zSC, i64_w, i32_w]
         rfl
        refine pure_ (i := 7) (N := some 19) (v := ?_) (a' := ?_) (bq 8 255) rfl rfl (any_of HT_.out (by kernel_rfl)) (fun _ _ _ h => h) (Or.inl ⟨by rfl, ?_⟩) ?_ ?_; rotate_left; (intro w'; go_simp; (with_reducible rfl)); rotate_left; (simp only [Act.put, zSA, zSB, zSC, i64_w, i32_w]; rfl)
        refine done_ (done_of HT_.out (by kernel_rfl)) ?_
        have p511 : 0 ≤ (x5_1 : Int) := of_decide_eq_true (by first | (with_reducible assumption) | assumption)
        have q511 : x5_1 < (l0.length : Int) := of_decide_eq_true (by first | (with_reducible assumption) | assumption)
        obtain ⟨ad511, e511, hx511_0, hx511_1, hx511_2⟩ := at_T64 HR0.out x5_1 p511 q511
        obtain rfl : ad509 = ad511 := (by injection e511)
        try have hz_hx511_0 := aM hx511_0
        try have hz_hx511_1 := aM hx511_1
        try have hz_hx511_2 := aM hx511_2
        try (have q_ := hx511_0.symm.trans hz_hx509_0.out; injection q_ with q_; injection q_ with q1_ q2_ q3_; subst q1_; subst q3_)
        try (have q_ := hx511_1.symm.trans hz_hx509_1.out; injection q_ with q_; injection q_ with q1_ q2_ q3_; subst q1_; subst q3_)
        try (have q_ := hx511_2.symm.trans hz_hx509_2.out; injection q_ with q_; injection q_ with q1_ q2_ q3_; subst q1_; subst q3_)
        replace hx511_0 := (HB.out.cell (World.block_lt_of_cell? w _ hx511_0)).trans hx511_0
        replace hx511_1 := (HB.out.cell (World.block_lt_of_cell? w _ hx511_1)).trans hx511_1
        replace hx511_2 := (HB.out.cell (World.block_lt_of_cell? w _ hx511_2)).trans hx511_2
        replace p511 := eq_true p511
        replace q511 := eq_true q511
        have p512 : 0 ≤ (x5_1 : Int) := of_decide_eq_true (by first | (with_reducible assumption) | assumption)
        have q512 : x5_1 < (l0.length : Int) := of_decide_eq_true (by first | (with_reducible assumption) | assumption)
        obtain ⟨ad512, e512, hx512_0, hx512_1, hx512_2⟩ := at_T64 HR0.out x5_1 p512 q512
        obtain rfl : ad509 = ad512 := (by injection e512)
        try have hz_hx512_0 := aM hx512_0
        try have hz_hx512_1 := aM hx512_1
        try have hz_hx512_2 := aM hx512_2
        try (have q_ := hx512_0.symm.trans hz_hx511_0.out; injection q_ with q_; injection q_ with q1_ q2_ q3_; subst q1_; subst q3_)
        try (have q_ := hx512_1.symm.trans hz_hx511_1.out; injection q_ with q_; injection q_ with q1_ q2_ q3_; subst q1_; subst q3_)
        try (have q_ := hx512_2.symm.trans hz_hx511_2.out; injection q_ with q_; injection q_ with q1_ q2_ q3_; subst q1_; subst q3_)
        replace hx512_0 := (HB.out.cell (World.block_lt_of_cell? w _ hx512_0)).trans hx512_0
        replace hx512_1 := (HB.out.cell (World.block_lt_of_cell? w _ hx512_1)).trans hx512_1
        replace hx512_2 := (HB.out.cell (World.block_lt_of_cell? w _ hx512_2)).trans hx512_2
        replace p512 := eq_true p512
        replace q512 := eq_true q512
        try go_wp2
        go_ret
        exact ⟨by first | rfl | (simp [errW_none, errW_some] <;> rfl) | (simp [*, errW_none, errW_some] <;> rfl), by repeat (first | (with_reducible first | exact HB.out | apply below_alloc | apply pw_below_drewN | apply below_drew1) | exact HB.out)⟩
     ·
      rw [if_neg c6] at H
      have c6b0 : (((rd_T64 l0 x5_1).f0).toList == t510.toList) = false := beq_eq_false_iff_ne.mpr c6
      have c6b1 : (((rd_T64 l0 x5_1).f0).toList != t510.toList) = true := bne_iff_ne.mpr c6
      obtain rfl := Option.some.inj H
      try go_wp2
      have n0_ := aM (below_drew1 HB.out)
      clear HB
      have HB := n0_
      clear n0_
      have p509 : 0 ≤ (x5_1 : Int) := of_decide_eq_true (by first | (with_reducible assumption) | assumption)
      have q509 : x5_1 < (l0.length : Int) := of_decide_eq_true (by first | (with_reducible assumption) | assumption)
      obtain ⟨ad509, e509, hx509_0, hx509_1, hx509_2⟩ := at_T64 HR0.out x5_1 p509 q509
      have hw509_2 := hx509_2
      have hw509_1 := hx509_1
      have hw509_0 := hx509_0
      cases e509
      try have hz_hx509_0 := aM hx509_0
      try have hz_hx509_1 := aM hx509_1
      try have hz_hx509_2 := aM hx509_2
      replace hx509_0 := (HB.out.cell (World.block_lt_of_cell? w _ hx509_0)).trans hx509_0
      replace hx509_1 := (HB.out.cell (World.block_lt_of_cell? w _ hx509_1)).trans hx509_1
      replace hx509_2 := (HB.out.cell (World.block_lt_of_cell? w _ hx509_2)).trans hx509_2
      replace p509 := eq_true p509
      replace q509 := eq_true q509
      refine start_ (n := 8) (S := fun w' => w'.cell? (ad509.add ((x5_1).toNat * 3)) = some (.string ((rd_T64 l0 x5_1).f0)) ∧ w'.cell? ⟨(ad509.add ((x5_1).toNat * 3)).block, (ad509.add ((x5_1).toNat * 3)).off + 1, none⟩ = some (.bool ((rd_T64 l0 x5_1).f1)) ∧ w'.cell? ⟨(ad509.add ((x5_1).toNat * 3)).block, (ad509.add ((x5_1).toNat * 3)).off + 2, none⟩ = some (.int .i64 ((rd_T64 l0 x5_1).f2))) (ds := []) (bq 8 0) (by kernel_rfl) rfl (by kernel_rfl) ⟨((HB.out.cell (World.block_lt_of_cell? w _ hw509_0)).trans hw509_0), ((HB.out.cell (World.block_lt_of_cell? w _ hw509_1)).trans hw509_1), ((HB.out.cell (World.block_lt_of_cell? w _ hw509_2)).trans hw509_2)⟩ (fun hHeld => ?_); refine with_tabW laws_heldEdgeS.tab4 laws_heldEdgeS.bits4 (fun HT_ HW_ => ?_)
      generalize wr.drew = w15 at HB hx509_0 hx509_1 hx509_2 hHeld ⊢
      refine pure_ (i := 0) (N := some 12) (v := ?_) (a' := ?_) (bq 8 1) rfl rfl (any_of HT_.out (by kernel_rfl)) (fun _ _ _ h => h) (Or.inl ⟨by rfl, ?_⟩) ?_ ?_; rotate_left; (intro w'; go_simp; (with_reducible rfl)); rotate_left; (simp only [Act.put, zSA, zSB, zSC, i64_w, i32_w]; rfl)
      refine pure_ (i := 1) (N := some 13) (v := ?_) (a' := ?_) (bq 8 3) rfl rfl (any_of HT_.out (by kernel_rfl)) (fun _ _ _ h => h) (Or.inl ⟨by rfl, ?_⟩) ?_ ?_; rotate_left; (intro w'; go_simp; (with_reducible rfl)); rotate_left; (simp only [Act.put, zSA, zSB, zSC, i64_w, i32_w]; rfl)
      refine pure_ (i := 2) (N := some 14) (v := ?_) (a' := ?_) (bq 8 7) rfl rfl (any_of HT_.out (by kernel_rfl)) (fun _ _ _ h => h) (Or.inl ⟨by rfl, ?_⟩) ?_ ?_; rotate_left; (intro w'; go_simp; (with_reducible rfl)); rotate_left; (simp only [Act.put, zSA, zSB, zSC, i64_w, i32_w]; rfl)
      refine pure_ (i := 3) (N := some 15) (v := ?_) (a' := ?_) (bq 8 15) rfl rfl (any_of HT_.out (by kernel_rfl)) (fun _ _ _ h => h) (Or.inl ⟨by rfl, ?_⟩) ?_ ?_; rotate_left; (intro w'; go_simp; (with_reducible rfl)); rotate_left; (simp only [Act.put, zSA, zSB, zSC, i64_w, i32_w]; rfl)
      refine pure_ (i := 5) (N := some 17) (v := ?_) (a' := ?_) (bq 8 47) rfl rfl (any_of HT_.out (by kernel_rfl)) (fun _ _ _ h => h) (Or.inl ⟨by rfl, ?_⟩) ?_ ?_; rotate_left; (intro w'; go_simp; (with_reducible rfl)); rotate_left; (simp only [Act.put, zSA, zSB, zSC, i64_w, i32_w]; rfl)
      refine take_ (i := 4) (N := some 16) (v := ?_) (a' := ?_) (bq 8 63) rfl rfl (take_ofW HT_.out HW_.out (by kernel_rfl)) (fun _ _ _ h => h) (Or.inl ⟨by rfl, ?_⟩) hHeld ?_ ?_; rotate_left; (rintro w' ⟨s0, s1, s2⟩; go_simp; (with_reducible rfl)); rotate_left; (simp only [Act.put, zSA, zSB, zSC, i64_w, i32_w]; rfl)
      refine one_ (i := 6) (N := some 18) (bq 8 127) rfl rfl (one_of HT_.out (by kernel_rfl)) (by decide) (fun K hK => ?_)
      refine goes_ Try.func48 (by kernel_rfl) rfl #[.int .i64 x1_1] (by rfl) rfl rfl (by (try simp only [List.map_toArray, List.map_cons, List.map_nil]); first | done | rfl | (simp only [List.length_drop, List.length_take]; rfl)) ?_
      with_reducible refine (laws_markText.calls k1 x1_1 t510 _ A5.out).mono ?_
      rintro e w16 ⟨rfl, hb⟩
      refine ⟨_, rfl, ?_⟩
      have n0_ := aM (below_step (by repeat (first | (with_reducible first | exact HB.out | apply below_alloc | apply pw_below_drewN | apply below_drew1) | exact HB.out)) hb)
      clear HB
      have HB := n0_
      clear n0_
      (try clear hb)
      (try clear hb2)
      (try clear hk)
      (try clear hi)
      refine hK.out _ _ ⟨((HB.out.cell (World.block_lt_of_cell? w _ hw509_0)).trans hw509_0), ((HB.out.cell (World.block_lt_of_cell? w _ hw509_1)).trans hw509_1), ((HB.out.cell (World.block_lt_of_cell? w _ hw509_2)).trans hw509_2)⟩ (fun hHeld => ?_)
      clear hK K
      refine norm_ (a' := ?_) ?_ ?_
      rotate_left
      ·
       show Act.put _ (some 18) _ = _
       simp only [Act.put, zSA, zSB, zSC, i64_w, i32_w]
       rfl
      refine pure_ (i := 7) (N := some 19) (v := ?_) (a' := ?_) (bq 8 255) rfl rfl (any_of HT_.out (by kernel_rfl)) (fun _ _ _ h => h) (Or.inl ⟨by rfl, ?_⟩) ?_ ?_; rotate_left; (intro w'; go_simp; (with_reducible rfl)); rotate_left; (simp only [Act.put, zSA, zSB, zSC, i64_w, i32_w]; rfl)
      refine done_ (done_of HT_.out (by kernel_rfl)) ?_
      try go_wp2
      go_ret
      exact ⟨by first | rfl | (simp [errW_none, errW_some] <;> rfl) | (simp [*, errW_none, errW_some] <;> rfl), by repeat (first | (with_reducible first | exact HB.out | apply below_alloc | apply pw_below_drewN | apply below_drew1) | exact HB.out)⟩
    ·
     rw [if_neg c4] at H
     exact absurd H (by simp)
   ·
    rw [if_neg c3] at H
    have c3b0 : decide (x5_1 < (l0.length : Int)) = false := decide_eq_false c3
    clear c3
    obtain rfl := Option.some.inj H
    go_wp2
    go_ret
    exact ⟨by first | rfl | (simp [errW_none, errW_some] <;> rfl) | (simp [*, errW_none, errW_some] <;> rfl), by repeat (first | (with_reducible first | exact HB.out | apply below_alloc | apply pw_below_drewN | apply below_drew1) | exact HB.out)⟩

def laws_heldRadix.f (k : Nat) (l0_0 : List (S64)) (a1 : Int) : Option (Int) := (laws_heldEdgeS.f k l0_0 a1).bind fun t514 => (if t514 < 0 then (some (-1)) else (some t514))
set_option maxHeartbeats 8000000 in
set_option maxRecDepth 100000 in
theorem laws_heldRadix.calls (k : Nat) (A0_0 : Option Addr) (c0_0 : Nat) (l0_0 : List (S64)) (a1 : Int) (r : Int) (w : World) (hr0_0 : Kd.C k64 w A0_0 l0_0.length l0_0) (hc0_0 : l0_0.length ≤ c0_0) (h : laws_heldRadix.f k l0_0 a1 = some r) :
  Calls Try.prog 19 #[.agg #[.slice A0_0 l0_0.length c0_0], .int .i64 a1] w fun e w' => e = .returned (.int .i64 r) ∧ Below w.heap.size w w' := by
 have hu26 := Try.underlying26
 have HR0_0 := aM hr0_0
 have HC0_0 := aM hc0_0
 clear hr0_0 hc0_0
 have HB := aM (Below.refl w.heap.size w)
 have H : ((laws_heldEdgeS.f k l0_0 a1).bind fun t514 => (if t514 < 0 then (some (-1)) else (some t514))) = some r := h
 clear h
 replace H := Option.bind_eq_some_iff.mp H
 obtain ⟨t514, A30, H⟩ := H
 replace H : (if t514 < 0 then (some (-1)) else (some t514)) = some r := H
 have A3 := aM A30
 clear A30
 by_cases c4 : t514 < 0
 ·
  rw [if_pos c4] at H
  have c4b0 : decide (t514 < 0) = true := decide_eq_true c4
  clear c4
  obtain rfl := Option.some.inj H
  go_enter Try.func19, Try.ntmps19
  go_wp2_with (first | ((with_reducible refine gate_dst (N := 2) rfl ?_); refine box_event ?hg (N := 2) ?hd (cs := #[.slice A0_0 l0_0.length c0_0]) (t := 26) ?hr ?_; (case hd => rfl); (case hg => rfl); (case hr => first | (go_simp; done) | (go_simp; rfl)); intro gb513 hg w5 hbox hb; have n0_ := aM (below_step (by repeat (first | (with_reducible first | exact HB.out | apply below_alloc | apply pw_below_drewN | apply below_drew1) | exact HB.out)) hb); have n1_ := aM (hbox); have n2_ := aM ((by rw [hg]; exact (below_size (by repeat (first | (with_reducible first | exact HB.out | apply below_alloc | apply pw_below_drewN | apply below_drew1) | exact HB.out))) : w.heap.size ≤ gb513)); have n3_ := aM ((by rw [hg]; exact (below_size (by repeat (first | (with_reducible first | exact HB.out | apply below_alloc | apply pw_below_drewN | apply below_drew1) | exact HB.out))) : w.heap.size ≤ gb513)); clear HB; have HB := n0_; have BK513 := n1_; have GW513 := n2_; have GE513 := n3_; clear n0_ n1_ n2_ n3_; clear hb hbox hg; have hcz6_0 : w5.cell? ⟨gb513, 0, none⟩ = some (.slice A0_0 l0_0.length c0_0) := (blk_cell BK513.out 0).trans rfl; have hfz6_0 := blk_frozen BK513.out 0) | ((with_reducible refine gate_callee (f := 50) rfl ?_); refine goesL_ (some 8) rfl rfl Try.func50 (by kernel_rfl) rfl #[.slice A0_0 l0_0.length c0_0, .int .i64 a1] rfl (by (try simp only [List.map_toArray, List.map_cons, List.map_nil]); first | done | rfl | (simp only [List.length_drop, List.length_take]; rfl)) ?_; (with_reducible refine (laws_heldEdgeS.calls k _ _ l0_0 a1 t514 _ ?side1 ?side2 A3.out).mono ?_); (case side1 => repeat (first | exact (Kd.C_below HR0_0.out HB.out) | (with_reducible refine Kd.C_alloc ?_ _) | (with_reducible refine Kd.C_drewN ?_ _) | (with_reducible refine Kd.C_drew ?_))); (case side2 => exact HC0_0.out); rintro e w7 ⟨rfl, hb⟩; refine ⟨_, rfl, ?_⟩; have n0_ := aM (blk_below (g := gb513) (o := .cells #[.slice A0_0 l0_0.length c0_0] 26 (0, 0)) (by (with_reducible repeat (first | refine blk_drewN ?_ _ | refine blk_drew ?_ | refine blk_alloc ?_ _)); exact BK513.out) hb); have n1_ := aM (below_step (by repeat (first | (with_reducible first | exact HB.out | apply below_alloc | apply pw_below_drewN | apply below_drew1 | refine below_set ?_ GE513.out) | exact HB.out)) hb); clear BK513; clear HB; have BK513 := n0_; have HB := n1_; clear n0_ n1_; (try clear hb); (try clear hb2); (try clear hk); (try clear hi)))
  go_ret
  exact ⟨by first | rfl | (simp [errW_none, errW_some] <;> rfl) | (simp [*, errW_none, errW_some] <;> rfl), by repeat (first | (with_reducible first | exact HB.out | apply below_alloc | apply pw_below_drewN | apply below_drew1 | refine below_set ?_ GE513.out) | exact HB.out)⟩
 ·
  rw [if_neg c4] at H
  have c4b0 : decide (t514 < 0) = false := decide_eq_false c4
  clear c4
  obtain rfl := Option.some.inj H
  go_enter Try.func19, Try.ntmps19
  go_wp2_with (first | ((with_reducible refine gate_dst (N := 2) rfl ?_); refine box_event ?hg (N := 2) ?hd (cs := #[.slice A0_0 l0_0.length c0_0]) (t := 26) ?hr ?_; (case hd => rfl); (case hg => rfl); (case hr => first | (go_simp; done) | (go_simp; rfl)); intro gb513 hg w8 hbox hb; have n0_ := aM (below_step (by repeat (first | (with_reducible first | exact HB.out | apply below_alloc | apply pw_below_drewN | apply below_drew1) | exact HB.out)) hb); have n1_ := aM (hbox); have n2_ := aM ((by rw [hg]; exact (below_size (by repeat (first | (with_reducible first | exact HB.out | apply below_alloc | apply pw_below_drewN | apply below_drew1) | exact HB.out))) : w.heap.size ≤ gb513)); have n3_ := aM ((by rw [hg]; exact (below_size (by repeat (first | (with_reducible first | exact HB.out | apply below_alloc | apply pw_below_drewN | apply below_drew1) | exact HB.out))) : w.heap.size ≤ gb513)); clear HB; have HB := n0_; have BK513 := n1_; have GW513 := n2_; have GE513 := n3_; clear n0_ n1_ n2_ n3_; clear hb hbox hg; have hcz9_0 : w8.cell? ⟨gb513, 0, none⟩ = some (.slice A0_0 l0_0.length c0_0) := (blk_cell BK513.out 0).trans rfl; have hfz9_0 := blk_frozen BK513.out 0) | ((with_reducible refine gate_callee (f := 50) rfl ?_); refine goesL_ (some 8) rfl rfl Try.func50 (by kernel_rfl) rfl #[.slice A0_0 l0_0.length c0_0, .int .i64 a1] rfl (by (try simp only [List.map_toArray, List.map_cons, List.map_nil]); first | done | rfl | (simp only [List.length_drop, List.length_take]; rfl)) ?_; (with_reducible refine (laws_heldEdgeS.calls k _ _ l0_0 a1 t514 _ ?side1 ?side2 A3.out).mono ?_); (case side1 => repeat (first | exact (Kd.C_below HR0_0.out HB.out) | (with_reducible refine Kd.C_alloc ?_ _) | (with_reducible refine Kd.C_drewN ?_ _) | (with_reducible refine Kd.C_drew ?_))); (case side2 => exact HC0_0.out); rintro e w10 ⟨rfl, hb⟩; refine ⟨_, rfl, ?_⟩; have n0_ := aM (blk_below (g := gb513) (o := .cells #[.slice A0_0 l0_0.length c0_0] 26 (0, 0)) (by (with_reducible repeat (first | refine blk_drewN ?_ _ | refine blk_drew ?_ | refine blk_alloc ?_ _)); exact BK513.out) hb); have n1_ := aM (below_step (by repeat (first | (with_reducible first | exact HB.out | apply below_alloc | apply pw_below_drewN | apply below_drew1 | refine below_set ?_ GE513.out) | exact HB.out)) hb); clear BK513; clear HB; have BK513 := n0_; have HB := n1_; clear n0_ n1_; (try clear hb); (try clear hb2); (try clear hk); (try clear hi)))
  go_ret
  exact ⟨by first | rfl | (simp [errW_none, errW_some] <;> rfl) | (simp [*, errW_none, errW_some] <;> rfl), by repeat (first | (with_reducible first | exact HB.out | apply below_alloc | apply pw_below_drewN | apply below_drew1 | refine below_set ?_ GE513.out) | exact HB.out)⟩

end Go.Proofs.Ytcngebfcpobnnaa.PQ
end
