/- Several texts in one: what the claim's last text rests on. No conditions. -/
import Derived.Test.YtcngebfcpobnnaaMPn7
import Derived.Test.YtcngebfcpobnnaaMPn8
import Derived.Test.YtcngebfcpobnnaaMPn5
section
namespace Go.Proofs.Ytcngebfcpobnnaa.PQ
open Go.RowKit Go.Proofs.YtcngebfcpobnnaaW.PrintWords Go.Proofs.YtcngebfcpobnnaaW.PrintLast Go.Proofs.YtcngebfcpobnnaaW.PrintMore
attribute [local go_sem] max2_int min2_int max_two min_two max_three min_three max_four min_four
set_option linter.unusedVariables false
set_option linter.unusedSimpArgs false
mutual
def impl_grow.l0 : Nat → List (S64) → List ByteArray → Int → Int → Option ((List (S64)))
 | 0, _, _, _, _ => none
 | k + 1, x0, x1, x2, x3 => if (x1.length : Int) > 0 then (impl_grow.l1 k x0 x1 x2 x3 1) else (some x0)
def impl_grow.j2 : Nat → List (S64) → List ByteArray → Int → Int → Int → Option ((List (S64)))
 | 0, _, _, _, _, _ => none
 | k + 1, x0, x1, x2, x3, x9 => if 0 < (x1.length : Int) then (if 0 ≤ x2 then (if x2 ≤ ((rdOf ByteArray.empty x1 0).size : Int) then (if 0 ≤ (wrap64 (x9 - 1)) then (if (wrap64 (x9 - 1)) < (x1.length : Int) then (if x2 ≤ ((rdOf ByteArray.empty x1 (wrap64 (x9 - 1))).size : Int) then ((impl_common.f k ((rdOf ByteArray.empty x1 0).extract (x2 : Int).toNat (rdOf ByteArray.empty x1 0).size) ((rdOf ByteArray.empty x1 (wrap64 (x9 - 1))).extract (x2 : Int).toNat (rdOf ByteArray.empty x1 (wrap64 (x9 - 1))).size)).bind fun t106 => (if x2 ≤ (wrap64 (x2 + t106)) then (if (wrap64 (x2 + t106)) ≤ ((rdOf ByteArray.empty x1 0).size : Int) then (if x0.length < 4398046511104 then ((some (x0 ++ [(⟨(rdOf ByteArray.empty x1 0).extract (x2 : Int).toNat ((wrap64 (x2 + t106)) : Int).toNat, (((rdOf ByteArray.empty x1 0).size : Int) == (wrap64 (x2 + t106))), x3⟩ : S64)] : List (S64))).bind fun y109 => (if 0 ≤ x9 then (if x9 ≤ (x1.length : Int) then ((some (x1.take (x9 : Int).toNat : List ByteArray)).bind fun y112 => (if 0 ≤ (x0.length : Int) then (if (x0.length : Int) < (y109.length : Int) then (if (rd_T64 y109 (x0.length : Int)).f1 = true then (if 1 ≤ (y112.length : Int) then ((impl_grow.f k y109 (y112.drop 1) (wrap64 (x2 + t106)) (x0.length : Int)).bind fun t123 => (impl_grow.l0 k t123 (x1.drop (x9 : Int).toNat) x2 x3)) else (none)) else ((impl_grow.f k y109 y112 (wrap64 (x2 + t106)) (x0.length : Int)).bind fun t131 => (impl_grow.l0 k t131 (x1.drop (x9 : Int).toNat) x2 x3))) else (none)) else (none))) else (none)) else (none))) else (none)) else (none)) else (none))) else (none)) else (none)) else (none)) else (none)) else (none)) else (none)
def impl_grow.l1 : Nat → List (S64) → List ByteArray → Int → Int → Int → Option ((List (S64)))
 | 0, _, _, _, _, _ => none
 | k + 1, x0, x1, x2, x3, x9 => if x9 < (x1.length : Int) then (if 0 ≤ x9 then (if 0 ≤ x2 then (if x2 < ((rdOf ByteArray.empty x1 x9).size : Int) then (if 0 < (x1.length : Int) then (if x2 < ((rdOf ByteArray.empty x1 0).size : Int) then (if (bt (rdOf ByteArray.empty x1 x9) x2) = (bt (rdOf ByteArray.empty x1 0) x2) then (impl_grow.l1 k x0 x1 x2 x3 (wrap64 (x9 + 1))) else (impl_grow.j2 k x0 x1 x2 x3 x9)) else (none)) else (none)) else (none)) else (none)) else (none)) else (impl_grow.j2 k x0 x1 x2 x3 x9)
def impl_grow.f : Nat → List (S64) → List ByteArray → Int → Int → Option ((List (S64)))
 | 0, _, _, _, _ => none
 | k + 1, l0, l1, a2, a3 => impl_grow.l0 k l0 l1 a2 a3
end
def impl_grow.T3 : Bool × List (List Nat × List Nat) := (true, [([], []), ([], []), ([1], [1]), ([0, 2], [0, 2]), ([3], [3]), ([4], [4]), ([4], [4]), ([5, 6, 4], [4, 5, 6]), ([7, 4], [4, 7]), ([4], [4]), ([8, 9, 4], [4, 8, 9]), ([4], [4]), ([11, 4], [4, 11]), ([12, 4], [4, 12]), ([4], [4]), ([13, 14, 4], [4, 13, 14]), ([10, 15, 4], [4, 10, 15]), ([4, 16], [4, 16])])
def impl_grow.B3 : List Nat := [0, 0, 2, 7, 15, 31, 31, 127, 255, 31, 1023, 31, 2079, 6175, 31, 30751, 65535, 131071]
theorem impl_grow.tab3 : rtab .any (opsOf Try.f72 3) = impl_grow.T3 := by kernel_rfl
theorem impl_grow.bits3 : waitsOk impl_grow.T3.2 impl_grow.B3 = true := by kernel_rfl
def impl_grow.T5 : Bool × List (List Nat × List Nat) := (true, [([], []), ([0], [0]), ([1], [1]), ([], []), ([2, 3], [2, 3]), ([], []), ([], []), ([6], [6]), ([5, 7], [5, 7]), ([8], [8]), ([], []), ([9, 10], [9, 10]), ([4, 11], [4, 11]), ([12, 12, 0, 1, 2, 3, 4, 5, 6, 7, 8, 9, 10, 11, 12], [12])])
def impl_grow.B5 : List Nat := [0, 1, 3, 0, 15, 0, 0, 64, 224, 480, 0, 2016, 4095, 8191]
theorem impl_grow.tab5 : rtab .any (opsOf Try.f72 5) = impl_grow.T5 := by kernel_rfl
theorem impl_grow.bits5 : waitsOk impl_grow.T5.2 impl_grow.B5 = true := by kernel_rfl
def impl_grow.T8 : Bool × List (List Nat × List Nat) := (true, [([], []), ([], []), ([1], [1]), ([2], [2]), ([], []), ([], []), ([3, 4, 5], [3, 4, 5]), ([], []), ([7], [7]), ([8], [8]), ([9], [9]), ([], []), ([10, 11], [10, 11]), ([], []), ([6, 12, 13], [6, 12, 13]), ([14], [14]), ([0, 15], [0, 15]), ([16, 16, 0, 1, 2, 3, 4, 5, 6, 7, 8, 9, 10, 11, 12, 13, 14, 15, 16], [0, 16])])
def impl_grow.B8 : List Nat := [0, 0, 2, 6, 0, 0, 62, 0, 128, 384, 896, 0, 3968, 0, 16382, 32766, 65535, 131071]
theorem impl_grow.tab8 : rtab .any (opsOf Try.f72 8) = impl_grow.T8 := by kernel_rfl
theorem impl_grow.bits8 : waitsOk impl_grow.T8.2 impl_grow.B8 = true := by kernel_rfl
set_option maxHeartbeats 8000000 in
set_option maxRecDepth 100000 in
theorem impl_grow.calls (k : Nat) : ∀ (P0_ : Nat → Prop) (u9000_ : Value) (l0 : List (S64)) (P1_ : Nat → Prop) (A1 : Option Addr) (c1 : Nat) (l1 : List ByteArray) (a2 : Int) (a3 : Int) (r : List (S64)) (w0 w : World) (hB : Below w0.heap.size w0 w) (ho0 : Kd.R k64 64 w w0.heap.size P0_ u9000_ l0) (hs1 : Kd.V Kd.string 9 w w0.heap.size (fun k_ => P1_ k_ ∧ some k_ ≠ (u9000_ : Value).ownBlock) (.slice A1 l1.length c1) l1) (h : impl_grow.f k l0 l1 a2 a3 = some r),
  Calls Try.prog 72 #[u9000_, .slice A1 l1.length c1, .int .i64 a2, .int .i64 a3] w fun e w' => ∃ v0_ : Value, e = .returned (v0_) ∧ Kd.R k64 64 w' w0.heap.size (fun k_ => (P0_ k_ ∨ w.heap.size ≤ k_)) v0_ r ∧ Below w0.heap.size w0 w' ∧ Kept w w' (fun k_ => P0_ k_) := by
 induction k using Nat.strongRecOn with
 | _ k ih =>
 intro P0_ u9000_ l0 P1_ A1 c1 l1 a2 a3 r w0 w hB ho0 hs1 h
 cases k with
 | zero => exact absurd h (by simp [impl_grow.f])
 | succ k =>
 simp only [impl_grow.f] at h
 have hu64 := Try.underlying64
 have HO0 := aM (show Kd.R k64 64 w w0.heap.size (fun k_ => (P0_ k_ ∨ w.heap.size ≤ k_)) u9000_ l0 from Kd.R_mono ho0 (fun k_ hk => (.inl hk)))
 have HO1 := aM (show Kd.V Kd.string 9 w w0.heap.size (fun k_ => ((P0_ k_ ∨ P1_ k_) ∨ w.heap.size ≤ k_) ∧ some k_ ≠ (u9000_ : Value).ownBlock) (.slice A1 l1.length c1) l1 from Kd.V_mono hs1 (fun k_ hk => ⟨.inl (.inr hk.1), hk.2⟩))
 have HK := aM (Kept.refl w (fun k_ => P0_ k_))
 have HW0 := aM hB.size
 have HB := aM hB
 clear hB
 have H : (impl_grow.l0 k l0 l1 a2 a3) = some r := h
 clear h
 have H' := aM H
 clear H
 go_enter Try.func72, Try.ntmps72
 go_wp2
 go_loopg [0, 1] k (fun kq v0 v1 w' => ∃ (x0_1 : List (S64)) (x1_1 : List ByteArray), Aside0 (impl_grow.l0 kq x0_1 x1_1 a2 a3 = some r) ∧ Aside0 (kq ≤ k) ∧ Aside0 (Kd.R k64 64 w' w0.heap.size (fun k_ => (P0_ k_ ∨ w.heap.size ≤ k_)) v0 x0_1) ∧ Aside0 (Kd.V Kd.string 9 w' w0.heap.size (fun k_ => ((P0_ k_ ∨ P1_ k_) ∨ w.heap.size ≤ k_) ∧ some k_ ≠ (v0 : Value).ownBlock) v1 x1_1) ∧ Aside0 (Kept w w' (fun k_ => P0_ k_)) ∧ Aside0 (Below w0.heap.size w0 w'))
 case atStart => exact ⟨(l0), (l1), H', ⟨Nat.le_refl _⟩, ⟨by (with_reducible repeat (first | apply Kd.R_alloc | apply Kd.R_drewN | apply Kd.R_drew)); exact HO0.out⟩, ⟨by (with_reducible repeat (first | apply Kd.V_alloc | apply Kd.V_drewN | apply Kd.V_drew)); exact HO1.out⟩, ⟨by repeat (first | (with_reducible first | exact HK.out | apply Kept.alloc | apply Kept.drewN | apply Kept.drew) | exact HK.out)⟩, ⟨by repeat (first | (with_reducible first | exact HB.out | apply below_alloc | apply pw_below_drewN | apply below_drew1) | exact HB.out)⟩⟩
 case round =>
  clear H'
  try clear c1
  try clear p2
  obtain ⟨x0_1, x1_1, HA, HK1, HO_0, HO_1, HK, HB⟩ := hrel
  cases gk with
  | zero => exact absurd HA.out (by simp [impl_grow.l0])
  | succ k1 =>
   have H := HA.out
   clear HA
   simp only [impl_grow.l0] at H
   by_cases c5 : (x1_1.length : Int) > 0
   ·
    rw [if_pos c5] at H
    have c5b0 : decide (0 < (x1_1.length : Int)) = true := decide_eq_true c5
    have c5b1 : decide (0 < x1_1.length) = true := decide_eq_true (by omega)
    clear c5
    have HC6 := aM H
    clear H
    obtain ⟨Ao7, co7, eo7⟩ := Kd.V_slice HO_1.out
    subst eo7
    go_upto_block 2 with (fail)
    go_cut [9] (fun v9 wc => ∃ (kq : Nat) (x9_5 : Int), v9 = .int .i64 x9_5 ∧ Aside0 (impl_grow.j2 kq x0_1 x1_1 a2 a3 x9_5 = some r) ∧ Aside0 (kq ≤ k1) ∧ Aside0 (Kd.R k64 64 wc w0.heap.size (fun k_ => (P0_ k_ ∨ w.heap.size ≤ k_)) u0 x0_1) ∧ Aside0 (Kd.V Kd.string 9 wc w0.heap.size (fun k_ => ((P0_ k_ ∨ P1_ k_) ∨ w.heap.size ≤ k_) ∧ some k_ ≠ (u0 : Value).ownBlock) (.slice Ao7 x1_1.length co7) x1_1) ∧ Aside0 (Kept w wc (fun k_ => P0_ k_)) ∧ Aside0 (Below w0.heap.size w0 wc))
    case first =>
     have H := HC6.out
     clear HC6
     have H' := aM H
     clear H
     go_wp2
     go_loopg [9] k1 (fun kq v9 w' => ∃ (x9_2 : Int), v9 = .int .i64 x9_2 ∧ Aside0 (impl_grow.l1 kq x0_1 x1_1 a2 a3 x9_2 = some r) ∧ Aside0 (kq ≤ k1) ∧ Aside0 (Kd.R k64 64 w' w0.heap.size (fun k_ => (P0_ k_ ∨ w.heap.size ≤ k_)) u0 x0_1) ∧ Aside0 (Kd.V Kd.string 9 w' w0.heap.size (fun k_ => ((P0_ k_ ∨ P1_ k_) ∨ w.heap.size ≤ k_) ∧ some k_ ≠ (u0 : Value).ownBlock) (.slice Ao7 x1_1.length co7) x1_1) ∧ Aside0 (Kept w w' (fun k_ => P0_ k_)) ∧ Aside0 (Below w0.heap.size w0 w'))
     case atStart => exact ⟨(1), (by first | rfl | (simp; done) | (simp [*]; done)), H', ⟨Nat.le_refl _⟩, ⟨by (with_reducible repeat (first | apply Kd.R_alloc | apply Kd.R_drewN | apply Kd.R_drew)); exact HO_0.out⟩, ⟨by (with_reducible repeat (first | apply Kd.V_alloc | apply Kd.V_drewN | apply Kd.V_drew)); exact HO_1.out⟩, ⟨by repeat (first | (with_reducible first | exact HK.out | apply Kept.alloc | apply Kept.drewN | apply Kept.drew) | exact HK.out)⟩, ⟨by repeat (first | (with_reducible first | exact HB.out | apply below_alloc | apply pw_below_drewN | apply below_drew1) | exact HB.out)⟩⟩
     case round =>
      clear H'
      try clear c1
      try clear p2
      try clear c5
      try clear c5b0
      try clear c5b1
      try clear c7
      try clear p2
      obtain ⟨x9_2, rfl, HA, HK2, HO_0, HO_1, HK, HB⟩ := hrel
      cases gk with
      | zero => exact absurd HA.out (by simp [impl_grow.l1])
      | succ k2 =>
       have H := HA.out
       clear HA
       simp only [impl_grow.l1] at H
       by_cases c8 : x9_2 < (x1_1.length : Int)
       ·
        rw [if_pos c8] at H
        have c8b0 : decide (x9_2 < (x1_1.length : Int)) = true := decide_eq_true c8
        clear c8
        (first | rw [c8b0] | (simp only [i64_w, i32_w]; rw [c8b0]) | skip)
        by_cases c9 : 0 ≤ x9_2
        ·
         rw [if_pos c9] at H
         have c9b0 : decide (0 ≤ x9_2) = true := decide_eq_true c9
         clear c9
         by_cases c10 : 0 ≤ a2
         ·
          rw [if_pos c10] at H
          have c10b0 : decide (0 ≤ a2) = true := decide_eq_true c10
          clear c10
          by_cases c11 : a2 < ((rdOf ByteArray.empty x1_1 x9_2).size : Int)
          ·
           rw [if_pos c11] at H
           have c11b0 : decide (a2 < ((rdOf ByteArray.empty x1_1 x9_2).size : Int)) = true := decide_eq_true c11
           clear c11
           by_cases c13 : 0 < (x1_1.length : Int)
           ·
            rw [if_pos c13] at H
            have c13b0 : decide (0 < (x1_1.length : Int)) = true := decide_eq_true c13
            have c13b1 : decide (0 < x1_1.length) = true := decide_eq_true (by omega)
            clear c13
            by_cases c14 : a2 < ((rdOf ByteArray.empty x1_1 0).size : Int)
            ·
             rw [if_pos c14] at H
             have c14b0 : decide (a2 < ((rdOf ByteArray.empty x1_1 0).size : Int)) = true := decide_eq_true c14
             clear c14
             by_cases c16 : (bt (rdOf ByteArray.empty x1_1 x9_2) a2) = (bt (rdOf ByteArray.empty x1_1 0) a2)
             ·
              rw [if_pos c16] at H
              have c16b0 : ((bt (rdOf ByteArray.empty x1_1 x9_2) a2) == (bt (rdOf ByteArray.empty x1_1 0) a2)) = true := beq_iff_eq.mpr c16
              have c16b1 : ((bt (rdOf ByteArray.empty x1_1 x9_2) a2) != (bt (rdOf ByteArray.empty x1_1 0) a2)) = false := bne_eq_false_iff_eq.mpr c16
              clear c16
              have H' := aM H
              clear H
              try go_wp2
              have n0_ := aM (Kd.R_drew HO_0.out)
              have n1_ := aM (Kd.V_drew HO_1.out)
              have n2_ := aM (Kept.drew HK.out)
              have n3_ := aM (below_drew1 HB.out)
              clear HO_0
              clear HO_1
              clear HK
              clear HB
              have HO_0 := n0_
              have HO_1 := n1_
              have HK := n2_
              have HB := n3_
              clear n0_ n1_ n2_ n3_
              have p102 : 0 ≤ (x9_2 : Int) := of_decide_eq_true (by first | (with_reducible assumption) | assumption)
              have q102 : x9_2 < (x1_1.length : Int) := of_decide_eq_true (by first | (with_reducible assumption) | assumption)
              obtain ⟨ad102, e102, hx102_0⟩ := Kd.at_string (Kd.V_reads' HO_1.out).2.2 x9_2 p102 q102
              cases e102
              replace p102 := eq_true p102
              replace q102 := eq_true q102
              have p12 : 0 ≤ (a2 : Int) := of_decide_eq_true (by first | (with_reducible assumption) | assumption)
              have q12 : a2 < ((rdOf ByteArray.empty x1_1 x9_2).size : Int) := of_decide_eq_true (by first | (with_reducible assumption) | assumption)
              have hx12 := bt_at (rdOf ByteArray.empty x1_1 x9_2) a2
              replace p12 := eq_true p12
              replace q12 := eq_true q12
              have p103 : 0 ≤ (0 : Int) := (by omega)
              have q103 : 0 < (x1_1.length : Int) := of_decide_eq_true (by first | (with_reducible assumption) | assumption)
              obtain ⟨ad103, e103, hx103_0⟩ := Kd.at_string (Kd.V_reads' HO_1.out).2.2 0 p103 q103
              obtain rfl : ad102 = ad103 := (by injection e103)
              have qi103 : (0 < x1_1.length) = True := eq_true (by omega)
              (try rw [show ((0 : Int)).toNat = 0 from rfl] at hx103_0)
              (try rw [Addr.add_zero'] at hx103_0)
              replace p103 := eq_true p103
              replace q103 := eq_true q103
              have p15 : 0 ≤ (a2 : Int) := of_decide_eq_true (by first | (with_reducible assumption) | assumption)
              have q15 : a2 < ((rdOf ByteArray.empty x1_1 0).size : Int) := of_decide_eq_true (by first | (with_reducible assumption) | assumption)
              have hx15 := bt_at (rdOf ByteArray.empty x1_1 0) a2
              replace p15 := eq_true p15
              replace q15 := eq_true q15
              refine start_ (n := 18) (S := fun w' => w'.cell? (ad102.add (x9_2).toNat) = some (.string (rdOf ByteArray.empty x1_1 x9_2)) ∧ w'.cell? ad102 = some (.string (rdOf ByteArray.empty x1_1 0))) (ds := []) (bq 18 0) (by kernel_rfl) rfl (by kernel_rfl) ⟨hx102_0, hx103_0⟩ (fun hHeld => ?_); refine with_tabW impl_grow.tab3 impl_grow.bits3 (fun HT_ HW_ => ?_)
              generalize wr.drew = w17 at HO_0 HO_1 HK HB hx102_0 hx103_0 hHeld ⊢
              refine pure_ (i := 0) (N := some 17) (v := ?_) (a' := ?_) (bq 18 1) rfl rfl (any_of HT_.out (by kernel_rfl)) (fun _ _ _ h => h) (Or.inl ⟨by rfl, ?_⟩) ?_ ?_; rotate_left; (intro w'; go_simp; (with_reducible rfl)); rotate_left; (simp only [Act.put, zSA, zSB, zSC, i64_w, i32_w]; rfl)
              refine pure_ (i := 1) (N := some 18) (v := ?_) (a' := ?_) (bq 18 3) rfl rfl (any_of HT_.out (by kernel_rfl)) (fun _ _ _ h => h) (Or.inl ⟨by rfl, ?_⟩) ?_ ?_; rotate_left; (intro w'; go_simp; (with_reducible rfl)); rotate_left; (simp only [Act.put, zSA, zSB, zSC, i64_w, i32_w]; rfl)
              refine pure_ (i := 2) (N := some 19) (v := ?_) (a' := ?_) (bq 18 7) rfl rfl (any_of HT_.out (by kernel_rfl)) (fun _ _ _ h => h) (Or.inl ⟨by rfl, ?_⟩) ?_ ?_; rotate_left; (intro w'; go_simp; (with_reducible rfl)); rotate_left; (simp only [Act.put, zSA, zSB, zSC, i64_w, i32_w]; rfl)
              refine pure_ (i := 3) (N := some 20) (v := ?_) (a' := ?_) (bq 18 15) rfl rfl (any_of HT_.out (by kernel_rfl)) (fun _ _ _ h => h) (Or.inl ⟨by rfl, ?_⟩) ?_ ?_; rotate_left; (intro w'; go_simp; (with_reducible rfl)); rotate_left; (simp only [Act.put, zSA, zSB, zSC, i64_w, i32_w]; rfl)
              refine pure_ (i := 4) (N := some 21) (v := ?_) (a' := ?_) (bq 18 31) rfl rfl (any_of HT_.out (by kernel_rfl)) (fun _ _ _ h => h) (Or.inl ⟨by rfl, ?_⟩) ?_ ?_; rotate_left; (intro w'; go_simp; (with_reducible rfl)); rotate_left; (simp only [Act.put, zSA, zSB, zSC, i64_w, i32_w]; rfl)
              refine pure_ (i := 5) (N := some 22) (v := ?_) (a' := ?_) (bq 18 63) rfl rfl (any_of HT_.out (by kernel_rfl)) (fun _ _ _ h => h) (Or.inl ⟨by rfl, ?_⟩) ?_ ?_; rotate_left; (intro w'; go_simp; (with_reducible rfl)); rotate_left; (simp only [Act.put, zSA, zSB, zSC, i64_w, i32_w]; rfl)
              refine pure_ (i := 6) (N := some 23) (v := ?_) (a' := ?_) (bq 18 127) rfl rfl (any_of HT_.out (by kernel_rfl)) (fun _ _ _ h => h) (Or.inl ⟨by rfl, ?_⟩) ?_ ?_; rotate_left; (intro w'; go_simp; (with_reducible rfl)); rotate_left; (simp only [Act.put, zSA, zSB, zSC, i64_w, i32_w]; rfl)
              refine pure_ (i := 7) (N := some 24) (v := ?_) (a' := ?_) (bq 18 255) rfl rfl (any_of HT_.out (by kernel_rfl)) (fun _ _ _ h => h) (Or.inl ⟨by rfl, ?_⟩) ?_ ?_; rotate_left; (intro w'; go_simp; (with_reducible rfl)); rotate_left; (simp only [Act.put, zSA, zSB, zSC, i64_w, i32_w]; rfl)
              refine pure_ (i := 9) (N := some 26) (v := ?_) (a' := ?_) (bq 18 767) rfl rfl (any_of HT_.out (by kernel_rfl)) (fun _ _ _ h => h) (Or.inl ⟨by rfl, ?_⟩) ?_ ?_; rotate_left; (intro w'; go_simp; (with_reducible rfl)); rotate_left; (simp only [Act.put, zSA, zSB, zSC, i64_w, i32_w]; rfl)
              refine pure_ (i := 11) (N := some 28) (v := ?_) (a' := ?_) (bq 18 2815) rfl rfl (any_of HT_.out (by kernel_rfl)) (fun _ _ _ h => h) (Or.inl ⟨by rfl, ?_⟩) ?_ ?_; rotate_left; (intro w'; go_simp; (with_reducible rfl)); rotate_left; (simp only [Act.put, zSA, zSB, zSC, i64_w, i32_w]; rfl)
              refine pure_ (i := 12) (N := some 29) (v := ?_) (a' := ?_) (bq 18 6911) rfl rfl (any_of HT_.out (by kernel_rfl)) (fun _ _ _ h => h) (Or.inl ⟨by rfl, ?_⟩) ?_ ?_; rotate_left; (intro w'; go_simp; (with_reducible rfl)); rotate_left; (simp only [Act.put, zSA, zSB, zSC, i64_w, i32_w]; rfl)
              refine pure_ (i := 14) (N := some 31) (v := ?_) (a' := ?_) (bq 18 23295) rfl rfl (any_of HT_.out (by kernel_rfl)) (fun _ _ _ h => h) (Or.inl ⟨by rfl, ?_⟩) ?_ ?_; rotate_left; (intro w'; go_simp; (with_reducible rfl)); rotate_left; (simp only [Act.put, zSA, zSB, zSC, i64_w, i32_w]; rfl)
              refine take_ (i := 8) (N := some 25) (v := ?_) (a' := ?_) (bq 18 23551) rfl rfl (take_ofW HT_.out HW_.out (by kernel_rfl)) (fun _ _ _ h => h) (Or.inl ⟨by rfl, ?_⟩) hHeld ?_ ?_; rotate_left; (rintro w' ⟨s0, s1⟩; go_simp; (with_reducible rfl)); rotate_left; (simp only [Act.put, zSA, zSB, zSC, i64_w, i32_w]; rfl)
              refine take_ (i := 10) (N := some 27) (v := ?_) (a' := ?_) (bq 18 24575) rfl rfl (take_ofW HT_.out HW_.out (by kernel_rfl)) (fun _ _ _ h => h) (Or.inl ⟨by rfl, ?_⟩) hHeld ?_ ?_; rotate_left; (rintro w' ⟨s0, s1⟩; go_simp; (with_reducible rfl)); rotate_left; (simp only [Act.put, zSA, zSB, zSC, i64_w, i32_w]; rfl)
              refine take_ (i := 13) (N := some 30) (v := ?_) (a' := ?_) (bq 18 32767) rfl rfl (take_ofW HT_.out HW_.out (by kernel_rfl)) (fun _ _ _ h => h) (Or.inl ⟨by rfl, ?_⟩) hHeld ?_ ?_; rotate_left; (rintro w' ⟨s0, s1⟩; go_simp; (with_reducible rfl)); rotate_left; (simp only [Act.put, zSA, zSB, zSC, i64_w, i32_w]; rfl)
              refine take_ (i := 15) (N := some 32) (v := ?_) (a' := ?_) (bq 18 65535) rfl rfl (take_ofW HT_.out HW_.out (by kernel_rfl)) (fun _ _ _ h => h) (Or.inl ⟨by rfl, ?_⟩) hHeld ?_ ?_; rotate_left; (rintro w' ⟨s0, s1⟩; go_simp; (with_reducible rfl)); rotate_left; (simp only [Act.put, zSA, zSB, zSC, i64_w, i32_w]; rfl)
              refine pure_ (i := 16) (N := some 33) (v := ?_) (a' := ?_) (bq 18 131071) rfl rfl (any_of HT_.out (by kernel_rfl)) (fun _ _ _ h => h) (Or.inl ⟨by rfl, ?_⟩) ?_ ?_; rotate_left; (intro w'; go_simp; (with_reducible rfl)); rotate_left; (simp only [Act.put, zSA, zSB, zSC, i64_w, i32_w]; rfl)
              refine pure_ (i := 17) (N := some 34) (v := ?_) (a' := ?_) (bq 18 262143) rfl rfl (any_of HT_.out (by kernel_rfl)) (fun _ _ _ h => h) (Or.inl ⟨by rfl, ?_⟩) ?_ ?_; rotate_left; (intro w'; go_simp; (with_reducible rfl)); rotate_left; (simp only [Act.put, zSA, zSB, zSC, i64_w, i32_w]; rfl)
              refine done_ (done_of HT_.out (by kernel_rfl)) ?_
              try go_wp2
              go_roundg k2
              case measure => have := HK1.out; have := HK2.out; omega
              case rel => exact ⟨(wrap64 (x9_2 + 1)), (by first | rfl | (simp; done) | (simp [*]; done)), H', ⟨by have := HK1.out; have := HK2.out; omega⟩, ⟨by (with_reducible repeat (first | apply Kd.R_alloc | apply Kd.R_drewN | apply Kd.R_drew)); exact HO_0.out⟩, ⟨by (with_reducible repeat (first | apply Kd.V_alloc | apply Kd.V_drewN | apply Kd.V_drew)); exact HO_1.out⟩, ⟨by repeat (first | (with_reducible first | exact HK.out | apply Kept.alloc | apply Kept.drewN | apply Kept.drew) | exact HK.out)⟩, ⟨by repeat (first | (with_reducible first | exact HB.out | apply below_alloc | apply pw_below_drewN | apply below_drew1) | exact HB.out)⟩⟩
             ·
              rw [if_neg c16] at H
              have c16b0 : ((bt (rdOf ByteArray.empty x1_1 x9_2) a2) == (bt (rdOf ByteArray.empty x1_1 0) a2)) = false := beq_eq_false_iff_ne.mpr c16
              have c16b1 : ((bt (rdOf ByteArray.empty x1_1 x9_2) a2) != (bt (rdOf ByteArray.empty x1_1 0) a2)) = true := bne_iff_ne.mpr c16
              have H' := aM H
              clear H
              try go_wp2
              have n0_ := aM (Kd.R_drew HO_0.out)
              have n1_ := aM (Kd.V_drew HO_1.out)
              have n2_ := aM (Kept.drew HK.out)
              have n3_ := aM (below_drew1 HB.out)
              clear HO_0
              clear HO_1
              clear HK
              clear HB
              have HO_0 := n0_
              have HO_1 := n1_
              have HK := n2_
              have HB := n3_
              clear n0_ n1_ n2_ n3_
              have p102 : 0 ≤ (x9_2 : Int) := of_decide_eq_true (by first | (with_reducible assumption) | assumption)
              have q102 : x9_2 < (x1_1.length : Int) := of_decide_eq_true (by first | (with_reducible assumption) | assumption)
              obtain ⟨ad102, e102, hx102_0⟩ := Kd.at_string (Kd.V_reads' HO_1.out).2.2 x9_2 p102 q102
              cases e102
              replace p102 := eq_true p102
              replace q102 := eq_true q102
              have p12 : 0 ≤ (a2 : Int) := of_decide_eq_true (by first | (with_reducible assumption) | assumption)
              have q12 : a2 < ((rdOf ByteArray.empty x1_1 x9_2).size : Int) := of_decide_eq_true (by first | (with_reducible assumption) | assumption)
              have hx12 := bt_at (rdOf ByteArray.empty x1_1 x9_2) a2
              replace p12 := eq_true p12
              replace q12 := eq_true q12
              have p103 : 0 ≤ (0 : Int) := (by omega)
              have q103 : 0 < (x1_1.length : Int) := of_decide_eq_true (by first | (with_reducible assumption) | assumption)
              obtain ⟨ad103, e103, hx103_0⟩ := Kd.at_string (Kd.V_reads' HO_1.out).2.2 0 p103 q103
              obtain rfl : ad102 = ad103 := (by injection e103)
              have qi103 : (0 < x1_1.length) = True := eq_true (by omega)
              (try rw [show ((0 : Int)).toNat = 0 from rfl] at hx103_0)
              (try rw [Addr.add_zero'] at hx103_0)
              replace p103 := eq_true p103
              replace q103 := eq_true q103
              have p15 : 0 ≤ (a2 : Int) := of_decide_eq_true (by first | (with_reducible assumption) | assumption)
              have q15 : a2 < ((rdOf ByteArray.empty x1_1 0).size : Int) := of_decide_eq_true (by first | (with_reducible assumption) | assumption)
              have hx15 := bt_at (rdOf ByteArray.empty x1_1 0) a2
              replace p15 := eq_true p15
              replace q15 := eq_true q15
              refine start_ (n := 18) (S := fun w' => w'.cell? (ad102.add (x9_2).toNat) = some (.string (rdOf ByteArray.empty x1_1 x9_2)) ∧ w'.cell? ad102 = some (.string (rdOf ByteArray.empty x1_1 0))) (ds := []) (bq 18 0) (by kernel_rfl) rfl (by kernel_rfl) ⟨hx102_0, hx103_0⟩ (fun hHeld => ?_); refine with_tabW impl_grow.tab3 impl_grow.bits3 (fun HT_ HW_ => ?_)
              generalize wr.drew = w18 at HO_0 HO_1 HK HB hx102_0 hx103_0 hHeld ⊢
              refine pure_ (i := 0) (N := some 17) (v := ?_) (a' := ?_) (bq 18 1) rfl rfl (any_of HT_.out (by kernel_rfl)) (fun _ _ _ h => h) (Or.inl ⟨by rfl, ?_⟩) ?_ ?_; rotate_left; (intro w'; go_simp; (with_reducible rfl)); rotate_left; (simp only [Act.put, zSA, zSB, zSC, i64_w, i32_w]; rfl)
              refine pure_ (i := 1) (N := some 18) (v := ?_) (a' := ?_) (bq 18 3) rfl rfl (any_of HT_.out (by kernel_rfl)) (fun _ _ _ h => h) (Or.inl ⟨by rfl, ?_⟩) ?_ ?_; rotate_left; (intro w'; go_simp; (with_reducible rfl)); rotate_left; (simp only [Act.put, zSA, zSB, zSC, i64_w, i32_w]; rfl)
              refine pure_ (i := 2) (N := some 19) (v := ?_) (a' := ?_) (bq 18 7) rfl rfl (any_of HT_.out (by kernel_rfl)) (fun _ _ _ h => h) (Or.inl ⟨by rfl, ?_⟩) ?_ ?_; rotate_left; (intro w'; go_simp; (with_reducible rfl)); rotate_left; (simp only [Act.put, zSA, zSB, zSC, i64_w, i32_w]; rfl)
              refine pure_ (i := 3) (N := some 20) (v := ?_) (a' := ?_) (bq 18 15) rfl rfl (any_of HT_.out (by kernel_rfl)) (fun _ _ _ h => h) (Or.inl ⟨by rfl, ?_⟩) ?_ ?_; rotate_left; (intro w'; go_simp; (with_reducible rfl)); rotate_left; (simp only [Act.put, zSA, zSB, zSC, i64_w, i32_w]; rfl)
              refine pure_ (i := 4) (N := some 21) (v := ?_) (a' := ?_) (bq 18 31) rfl rfl (any_of HT_.out (by kernel_rfl)) (fun _ _ _ h => h) (Or.inl ⟨by rfl, ?_⟩) ?_ ?_; rotate_left; (intro w'; go_simp; (with_reducible rfl)); rotate_left; (simp only [Act.put, zSA, zSB, zSC, i64_w, i32_w]; rfl)
              refine pure_ (i := 5) (N := some 22) (v := ?_) (a' := ?_) (bq 18 63) rfl rfl (any_of HT_.out (by kernel_rfl)) (fun _ _ _ h => h) (Or.inl ⟨by rfl, ?_⟩) ?_ ?_; rotate_left; (intro w'; go_simp; (with_reducible rfl)); rotate_left; (simp only [Act.put, zSA, zSB, zSC, i64_w, i32_w]; rfl)
              refine pure_ (i := 6) (N := some 23) (v := ?_) (a' := ?_) (bq 18 127) rfl rfl (any_of HT_.out (by kernel_rfl)) (fun _ _ _ h => h) (Or.inl ⟨by rfl, ?_⟩) ?_ ?_; rotate_left; (intro w'; go_simp; (with_reducible rfl)); rotate_left; (simp only [Act.put, zSA, zSB, zSC, i64_w, i32_w]; rfl)
              refine pure_ (i := 7) (N := some 24) (v := ?_) (a' := ?_) (bq 18 255) rfl rfl (any_of HT_.out (by kernel_rfl)) (fun _ _ _ h => h) (Or.inl ⟨by rfl, ?_⟩) ?_ ?_; rotate_left; (intro w'; go_simp; (with_reducible rfl)); rotate_left; (simp only [Act.put, zSA, zSB, zSC, i64_w, i32_w]; rfl)
              refine pure_ (i := 9) (N := some 26) (v := ?_) (a' := ?_) (bq 18 767) rfl rfl (any_of HT_.out (by kernel_rfl)) (fun _ _ _ h => h) (Or.inl ⟨by rfl, ?_⟩) ?_ ?_; rotate_left; (intro w'; go_simp; (with_reducible rfl)); rotate_left; (simp only [Act.put, zSA, zSB, zSC, i64_w, i32_w]; rfl)
              refine pure_ (i := 11) (N := some 28) (v := ?_) (a' := ?_) (bq 18 2815) rfl rfl (any_of HT_.out (by kernel_rfl)) (fun _ _ _ h => h) (Or.inl ⟨by rfl, ?_⟩) ?_ ?_; rotate_left; (intro w'; go_simp; (with_reducible rfl)); rotate_left; (simp only [Act.put, zSA, zSB, zSC, i64_w, i32_w]; rfl)
              refine pure_ (i := 12) (N := some 29) (v := ?_) (a' := ?_) (bq 18 6911) rfl rfl (any_of HT_.out (by kernel_rfl)) (fun _ _ _ h => h) (Or.inl ⟨by rfl, ?_⟩) ?_ ?_; rotate_left; (intro w'; go_simp; (with_reducible rfl)); rotate_left; (simp only [Act.put, zSA, zSB, zSC, i64_w, i32_w]; rfl)
              refine pure_ (i := 14) (N := some 31) (v := ?_) (a' := ?_) (bq 18 23295) rfl rfl (any_of HT_.out (by kernel_rfl)) (fun _ _ _ h => h) (Or.inl ⟨by rfl, ?_⟩) ?_ ?_; rotate_left; (intro w'; go_simp; (with_reducible rfl)); rotate_left; (simp only [Act.put, zSA, zSB, zSC, i64_w, i32_w]; rfl)
              refine take_ (i := 8) (N := some 25) (v := ?_) (a' := ?_) (bq 18 23551) rfl rfl (take_ofW HT_.out HW_.out (by kernel_rfl)) (fun _ _ _ h => h) (Or.inl ⟨by rfl, ?_⟩) hHeld ?_ ?_; rotate_left; (rintro w' ⟨s0, s1⟩; go_simp; (with_reducible rfl)); rotate_left; (simp only [Act.put, zSA, zSB, zSC, i64_w, i32_w]; rfl)
              refine take_ (i := 10) (N := some 27) (v := ?_) (a' := ?_) (bq 18 24575) rfl rfl (take_ofW HT_.out HW_.out (by kernel_rfl)) (fun _ _ _ h => h) (Or.inl ⟨by rfl, ?_⟩) hHeld ?_ ?_; rotate_left; (rintro w' ⟨s0, s1⟩; go_simp; (with_reducible rfl)); rotate_left; (simp only [Act.put, zSA, zSB, zSC, i64_w, i32_w]; rfl)
              refine take_ (i := 13) (N := some 30) (v := ?_) (a' := ?_) (bq 18 32767) rfl rfl (take_ofW HT_.out HW_.out (by kernel_rfl)) (fun _ _ _ h => h) (Or.inl ⟨by rfl, ?_⟩) hHeld ?_ ?_; rotate_left; (rintro w' ⟨s0, s1⟩; go_simp; (with_reducible rfl)); rotate_left; (simp only [Act.put, zSA, zSB, zSC, i64_w, i32_w]; rfl)
              refine take_ (i := 15) (N := some 32) (v := ?_) (a' := ?_) (bq 18 65535) rfl rfl (take_ofW HT_.out HW_.out (by kernel_rfl)) (fun _ _ _ h => h) (Or.inl ⟨by rfl, ?_⟩) hHeld ?_ ?_; rotate_left; (rintro w' ⟨s0, s1⟩; go_simp; (with_reducible rfl)); rotate_left; (simp only [Act.put, zSA, zSB, zSC, i64_w, i32_w]; rfl)
              refine pure_ (i := 16) (N := some 33) (v := ?_) (a' := ?_) (bq 18 131071) rfl rfl (any_of HT_.out (by kernel_rfl)) (fun _ _ _ h => h) (Or.inl ⟨by rfl, ?_⟩) ?_ ?_; rotate_left; (intro w'; go_simp; (with_reducible rfl)); rotate_left; (simp only [Act.put, zSA, zSB, zSC, i64_w, i32_w]; rfl)
              refine pure_ (i := 17) (N := some 34) (v := ?_) (a' := ?_) (bq 18 262143) rfl rfl (any_of HT_.out (by kernel_rfl)) (fun _ _ _ h => h) (Or.inl ⟨by rfl, ?_⟩) ?_ ?_; rotate_left; (intro w'; go_simp; (with_reducible rfl)); rotate_left; (simp only [Act.put, zSA, zSB, zSC, i64_w, i32_w]; rfl)
              refine done_ (done_of HT_.out (by kernel_rfl)) ?_
              try go_wp2
              go_meet
              case rel => exact ⟨_, (x9_2), (by first | rfl | (simp; done) | (simp [*]; done)), H', ⟨by have := HK1.out; have := HK2.out; first | omega | exact Nat.le_refl _⟩, ⟨by (with_reducible repeat (first | apply Kd.R_alloc | apply Kd.R_drewN | apply Kd.R_drew)); exact HO_0.out⟩, ⟨by (with_reducible repeat (first | apply Kd.V_alloc | apply Kd.V_drewN | apply Kd.V_drew)); exact HO_1.out⟩, ⟨by repeat (first | (with_reducible first | exact HK.out | apply Kept.alloc | apply Kept.drewN | apply Kept.drew) | exact HK.out)⟩, ⟨by repeat (first | (with_reducible first | exact HB.out | apply below_alloc | apply pw_below_drewN | apply below_drew1) | exact HB.out)⟩⟩
            ·
             rw [if_neg c14] at H
             exact absurd H (by simp)
           ·
            rw [if_neg c13] at H
            exact absurd H (by simp)
          ·
           rw [if_neg c11] at H
           exact absurd H (by simp)
         ·
          rw [if_neg c10] at H
          exact absurd H (by simp)
        ·
         rw [if_neg c9] at H
         exact absurd H (by simp)
       ·
        rw [if_neg c8] at H
        have c8b0 : decide (x9_2 < (x1_1.length : Int)) = false := decide_eq_false c8
        clear c8
        (first | rw [c8b0] | (simp only [i64_w, i32_w]; rw [c8b0]) | skip)
        have H' := aM H
        clear H
        try go_wp2
        have n0_ := aM (Kd.R_drew HO_0.out)
        have n1_ := aM (Kd.V_drew HO_1.out)
        have n2_ := aM (Kept.drew HK.out)
        have n3_ := aM (below_drew1 HB.out)
        clear HO_0
        clear HO_1
        clear HK
        clear HB
        have HO_0 := n0_
        have HO_1 := n1_
        have HK := n2_
        have HB := n3_
        clear n0_ n1_ n2_ n3_
        refine start_ (n := 18) (S := fun w' => True) (ds := []) (bq 18 0) (by kernel_rfl) rfl (by kernel_rfl) trivial (fun hHeld => ?_); refine with_tabW impl_grow.tab3 impl_grow.bits3 (fun HT_ HW_ => ?_)
        generalize wr.drew = w19 at HO_0 HO_1 HK HB hHeld ⊢
        refine pure_ (i := 0) (N := some 17) (v := ?_) (a' := ?_) (bq 18 1) rfl rfl (any_of HT_.out (by kernel_rfl)) (fun _ _ _ h => h) (Or.inl ⟨by rfl, ?_⟩) ?_ ?_; rotate_left; (intro w'; go_simp; (with_reducible rfl)); rotate_left; (simp only [Act.put, zSA, zSB, zSC, i64_w, i32_w]; rfl)
        refine pure_ (i := 1) (N := some 18) (v := ?_) (a' := ?_) (bq 18 3) rfl rfl (any_of HT_.out (by kernel_rfl)) (fun _ _ _ h => h) (Or.inl ⟨by rfl, ?_⟩) ?_ ?_; rotate_left; (intro w'; go_simp; (with_reducible rfl)); rotate_left; (simp only [Act.put, zSA, zSB, zSC, i64_w, i32_w]; rfl)
        refine pure_ (i := 2) (N := some 19) (v := ?_) (a' := ?_) (bq 18 7) rfl rfl (any_of HT_.out (by kernel_rfl)) (fun _ _ _ h => h) (Or.inl ⟨by rfl, ?_⟩) ?_ ?_; rotate_left; (intro w'; go_simp; (with_reducible rfl)); rotate_left; (simp only [Act.put, zSA, zSB, zSC, i64_w, i32_w]; rfl)
        refine pure_ (i := 3) (N := some 20) (v := ?_) (a' := ?_) (bq 18 15) rfl rfl (any_of HT_.out (by kernel_rfl)) (fun _ _ _ h => h) (Or.inl ⟨by rfl, ?_⟩) ?_ ?_; rotate_left; (intro w'; go_simp; (with_reducible rfl)); rotate_left; (simp only [Act.put, zSA, zSB, zSC, i64_w, i32_w]; rfl)
        refine pure_ (i := 4) (N := some 21) (v := ?_) (a' := ?_) (bq 18 31) rfl rfl (any_of HT_.out (by kernel_rfl)) (fun _ _ _ h => h) (Or.inl ⟨by rfl, ?_⟩) ?_ ?_; rotate_left; (intro w'; go_simp; (with_reducible rfl)); rotate_left; (simp only [Act.put, zSA, zSB, zSC, i64_w, i32_w]; rfl)
        refine pure_ (i := 5) (N := some 22) (v := undef) (a' := ?_) (bq 18 63) rfl rfl (any_of HT_.out (by kernel_rfl)) (fun _ _ _ h => h) (Or.inr ⟨by rfl, rfl⟩) ?_ ?_
        rotate_left
        ·
         simp only [Act.put, zSA, zSB, zSC, i64_w, i32_w]
         rfl
        refine pure_ (i := 6) (N := some 23) (v := undef) (a' := ?_) (bq 18 127) rfl rfl (any_of HT_.out (by kernel_rfl)) (fun _ _ _ h => h) (Or.inr ⟨by rfl, rfl⟩) ?_ ?_
        rotate_left
        ·
         simp only [Act.put, zSA, zSB, zSC, i64_w, i32_w]
         rfl
        refine pure_ (i := 7) (N := some 24) (v := undef) (a' := ?_) (bq 18 255) rfl rfl (any_of HT_.out (by kernel_rfl)) (fun _ _ _ h => h) (Or.inr ⟨by rfl, rfl⟩) ?_ ?_
        rotate_left
        ·
         simp only [Act.put, zSA, zSB, zSC, i64_w, i32_w]
         rfl
        refine pure_ (i := 8) (N := some 25) (v := undef) (a' := ?_) (bq 18 511) rfl rfl (any_of HT_.out (by kernel_rfl)) (fun _ _ _ h => h) (Or.inr ⟨by rfl, rfl⟩) ?_ ?_
        rotate_left
        ·
         simp only [Act.put, zSA, zSB, zSC, i64_w, i32_w]
         rfl
        refine pure_ (i := 9) (N := some 26) (v := undef) (a' := ?_) (bq 18 1023) rfl rfl (any_of HT_.out (by kernel_rfl)) (fun _ _ _ h => h) (Or.inr ⟨by rfl, rfl⟩) ?_ ?_
        rotate_left
        ·
         simp only [Act.put, zSA, zSB, zSC, i64_w, i32_w]
         rfl
        refine pure_ (i := 10) (N := some 27) (v := undef) (a' := ?_) (bq 18 2047) rfl rfl (any_of HT_.out (by kernel_rfl)) (fun _ _ _ h => h) (Or.inr ⟨by rfl, rfl⟩) ?_ ?_
        rotate_left
        ·
         simp only [Act.put, zSA, zSB, zSC, i64_w, i32_w]
         rfl
        refine pure_ (i := 11) (N := some 28) (v := undef) (a' := ?_) (bq 18 4095) rfl rfl (any_of HT_.out (by kernel_rfl)) (fun _ _ _ h => h) (Or.inr ⟨by rfl, rfl⟩) ?_ ?_
        rotate_left
        ·
         simp only [Act.put, zSA, zSB, zSC, i64_w, i32_w]
         rfl
        refine pure_ (i := 12) (N := some 29) (v := undef) (a' := ?_) (bq 18 8191) rfl rfl (any_of HT_.out (by kernel_rfl)) (fun _ _ _ h => h) (Or.inr ⟨by rfl, rfl⟩) ?_ ?_
        rotate_left
        ·
         simp only [Act.put, zSA, zSB, zSC, i64_w, i32_w]
         rfl
        refine pure_ (i := 13) (N := some 30) (v := undef) (a' := ?_) (bq 18 16383) rfl rfl (any_of HT_.out (by kernel_rfl)) (fun _ _ _ h => h) (Or.inr ⟨by rfl, rfl⟩) ?_ ?_
        rotate_left
        ·
         simp only [Act.put, zSA, zSB, zSC, i64_w, i32_w]
         rfl
        refine pure_ (i := 14) (N := some 31) (v := undef) (a' := ?_) (bq 18 32767) rfl rfl (any_of HT_.out (by kernel_rfl)) (fun _ _ _ h => h) (Or.inr ⟨by rfl, rfl⟩) ?_ ?_
        rotate_left
        ·
         simp only [Act.put, zSA, zSB, zSC, i64_w, i32_w]
         rfl
        refine pure_ (i := 15) (N := some 32) (v := undef) (a' := ?_) (bq 18 65535) rfl rfl (any_of HT_.out (by kernel_rfl)) (fun _ _ _ h => h) (Or.inr ⟨by rfl, rfl⟩) ?_ ?_
        rotate_left
        ·
         simp only [Act.put, zSA, zSB, zSC, i64_w, i32_w]
         rfl
        refine pure_ (i := 16) (N := some 33) (v := undef) (a' := ?_) (bq 18 131071) rfl rfl (any_of HT_.out (by kernel_rfl)) (fun _ _ _ h => h) (Or.inr ⟨by rfl, rfl⟩) ?_ ?_
        rotate_left
        ·
         simp only [Act.put, zSA, zSB, zSC, i64_w, i32_w]
         rfl
        refine pure_ (i := 17) (N := some 34) (v := ?_) (a' := ?_) (bq 18 262143) rfl rfl (any_of HT_.out (by kernel_rfl)) (fun _ _ _ h => h) (Or.inl ⟨by rfl, ?_⟩) ?_ ?_; rotate_left; (intro w'; go_simp; (with_reducible rfl)); rotate_left; (simp only [Act.put, zSA, zSB, zSC, i64_w, i32_w]; rfl)
        refine done_ (done_of HT_.out (by kernel_rfl)) ?_
        try go_wp2
        go_meet
        case rel => exact ⟨_, (x9_2), (by first | rfl | (simp; done) | (simp [*]; done)), H', ⟨by have := HK1.out; have := HK2.out; first | omega | exact Nat.le_refl _⟩, ⟨by (with_reducible repeat (first | apply Kd.R_alloc | apply Kd.R_drewN | apply Kd.R_drew)); exact HO_0.out⟩, ⟨by (with_reducible repeat (first | apply Kd.V_alloc | apply Kd.V_drewN | apply Kd.V_drew)); exact HO_1.out⟩, ⟨by repeat (first | (with_reducible first | exact HK.out | apply Kept.alloc | apply Kept.drewN | apply Kept.drew) | exact HK.out)⟩, ⟨by repeat (first | (with_reducible first | exact HB.out | apply below_alloc | apply pw_below_drewN | apply below_drew1) | exact HB.out)⟩⟩
    case rest =>
     clear HC6
     try clear c1
     try clear p1
     try clear q1
     try clear hx1
     try clear qi1
     try clear p2
     try clear c5
     try clear c5b0
     try clear c5b1
     try clear p6
     try clear c7
     try clear c8
     try clear c8b0
     try clear c9
     try clear c9b0
     try clear c10
     try clear c10b0
     try clear p10
     try clear q10
     try clear hx10
     try clear qi10
     try clear c11
     try clear c11b0
     try clear p12
     try clear q12
     try clear hx12
     try clear c13
     try clear c13b0
     try clear c13b1
     try clear c14
     try clear c14b0
     try clear p15
     try clear q15
     try clear hx15
     try clear c16
     try clear c16b0
     try clear c16b1
     try clear hx102_0
     try clear hx103_0
     try clear p102
     try clear p103
     try clear p12
     try clear p15
     try clear p2
     try clear q102
     try clear q103
     try clear q12
     try clear q15
     obtain ⟨kq, x9_5, rfl, HA, HJ5, HO_0, HO_1, HK, HB⟩ := hcut
     cases kq with
     | zero => exact absurd HA.out (by simp [impl_grow.j2])
     | succ kj5 =>
      have H := HA.out
      clear HA
      simp only [impl_grow.j2] at H
      by_cases c20 : 0 < (x1_1.length : Int)
      ·
       rw [if_pos c20] at H
       have c20b0 : decide (0 < (x1_1.length : Int)) = true := decide_eq_true c20
       have c20b1 : decide (0 < x1_1.length) = true := decide_eq_true (by omega)
       clear c20
       by_cases c21 : 0 ≤ a2
       ·
        rw [if_pos c21] at H
        have c21b0 := eq_true c21
        have c21b1 : decide (0 ≤ a2) = true := decide_eq_true c21
        clear c21
        by_cases c22 : a2 ≤ ((rdOf ByteArray.empty x1_1 0).size : Int)
        ·
         rw [if_pos c22] at H
         have c22b0 := eq_true c22
         have c22b1 : decide (a2 ≤ ((rdOf ByteArray.empty x1_1 0).size : Int)) = true := decide_eq_true c22
         clear c22
         obtain ⟨ji23, hji23⟩ : ∃ j_ : Int, (wrap64 (x9_5 - 1)) = j_ := ⟨_, rfl⟩
         replace H : (if 0 ≤ (ji23) then (if (ji23) < (x1_1.length : Int) then (if a2 ≤ ((rdOf ByteArray.empty x1_1 (ji23)).size : Int) then ((impl_common.f kj5 ((rdOf ByteArray.empty x1_1 0).extract (a2 : Int).toNat (rdOf ByteArray.empty x1_1 0).size) ((rdOf ByteArray.empty x1_1 (ji23)).extract (a2 : Int).toNat (rdOf ByteArray.empty x1_1 (ji23)).size)).bind fun t106 => (if a2 ≤ (wrap64 (a2 + t106)) then (if (wrap64 (a2 + t106)) ≤ ((rdOf ByteArray.empty x1_1 0).size : Int) then (if x0_1.length < 4398046511104 then ((some (x0_1 ++ [(⟨(rdOf ByteArray.empty x1_1 0).extract (a2 : Int).toNat ((wrap64 (a2 + t106)) : Int).toNat, (((rdOf ByteArray.empty x1_1 0).size : Int) == (wrap64 (a2 + t106))), a3⟩ : S64)] : List (S64))).bind fun y109 => (if 0 ≤ x9_5 then (if x9_5 ≤ (x1_1.length : Int) then ((some (x1_1.take (x9_5 : Int).toNat : List ByteArray)).bind fun y112 => (if 0 ≤ (x0_1.length : Int) then (if (x0_1.length : Int) < (y109.length : Int) then (if (rd_T64 y109 (x0_1.length : Int)).f1 = true then (if 1 ≤ (y112.length : Int) then ((impl_grow.f kj5 y109 (y112.drop 1) (wrap64 (a2 + t106)) (x0_1.length : Int)).bind fun t123 => (impl_grow.l0 kj5 t123 (x1_1.drop (x9_5 : Int).toNat) a2 a3)) else (none)) else ((impl_grow.f kj5 y109 y112 (wrap64 (a2 + t106)) (x0_1.length : Int)).bind fun t131 => (impl_grow.l0 kj5 t131 (x1_1.drop (x9_5 : Int).toNat) a2 a3))) else (none)) else (none))) else (none)) else (none))) else (none)) else (none)) else (none))) else (none)) else (none)) else (none)) = some r := by first | (rw [hji23] at H; exact H) | (simp only [hji23] at H ⊢; exact H)
         have hji23w : (IntKind.i64.wrap (x9_5 - 1)) = ji23 := (i64_w _).trans hji23
         by_cases c24 : 0 ≤ (ji23)
         ·
          rw [if_pos c24] at H
          have c24b0 : decide (0 ≤ (ji23)) = true := decide_eq_true c24
          clear c24
          by_cases c25 : (ji23) < (x1_1.length : Int)
          ·
           rw [if_pos c25] at H
           have c25b0 : decide ((ji23) < (x1_1.length : Int)) = true := decide_eq_true c25
           clear c25
           have c26b0 := eq_true (of_decide_eq_true (by first | (with_reducible assumption) | assumption) : 0 ≤ a2)
           by_cases c27 : a2 ≤ ((rdOf ByteArray.empty x1_1 (ji23)).size : Int)
           ·
            rw [if_pos c27] at H
            have c27b0 := eq_true c27
            have c27b1 : decide (a2 ≤ ((rdOf ByteArray.empty x1_1 (ji23)).size : Int)) = true := decide_eq_true c27
            clear c27
            replace H := Option.bind_eq_some_iff.mp H
            obtain ⟨t106, A280, H⟩ := H
            replace H : (if a2 ≤ (wrap64 (a2 + t106)) then (if (wrap64 (a2 + t106)) ≤ ((rdOf ByteArray.empty x1_1 0).size : Int) then (if x0_1.length < 4398046511104 then ((some (x0_1 ++ [(⟨(rdOf ByteArray.empty x1_1 0).extract (a2 : Int).toNat ((wrap64 (a2 + t106)) : Int).toNat, (((rdOf ByteArray.empty x1_1 0).size : Int) == (wrap64 (a2 + t106))), a3⟩ : S64)] : List (S64))).bind fun y109 => (if 0 ≤ x9_5 then (if x9_5 ≤ (x1_1.length : Int) then ((some (x1_1.take (x9_5 : Int).toNat : List ByteArray)).bind fun y112 => (if 0 ≤ (x0_1.length : Int) then (if (x0_1.length : Int) < (y109.length : Int) then (if (rd_T64 y109 (x0_1.length : Int)).f1 = true then (if 1 ≤ (y112.length : Int) then ((impl_grow.f kj5 y109 (y112.drop 1) (wrap64 (a2 + t106)) (x0_1.length : Int)).bind fun t123 => (impl_grow.l0 kj5 t123 (x1_1.drop (x9_5 : Int).toNat) a2 a3)) else (none)) else ((impl_grow.f kj5 y109 y112 (wrap64 (a2 + t106)) (x0_1.length : Int)).bind fun t131 => (impl_grow.l0 kj5 t131 (x1_1.drop (x9_5 : Int).toNat) a2 a3))) else (none)) else (none))) else (none)) else (none))) else (none)) else (none)) else (none)) = some r := H
            have A28 := aM A280
            clear A280
            have c29b0 := eq_true (of_decide_eq_true (by first | (with_reducible assumption) | assumption) : 0 ≤ a2)
            by_cases c30 : a2 ≤ (wrap64 (a2 + t106))
            ·
             rw [if_pos c30] at H
             have c30b0 := eq_true c30
             have c30b1 : decide (a2 ≤ (wrap64 (a2 + t106))) = true := decide_eq_true c30
             by_cases c31 : (wrap64 (a2 + t106)) ≤ ((rdOf ByteArray.empty x1_1 0).size : Int)
             ·
              rw [if_pos c31] at H
              have c31b0 := eq_true c31
              have c31b1 : decide ((wrap64 (a2 + t106)) ≤ ((rdOf ByteArray.empty x1_1 0).size : Int)) = true := decide_eq_true c31
              by_cases c32 : x0_1.length < 4398046511104
              ·
               rw [if_pos c32] at H
               have LMc32 := aM c32
               clear c32
               obtain ⟨y109, hy109⟩ : ∃ y_ : List (S64), y_ = (x0_1 ++ [(⟨(rdOf ByteArray.empty x1_1 0).extract (a2 : Int).toNat ((wrap64 (a2 + t106)) : Int).toNat, (((rdOf ByteArray.empty x1_1 0).size : Int) == (wrap64 (a2 + t106))), a3⟩ : S64)]) := ⟨_, rfl⟩
               replace H : (if 0 ≤ x9_5 then (if x9_5 ≤ (x1_1.length : Int) then ((some (x1_1.take (x9_5 : Int).toNat : List ByteArray)).bind fun y112 => (if 0 ≤ (x0_1.length : Int) then (if (x0_1.length : Int) < (y109.length : Int) then (if (rd_T64 y109 (x0_1.length : Int)).f1 = true then (if 1 ≤ (y112.length : Int) then ((impl_grow.f kj5 y109 (y112.drop 1) (wrap64 (a2 + t106)) (x0_1.length : Int)).bind fun t123 => (impl_grow.l0 kj5 t123 (x1_1.drop (x9_5 : Int).toNat) a2 a3)) else (none)) else ((impl_grow.f kj5 y109 y112 (wrap64 (a2 + t106)) (x0_1.length : Int)).bind fun t131 => (impl_grow.l0 kj5 t131 (x1_1.drop (x9_5 : Int).toNat) a2 a3))) else (none)) else (none))) else (none)) else (none)) = some r := by first | (rw [hy109]; with_reducible exact H) | (have H2_ := (Option.bind_some _ _).symm.trans H; rw [hy109]; with_reducible exact H2_) | (have H2_ := (Option.bind_some _ _).symm.trans H; with_reducible exact H2_) | with_reducible exact H | (rw [hy109]; exact H) | exact H
               have Ny109 := aM hy109
               clear hy109
               by_cases c33 : 0 ≤ x9_5
               ·
                rw [if_pos c33] at H
                have c33b0 := eq_true c33
                have c33b1 : decide (0 ≤ x9_5) = true := decide_eq_true c33
                clear c33
                by_cases c34 : x9_5 ≤ (x1_1.length : Int)
                ·
                 rw [if_pos c34] at H
                 have c34b0 := eq_true c34
                 have c34b1 : decide (x9_5 ≤ (x1_1.length : Int)) = true := decide_eq_true c34
                 clear c34
                 obtain ⟨y112, hy112⟩ : ∃ y_ : List ByteArray, y_ = (x1_1.take (x9_5 : Int).toNat) := ⟨_, rfl⟩
                 replace H : (if 0 ≤ (x0_1.length : Int) then (if (x0_1.length : Int) < (y109.length : Int) then (if (rd_T64 y109 (x0_1.length : Int)).f1 = true then (if 1 ≤ (y112.length : Int) then ((impl_grow.f kj5 y109 (y112.drop 1) (wrap64 (a2 + t106)) (x0_1.length : Int)).bind fun t123 => (impl_grow.l0 kj5 t123 (x1_1.drop (x9_5 : Int).toNat) a2 a3)) else (none)) else ((impl_grow.f kj5 y109 y112 (wrap64 (a2 + t106)) (x0_1.length : Int)).bind fun t131 => (impl_grow.l0 kj5 t131 (x1_1.drop (x9_5 : Int).toNat) a2 a3))) else (none)) else (none)) = some r := by first | (rw [hy112]; with_reducible exact H) | (have H2_ := (Option.bind_some _ _).symm.trans H; rw [hy112]; with_reducible exact H2_) | (have H2_ := (Option.bind_some _ _).symm.trans H; with_reducible exact H2_) | with_reducible exact H | (rw [hy112]; exact H) | exact H
                 have Ny112 := aM hy112
                 clear hy112
                 by_cases c35 : 0 ≤ (x0_1.length : Int)
                 ·
                  rw [if_pos c35] at H
                  have c35b0 : decide (0 ≤ (x0_1.length : Int)) = true := decide_eq_true c35
                  have c35b1 : decide (0 ≤ x0_1.length) = true := decide_eq_true (by omega)
                  clear c35
                  by_cases c36 : (x0_1.length : Int) < (y109.length : Int)
                  ·
                   rw [if_pos c36] at H
                   have c36b0 : decide ((x0_1.length : Int) < (y109.length : Int)) = true := decide_eq_true c36
                   have c36b1 : decide (x0_1.length < y109.length) = true := decide_eq_true (Int.ofNat_lt.mp c36)
                   clear c36
                   obtain ⟨bq37, hbq37⟩ : ∃ b_ : Bool, b_ = ((rd_T64 y109 (x0_1.length : Int)).f1) := ⟨_, rfl⟩
                   replace H : (if bq37 = true then (if 1 ≤ (y112.length : Int) then ((impl_grow.f kj5 y109 (y112.drop 1) (wrap64 (a2 + t106)) (x0_1.length : Int)).bind fun t123 => (impl_grow.l0 kj5 t123 (x1_1.drop (x9_5 : Int).toNat) a2 a3)) else (none)) else ((impl_grow.f kj5 y109 y112 (wrap64 (a2 + t106)) (x0_1.length : Int)).bind fun t131 => (impl_grow.l0 kj5 t131 (x1_1.drop (x9_5 : Int).toNat) a2 a3))) = some r := by rw [← hbq37] at H; exact H
                   have Nbq37 := aM hbq37
                   clear hbq37
                   by_cases c38 : bq37 = true
                   ·
                    subst c38
                    have H1 : (if 1 ≤ (y112.length : Int) then ((impl_grow.f kj5 y109 (y112.drop 1) (wrap64 (a2 + t106)) (x0_1.length : Int)).bind fun t123 => (impl_grow.l0 kj5 t123 (x1_1.drop (x9_5 : Int).toNat) a2 a3)) else (none)) = some r := by rw [if_pos rfl] at H; exact H
                    clear H
                    have H := H1
                    clear H1
                    by_cases c39 : 1 ≤ (y112.length : Int)
                    ·
                     rw [if_pos c39] at H
                     have c39b0 := eq_true c39
                     have c39b1 : decide (1 ≤ (y112.length : Int)) = true := decide_eq_true c39
                     clear c39
                     obtain ⟨y118, hy118⟩ : ∃ y_ : List ByteArray, y_ = (y112.drop 1) := ⟨_, rfl⟩
                     replace H : ((impl_grow.f kj5 y109 y118 (wrap64 (a2 + t106)) (x0_1.length : Int)).bind fun t123 => (impl_grow.l0 kj5 t123 (x1_1.drop (x9_5 : Int).toNat) a2 a3)) = some r := by first | (rw [hy118]; with_reducible exact H) | (have H2_ := (Option.bind_some _ _).symm.trans H; rw [hy118]; with_reducible exact H2_) | (have H2_ := (Option.bind_some _ _).symm.trans H; with_reducible exact H2_) | with_reducible exact H | (rw [hy118]; exact H) | exact H
                     have Ny118 := aM hy118
                     clear hy118
                     replace H := Option.bind_eq_some_iff.mp H
                     obtain ⟨t123, A400, H⟩ := H
                     replace H : (impl_grow.l0 kj5 t123 (x1_1.drop (x9_5 : Int).toNat) a2 a3) = some r := H
                     have A40 := aM A400
                     clear A400
                     have c41b0 := eq_true (of_decide_eq_true (by first | (with_reducible assumption) | assumption) : 0 ≤ x9_5)
                     have c42b0 := eq_true (of_decide_eq_true (by first | (with_reducible assumption) | assumption) : x9_5 ≤ (x1_1.length : Int))
                     obtain ⟨y126, hy126⟩ : ∃ y_ : List ByteArray, y_ = (x1_1.drop (x9_5 : Int).toNat) := ⟨_, rfl⟩
                     replace H : (impl_grow.l0 kj5 t123 y126 a2 a3) = some r := by first | (rw [hy126]; with_reducible exact H) | (have H2_ := (Option.bind_some _ _).symm.trans H; rw [hy126]; with_reducible exact H2_) | (have H2_ := (Option.bind_some _ _).symm.trans H; with_reducible exact H2_) | with_reducible exact H | (rw [hy126]; exact H) | exact H
                     have Ny126 := aM hy126
                     clear hy126
                     have H' := aM H
                     clear H
                     try go_wp2
                     have n0_ := aM (Kd.R_drew HO_0.out)
                     have n1_ := aM (Kd.V_drew HO_1.out)
                     have n2_ := aM (Kept.drew HK.out)
                     have n3_ := aM (below_drew1 HB.out)
                     clear HO_0
                     clear HO_1
                     clear HK
                     clear HB
                     have HO_0 := n0_
                     have HO_1 := n1_
                     have HK := n2_
                     have HB := n3_
                     clear n0_ n1_ n2_ n3_
                     have p104 : 0 ≤ (0 : Int) := (by omega)
                     have q104 : 0 < (x1_1.length : Int) := of_decide_eq_true (by first | (with_reducible assumption) | assumption)
                     obtain ⟨ad104, e104, hx104_0⟩ := Kd.at_string (Kd.V_reads' HO_1.out).2.2 0 p104 q104
                     cases e104
                     have qi104 : (0 < x1_1.length) = True := eq_true (by omega)
                     (try rw [show ((0 : Int)).toNat = 0 from rfl] at hx104_0)
                     (try rw [Addr.add_zero'] at hx104_0)
                     replace p104 := eq_true p104
                     replace q104 := eq_true q104
                     have p105 : 0 ≤ ((ji23) : Int) := of_decide_eq_true (by first | (with_reducible assumption) | assumption)
                     have q105 : (ji23) < (x1_1.length : Int) := of_decide_eq_true (by first | (with_reducible assumption) | assumption)
                     obtain ⟨ad105, e105, hx105_0⟩ := Kd.at_string (Kd.V_reads' HO_1.out).2.2 (ji23) p105 q105
                     obtain rfl : ad104 = ad105 := (by injection e105)
                     replace p105 := eq_true p105
                     replace q105 := eq_true q105
                     refine start_ (n := 14) (S := fun w' => w'.cell? ad104 = some (.string (rdOf ByteArray.empty x1_1 0)) ∧ w'.cell? (ad104.add ((ji23)).toNat) = some (.string (rdOf ByteArray.empty x1_1 (ji23)))) (ds := []) (bq 14 0) (by kernel_rfl) rfl (by kernel_rfl) ⟨hx104_0, hx105_0⟩ (fun hHeld => ?_); refine with_tabW impl_grow.tab5 impl_grow.bits5 (fun HT_ HW_ => ?_)
                     generalize wc.drew = w43 at HO_0 HO_1 HK HB hx104_0 hx105_0 hHeld ⊢
                     refine pure_ (i := 0) (N := some 37) (v := ?_) (a' := ?_) (bq 14 1) rfl rfl (any_of HT_.out (by kernel_rfl)) (fun _ _ _ h => h) (Or.inl ⟨by rfl, ?_⟩) ?_ ?_; rotate_left; (intro w'; go_simp; (with_reducible rfl)); rotate_left; (simp only [Act.put, zSA, zSB, zSC, i64_w, i32_w]; rfl)
                     refine pure_ (i := 1) (N := some 38) (v := ?_) (a' := ?_) (bq 14 3) rfl rfl (any_of HT_.out (by kernel_rfl)) (fun _ _ _ h => h) (Or.inl ⟨by rfl, ?_⟩) ?_ ?_; rotate_left; (intro w'; go_simp; (with_reducible rfl)); rotate_left; (simp only [Act.put, zSA, zSB, zSC, i64_w, i32_w]; rfl)
                     refine pure_ (i := 3) (N := some 40) (v := ?_) (a' := ?_) (bq 14 11) rfl rfl (any_of HT_.out (by kernel_rfl)) (fun _ _ _ h => h) (Or.inl ⟨by rfl, ?_⟩) ?_ ?_; rotate_left; (intro w'; go_simp; (with_reducible rfl)); rotate_left; (simp only [Act.put, zSA, zSB, zSC, i64_w, i32_w]; rfl)
                     refine pure_ (i := 5) (N := some 42) (v := ?_) (a' := ?_) (bq 14 43) rfl rfl (any_of HT_.out (by kernel_rfl)) (fun _ _ _ h => h) (Or.inl ⟨by rfl, ?_⟩) ?_ ?_; rotate_left; (intro w'; go_simp; (with_reducible rfl)); rotate_left; (simp only [Act.put, zSA, zSB, zSC, i64_w, i32_w]; rfl)
                     refine pure_ (i := 6) (N := some 43) (v := ?_) (a' := ?_) (bq 14 107) rfl rfl (any_of HT_.out (by kernel_rfl)) (fun _ _ _ h => h) (Or.inl ⟨by rfl, ?_⟩) ?_ ?_; rotate_left; (intro w'; go_simp; (with_reducible rfl)); rotate_left; (simp only [Act.put, zSA, zSB, zSC, i64_w, i32_w]; rfl)
                     refine pure_ (i := 7) (N := some 44) (v := ?_) (a' := ?_) (bq 14 235) rfl rfl (any_of HT_.out (by kernel_rfl)) (fun _ _ _ h => h) (Or.inl ⟨by rfl, ?_⟩) ?_ ?_; rotate_left; (intro w'; go_simp; (with_reducible rfl)); rotate_left; (simp only [Act.put, zSA, zSB, zSC, i64_w, i32_w]; rfl)
                     refine pure_ (i := 8) (N := some 45) (v := ?_) (a' := ?_) (bq 14 491) rfl rfl (any_of HT_.out (by kernel_rfl)) (fun _ _ _ h => h) (Or.inl ⟨by rfl, ?_⟩) ?_ ?_; rotate_left; (intro w'; go_simp; (with_reducible rfl)); rotate_left; (simp only [Act.put, zSA, zSB, zSC, i64_w, i32_w]; rfl)
                     refine pure_ (i := 10) (N := some 47) (v := ?_) (a' := ?_) (bq 14 1515) rfl rfl (any_of HT_.out (by kernel_rfl)) (fun _ _ _ h => h) (Or.inl ⟨by rfl, ?_⟩) ?_ ?_; rotate_left; (intro w'; go_simp; (with_reducible rfl)); rotate_left; (simp only [Act.put, zSA, zSB, zSC, i64_w, i32_w]; rfl)
                     refine take_ (i := 2) (N := some 39) (v := ?_) (a' := ?_) (bq 14 1519) rfl rfl (take_ofW HT_.out HW_.out (by kernel_rfl)) (fun _ _ _ h => h) (Or.inl ⟨by rfl, ?_⟩) hHeld ?_ ?_; rotate_left; (rintro w' ⟨s0, s1⟩; go_simp; (with_reducible rfl)); rotate_left; (simp only [Act.put, zSA, zSB, zSC, i64_w, i32_w]; rfl)
                     refine pure_ (i := 4) (N := some 41) (v := ?_) (a' := ?_) (bq 14 1535) rfl rfl (any_of HT_.out (by kernel_rfl)) (fun _ _ _ h => h) (Or.inl ⟨by rfl, ?_⟩) ?_ ?_; rotate_left; (intro w'; go_simp; (with_reducible rfl)); rotate_left; (simp only [Act.put, zSA, zSB, zSC, i64_w, i32_w]; rfl)
                     refine take_ (i := 9) (N := some 46) (v := ?_) (a' := ?_) (bq 14 2047) rfl rfl (take_ofW HT_.out HW_.out (by kernel_rfl)) (fun _ _ _ h => h) (Or.inl ⟨by rfl, ?_⟩) hHeld ?_ ?_; rotate_left; (rintro w' ⟨s0, s1⟩; go_simp; (with_reducible rfl)); rotate_left; (simp only [Act.put, zSA, zSB, zSC, i64_w, i32_w]; rfl)
                     refine pure_ (i := 11) (N := some 48) (v := ?_) (a' := ?_) (bq 14 4095) rfl rfl (any_of HT_.out (by kernel_rfl)) (fun _ _ _ h => h) (Or.inl ⟨by rfl, ?_⟩) ?_ ?_; rotate_left; (intro w'; go_simp; (with_reducible rfl)); rotate_left; (simp only [Act.put, zSA, zSB, zSC, i64_w, i32_w]; rfl)
                     refine one_ (i := 12) (N := some 49) (bq 14 8191) rfl rfl (one_of HT_.out (by kernel_rfl)) (by decide) (fun K hK => ?_)
                     refine goes_ Try.func96 (by kernel_rfl) rfl #[.string ((rdOf ByteArray.empty x1_1 0).extract (a2 : Int).toNat (rdOf ByteArray.empty x1_1 0).size), .string ((rdOf ByteArray.empty x1_1 (ji23)).extract (a2 : Int).toNat (rdOf ByteArray.empty x1_1 (ji23)).size)] (by rfl) rfl rfl (by (try simp only [List.map_toArray, List.map_cons, List.map_nil]); first | done | (simp only [hji23]; rfl) | rfl | (simp only [List.length_drop, List.length_take]; rfl)) ?_
                     with_reducible refine (impl_common.calls kj5 ((rdOf ByteArray.empty x1_1 0).extract (a2 : Int).toNat (rdOf ByteArray.empty x1_1 0).size) ((rdOf ByteArray.empty x1_1 (ji23)).extract (a2 : Int).toNat (rdOf ByteArray.empty x1_1 (ji23)).size) t106 _ A28.out).mono ?_
                     rintro e w' ⟨rfl, ⟨nd, rfl⟩⟩
                     refine ⟨_, rfl, ?_⟩
                     refine hK.out _ _ ⟨hHeld.1, hHeld.2⟩ (fun hHeld => ?_)
                     clear hK K
                     refine norm_ (a' := ?_) ?_ ?_
                     rotate_left
                     ·
                      show Act.put _ (some 49) _ = _
                      simp only [Act.put, zSA, zSB, zSC, i64_w, i32_w]
                      rfl
                     refine pure_ (i := 13) (N := some 10) (v := ?_) (a' := ?_) (bq 14 16383) rfl rfl (any_of HT_.out (by kernel_rfl)) (fun _ _ _ h => h) (Or.inl ⟨by rfl, ?_⟩) ?_ ?_; rotate_left; (intro w'; go_simp; (with_reducible rfl)); rotate_left; (simp only [Act.put, zSA, zSB, zSC, i64_w, i32_w]; rfl)
                     refine done_ (done_of HT_.out (by kernel_rfl)) ?_
                     obtain ⟨Ao44, co44, eo44⟩ := Kd.R_slice HO_0.out
                     subst eo44
                     try go_wp2
                     (try (rw [drewN_self w43]; generalize hq_ : World.drewN w43 _ = w43; have n0_ : Aside0 (Kd.R k64 64 w43 w0.heap.size (fun k_ => (P0_ k_ ∨ w.heap.size ≤ k_)) (.slice Ao44 x0_1.length co44) x0_1) := ⟨by rw [← hq_]; exact (by (with_reducible repeat (first | apply Kd.R_alloc | apply Kd.R_drewN | apply Kd.R_drew)); exact HO_0.out)⟩; have n1_ : Aside0 (Kd.V Kd.string 9 w43 w0.heap.size (fun k_ => ((P0_ k_ ∨ P1_ k_) ∨ w.heap.size ≤ k_) ∧ some k_ ≠ (.slice Ao44 x0_1.length co44 : Value).ownBlock) (.slice (some ad104) x1_1.length co7) x1_1) := ⟨by rw [← hq_]; exact (by (with_reducible repeat (first | apply Kd.V_alloc | apply Kd.V_drewN | apply Kd.V_drew)); exact HO_1.out)⟩; have n2_ : Aside0 (Kept w w43 (fun k_ => P0_ k_)) := ⟨by rw [← hq_]; exact (by repeat (first | (with_reducible first | exact HK.out | apply Kept.alloc | apply Kept.drewN | apply Kept.drew) | exact HK.out))⟩; have n3_ : Aside0 (Below w0.heap.size w0 w43) := ⟨by rw [← hq_]; exact (by repeat (first | (with_reducible first | exact HB.out | apply below_alloc | apply pw_below_drewN | apply below_drew1) | exact HB.out))⟩; clear HO_0 HO_1 HK HB hq_; have HO_0 := n0_; have HO_1 := n1_; have HK := n2_; have HB := n3_; clear n0_ n1_ n2_ n3_))
                     have n0_ := aM (Kd.R_drew HO_0.out)
                     have n1_ := aM (Kd.V_drew HO_1.out)
                     have n2_ := aM (Kept.drew HK.out)
                     have n3_ := aM (below_drew1 HB.out)
                     clear HO_0
                     clear HO_1
                     clear HK
                     clear HB
                     have HO_0 := n0_
                     have HO_1 := n1_
                     have HK := n2_
                     have HB := n3_
                     clear n0_ n1_ n2_ n3_
                     have p107 : 0 ≤ (0 : Int) := (by omega)
                     have q107 : 0 < (x1_1.length : Int) := of_decide_eq_true (by first | (with_reducible assumption) | assumption)
                     obtain ⟨ad107, e107, hx107_0⟩ := Kd.at_string (Kd.V_reads' HO_1.out).2.2 0 p107 q107
                     obtain rfl : ad104 = ad107 := (by injection e107)
                     have qi107 : (0 < x1_1.length) = True := eq_true (by omega)
                     (try rw [show ((0 : Int)).toNat = 0 from rfl] at hx107_0)
                     (try rw [Addr.add_zero'] at hx107_0)
                     replace p107 := eq_true p107
                     replace q107 := eq_true q107
                     have p108 : 0 ≤ (0 : Int) := (by omega)
                     have q108 : 0 < (x1_1.length : Int) := of_decide_eq_true (by first | (with_reducible assumption) | assumption)
                     obtain ⟨ad108, e108, hx108_0⟩ := Kd.at_string (Kd.V_reads' HO_1.out).2.2 0 p108 q108
                     obtain rfl : ad104 = ad108 := (by injection e108)
                     have qi108 : (0 < x1_1.length) = True := eq_true (by omega)
                     (try rw [show ((0 : Int)).toNat = 0 from rfl] at hx108_0)
                     (try rw [Addr.add_zero'] at hx108_0)
                     replace p108 := eq_true p108
                     replace q108 := eq_true q108
                     refine start_ (n := 18) (S := fun w' => w'.cell? ad104 = some (.string (rdOf ByteArray.empty x1_1 0)) ∧ w'.cell? ad104 = some (.string (rdOf ByteArray.empty x1_1 0))) (ds := [15, 16]) (bq 18 0) (by kernel_rfl) rfl (by kernel_rfl) ⟨hx107_0, hx108_0⟩ (fun hHeld => ?_); refine with_tabW impl_grow.tab8 impl_grow.bits8 (fun HT_ HW_ => ?_)
                     generalize w43.drew = w45 at HO_0 HO_1 HK HB hx107_0 hx108_0 hHeld ⊢
                     refine pure_ (i := 0) (N := some 55) (v := ?_) (a' := ?_) (bq 18 1) rfl rfl (any_of HT_.out (by kernel_rfl)) (fun _ _ _ h => h) (Or.inl ⟨by rfl, ?_⟩) ?_ ?_; rotate_left; (intro w'; go_simp; (with_reducible rfl)); rotate_left; (simp only [Act.put, zSA, zSB, zSC, i64_w, i32_w]; rfl)
                     refine pure_ (i := 1) (N := some 56) (v := ?_) (a' := ?_) (bq 18 3) rfl rfl (any_of HT_.out (by kernel_rfl)) (fun _ _ _ h => h) (Or.inl ⟨by rfl, ?_⟩) ?_ ?_; rotate_left; (intro w'; go_simp; (with_reducible rfl)); rotate_left; (simp only [Act.put, zSA, zSB, zSC, i64_w, i32_w]; rfl)
                     refine pure_ (i := 2) (N := some 57) (v := ?_) (a' := ?_) (bq 18 7) rfl rfl (any_of HT_.out (by kernel_rfl)) (fun _ _ _ h => h) (Or.inl ⟨by rfl, ?_⟩) ?_ ?_; rotate_left; (intro w'; go_simp; (with_reducible rfl)); rotate_left; (simp only [Act.put, zSA, zSB, zSC, i64_w, i32_w]; rfl)
                     refine pure_ (i := 4) (N := some 59) (v := ?_) (a' := ?_) (bq 18 23) rfl rfl (any_of HT_.out (by kernel_rfl)) (fun _ _ _ h => h) (Or.inl ⟨by rfl, ?_⟩) ?_ ?_; rotate_left; (intro w'; go_simp; (with_reducible rfl)); rotate_left; (simp only [Act.put, zSA, zSB, zSC, i64_w, i32_w]; rfl)
                     refine pure_ (i := 5) (N := some 60) (v := ?_) (a' := ?_) (bq 18 55) rfl rfl (any_of HT_.out (by kernel_rfl)) (fun _ _ _ h => h) (Or.inl ⟨by rfl, ?_⟩) ?_ ?_; rotate_left; (intro w'; go_simp; (with_reducible rfl)); rotate_left; (simp only [Act.put, zSA, zSB, zSC, i64_w, i32_w]; rfl)
                     refine pure_ (i := 7) (N := some 62) (v := ?_) (a' := ?_) (bq 18 183) rfl rfl (any_of HT_.out (by kernel_rfl)) (fun _ _ _ h => h) (Or.inl ⟨by rfl, ?_⟩) ?_ ?_; rotate_left; (intro w'; go_simp; (with_reducible rfl)); rotate_left; (simp only [Act.put, zSA, zSB, zSC, i64_w, i32_w]; rfl)
                     refine pure_ (i := 8) (N := some 63) (v := ?_) (a' := ?_) (bq 18 439) rfl rfl (any_of HT_.out (by kernel_rfl)) (fun _ _ _ h => h) (Or.inl ⟨by rfl, ?_⟩) ?_ ?_; rotate_left; (intro w'; go_simp; (with_reducible rfl)); rotate_left; (simp only [Act.put, zSA, zSB, zSC, i64_w, i32_w]; rfl)
                     refine pure_ (i := 11) (N := some 66) (v := ?_) (a' := ?_) (bq 18 2487) rfl rfl (any_of HT_.out (by kernel_rfl)) (fun _ _ _ h => h) (Or.inl ⟨by rfl, ?_⟩) ?_ ?_; rotate_left; (intro w'; go_simp; (with_reducible rfl)); rotate_left; (simp only [Act.put, zSA, zSB, zSC, i64_w, i32_w]; rfl)
                     refine pure_ (i := 13) (N := some 68) (v := ?_) (a' := ?_) (bq 18 10679) rfl rfl (any_of HT_.out (by kernel_rfl)) (fun _ _ _ h => h) (Or.inl ⟨by rfl, ?_⟩) ?_ ?_; rotate_left; (intro w'; go_simp; (with_reducible rfl)); rotate_left; (simp only [Act.put, zSA, zSB, zSC, i64_w, i32_w]; rfl)
                     refine take_ (i := 3) (N := some 58) (v := ?_) (a' := ?_) (bq 18 10687) rfl rfl (take_ofW HT_.out HW_.out (by kernel_rfl)) (fun _ _ _ h => h) (Or.inl ⟨by rfl, ?_⟩) hHeld ?_ ?_; rotate_left; (rintro w' ⟨s0, s1⟩; go_simp; (with_reducible rfl)); rotate_left; (simp only [Act.put, zSA, zSB, zSC, i64_w, i32_w]; rfl)
                     refine pure_ (i := 6) (N := some 61) (v := ?_) (a' := ?_) (bq 18 10751) rfl rfl (any_of HT_.out (by kernel_rfl)) (fun _ _ _ h => h) (Or.inl ⟨by rfl, ?_⟩) ?_ ?_; rotate_left; (intro w'; go_simp; (with_reducible rfl)); rotate_left; (simp only [Act.put, zSA, zSB, zSC, i64_w, i32_w]; rfl)
                     refine take_ (i := 9) (N := some 64) (v := ?_) (a' := ?_) (bq 18 11263) rfl rfl (take_ofW HT_.out HW_.out (by kernel_rfl)) (fun _ _ _ h => h) (Or.inl ⟨by rfl, ?_⟩) hHeld ?_ ?_; rotate_left; (rintro w' ⟨s0, s1⟩; go_simp; (with_reducible rfl)); rotate_left; (simp only [Act.put, zSA, zSB, zSC, i64_w, i32_w]; rfl)
                     refine pure_ (i := 10) (N := some 65) (v := ?_) (a' := ?_) (bq 18 12287) rfl rfl (any_of HT_.out (by kernel_rfl)) (fun _ _ _ h => h) (Or.inl ⟨by rfl, ?_⟩) ?_ ?_; rotate_left; (intro w'; go_simp; (with_reducible rfl)); rotate_left; (simp only [Act.put, zSA, zSB, zSC, i64_w, i32_w]; rfl)
                     refine pure_ (i := 12) (N := some 67) (v := ?_) (a' := ?_) (bq 18 16383) rfl rfl (any_of HT_.out (by kernel_rfl)) (fun _ _ _ h => h) (Or.inl ⟨by rfl, ?_⟩) ?_ ?_; rotate_left; (intro w'; go_simp; (with_reducible rfl)); rotate_left; (simp only [Act.put, zSA, zSB, zSC, i64_w, i32_w]; rfl)
                     refine pure_ (i := 14) (N := some 69) (v := ?_) (a' := ?_) (bq 18 32767) rfl rfl (any_of HT_.out (by kernel_rfl)) (fun _ _ _ h => h) (Or.inl ⟨by rfl, ?_⟩) ?_ ?_; rotate_left; (intro w'; go_simp; (with_reducible rfl)); rotate_left; (simp only [Act.put, zSA, zSB, zSC, i64_w, i32_w]; rfl)
                     refine last_ (i := 15) (N := some 70) #[true, true, true, true, true, true, true, true, true, true, true, true, true, true, true, true, false, false] rfl rfl (one_of HT_.out (by kernel_rfl)) (by decide) (fun K hK => ?_)
                     refine value_ (w1 := ?_) (v := ?_) (by rfl) rfl ?_ ?_
                     rotate_left 2
                     ·
                      go_simp
                      constructor
                      ·
                       rfl
                      ·
                       rfl
                     refine hK.out _ _ ?_
                     clear hK K
                     refine norm_ (a' := ?_) ?_ ?_
                     rotate_left
                     ·
                      show Act.put _ (some 70) _ = _
                      simp only [Act.put, zSA, zSB, zSC, i64_w, i32_w]
                      rfl
                     refine last_ (i := 16) (N := some 71) #[true, true, true, true, true, true, true, true, true, true, true, true, true, true, true, true, true, false] rfl rfl (one_of HT_.out (by kernel_rfl)) (by decide) (fun K hK => ?_)
                     refine Kd.R_append_step k64 (w0 := w0) w0.heap.size (by rfl) (.tmp 55) (.tmp 70) 24 64 (.agg #[(.string ⟨#[]⟩), (.bool false), (.int .i64 0)]) 32 rfl Try.underlying24 info64 rfl (by decide) (by omega) (.slice Ao44 x0_1.length co44) x0_1 (⟨(rdOf ByteArray.empty x1_1 0).extract (a2 : Int).toNat ((wrap64 (a2 + t106)) : Int).toNat, (((rdOf ByteArray.empty x1_1 0).size : Int) == (wrap64 (a2 + t106))), a3⟩ : S64) [.string ((rdOf ByteArray.empty x1_1 0).extract (a2 : Int).toNat ((wrap64 (a2 + t106)) : Int).toNat), .bool (((rdOf ByteArray.empty x1_1 0).size : Int) == (wrap64 (a2 + t106))), .int .i64 a3] (fun k_ => (P0_ k_ ∨ w.heap.size ≤ k_)) (fun _ => False) rfl rfl ?aP (fun _ hk => hk.elim) ?aF ?aO ?aB ?aS ?aL ?_
                     (case aP => exact k64_mkM _ _ _ (⟨(rdOf ByteArray.empty x1_1 0).extract (a2 : Int).toNat ((wrap64 (a2 + t106)) : Int).toNat, (((rdOf ByteArray.empty x1_1 0).size : Int) == (wrap64 (a2 + t106))), a3⟩ : S64))
                     (case aB => exact (by repeat (first | (with_reducible first | exact HB.out | apply below_alloc | apply pw_below_drewN | apply below_drew1) | exact HB.out)))
                     (case aF => exact (fun k_ hk => (.inr (Nat.le_trans (by first | exact HK.out.1 | exact (show Kept w _ (fun k_ => P0_ k_) from by repeat (first | (with_reducible first | exact HK.out | apply Kept.alloc | apply Kept.drewN | apply Kept.drew) | exact HK.out)).1) hk))))
                     (case aO => exact (by (with_reducible repeat (first | apply Kd.R_alloc | apply Kd.R_drewN | apply Kd.R_drew)); exact HO_0.out))
                     (case aS => exact (below_size (by repeat (first | (with_reducible first | exact HB.out | apply below_alloc | apply pw_below_drewN | apply below_drew1) | exact HB.out))))
                     (case aL => have := LMc32.out; omega)
                     intro v110 w46 ho hb hg hat
                     rw [← Ny109.out] at ho
                     have n0_ := aM (Kd.V_afterv (ok := (fun k_ => ((P0_ k_ ∨ P1_ k_) ∨ w.heap.size ≤ k_))) (by (with_reducible repeat (first | apply Kd.V_alloc | apply Kd.V_drewN | apply Kd.V_drew)); exact HO_1.out) hg hat)
                     have n1_ := aM (hb)
                     have n2_ := aM (Kept.of_grown (S := (fun k_ => P0_ k_)) hg (by repeat (first | (with_reducible first | exact HK.out | apply Kept.alloc | apply Kept.drewN | apply Kept.drew) | exact HK.out)) (fun k_ e_ => (HO_0.out.1 k_ e_)))
                     have n3_ := aM (ho)
                     clear HO_1
                     clear HB
                     clear HK
                     clear HO_0
                     have HO_1 := n0_
                     have HB := n1_
                     have HK := n2_
                     have HO111 := n3_
                     clear n0_ n1_ n2_ n3_
                     clear ho hb hg hat
                     refine hK.out _ _ ?_
                     clear hK K
                     refine norm_ (a' := ?_) ?_ ?_
                     rotate_left
                     ·
                      show Act.put _ (some 71) _ = _
                      simp only [Act.put, zSA, zSB, zSC, i64_w, i32_w]
                      rfl
                     refine pure_ (i := 17) (N := some 0) (v := ?_) (a' := ?_) (bq 18 262143) rfl rfl (any_of HT_.out (by kernel_rfl)) (fun _ _ _ h => h) (Or.inl ⟨by rfl, ?_⟩) ?_ ?_; rotate_left; (intro w'; go_simp; (with_reducible rfl)); rotate_left; (simp only [Act.put, zSA, zSB, zSC, i64_w, i32_w]; rfl)
                     refine done_ (done_of HT_.out (by kernel_rfl)) ?_
                     have q47 : (x9_5 : Int) ≤ ((x1_1.length : Int) : Int) := of_decide_eq_true (by first | (with_reducible assumption) | assumption)
                     obtain ⟨i047, hi047, _, hsz47, _⟩ := info_parts info9
                     have hroom47 : x1_1.length ≤ co7 := (Kd.V_reads' HO_1.out).2.1
                     have hC47 : Kd.F Kd.string _ _ (some ad104) x1_1.length x1_1 := (Kd.V_at (base := w0.heap.size) HO_1.out).2.2
                     have hcut47 := cut_to (P := Try.prog) 22 9 .i64 Try.underlying22 hi047 (some ad104) x1_1.length co7 x9_5 (of_decide_eq_true (by first | (with_reducible assumption) | assumption)) q47 hroom47
                     have hr47 := Kd.F_take (m := (x9_5 : Int).toNat) hC47 (by omega)
                     have hy47 : y112.length = (x9_5 : Int).toNat := (by rw [Ny112.out, List.length_take]; omega)
                     rw [← Ny112.out] at hr47
                     rw [← hy47] at hcut47
                     have HO116 := aM (show Kd.V Kd.string 9 _ w0.heap.size _ (.slice (some ad104) y112.length co7) y112 from Kd.V_mk (by omega) hr47)
                     have HC116 := aM (show y112.length ≤ co7 from by omega)
                     clear hr47 hC47 hroom47 hi047 hsz47
                     have KY47 := aM hy47
                     clear hy47
                     replace q47 := eq_true q47
                     obtain ⟨Ao48, co48, eo48⟩ := Kd.R_slice HO111.out
                     subst eo48
                     have p117 : 0 ≤ ((x0_1.length : Int) : Int) := of_decide_eq_true (by first | (with_reducible assumption) | assumption)
                     have q117 : (x0_1.length : Int) < (y109.length : Int) := of_decide_eq_true (by first | (with_reducible assumption) | assumption)
                     obtain ⟨ad117, e117, hx117_0, hx117_1, hx117_2⟩ := at_T64 (Kd.R_reads' HO111.out).2.2 (x0_1.length : Int) p117 q117
                     (try rw [← Nbq37.out] at hx117_1)
                     cases e117
                     try have hz_hx117_0 := aM hx117_0
                     try have hz_hx117_1 := aM hx117_1
                     try have hz_hx117_2 := aM hx117_2
                     (try simp only [Go.IntWalk.toNatUp] at hx117_0)
                     (try simp only [Go.IntWalk.toNatUp] at hx117_1)
                     (try simp only [Go.IntWalk.toNatUp] at hx117_2)
                     replace p117 := eq_true p117
                     replace q117 := eq_true q117
                     have q49 : (1 : Int) ≤ ((y112.length : Int) : Int) := of_decide_eq_true (by first | (with_reducible assumption) | assumption)
                     obtain ⟨i049, hi049, _, hsz49, _⟩ := info_parts info9
                     have hroom49 : y112.length ≤ co7 := (Kd.V_reads' HO116.out).2.1
                     have hC49 : Kd.F Kd.string _ _ (some ad104) y112.length y112 := (Kd.V_at (base := w0.heap.size) HO116.out).2.2
                     have hcut49 := cut_from (P := Try.prog) 22 9 .i64 Try.underlying22 hi049 1 hsz49 (some ad104) y112.length co7 1 (by omega) q49
                     have hr49 := Kd.F_cut (m := (1 : Int).toNat) (c := co7) hC49 (by omega) hroom49
                     obtain ⟨A49, hA49⟩ : ∃ A1, A1 = (if co7 = (1 : Int).toNat then (some ad104) else ((some ad104) : Option Addr).map (·.add ((1 : Int).toNat * 1))) := ⟨_, rfl⟩
                     obtain ⟨c49, hc49⟩ : ∃ c1, c1 = co7 - (1 : Int).toNat := ⟨_, rfl⟩
                     have hy49 : y118.length = y112.length - (1 : Int).toNat := (by rw [Ny118.out, List.length_drop] <;> omega)
                     rw [show (y112).drop (1 : Int).toNat = y118 from Ny118.out.symm] at hr49
                     replace hr49 : Kd.F Kd.string _ _ A49 y118.length y118 := (by rw [hA49]; exact hr49)
                     rw [← hy49, ← hA49, ← hc49] at hcut49
                     have HO122 := aM (show Kd.V Kd.string 9 _ w0.heap.size _ (.slice A49 y118.length c49) y118 from Kd.V_mk (by rw [hy49, hc49]; exact Nat.sub_le_sub_right hroom49 _) hr49)
                     have HC122 := aM (show y118.length ≤ c49 from by rw [hy49, hc49]; exact Nat.sub_le_sub_right hroom49 _)
                     clear hr49 hC49 hroom49 hi049 hsz49 hc49
                     have KY49 := aM hy49
                     have KA49 := aM hA49
                     clear hy49 hA49
                     replace q49 := eq_true q49
                     try go_wp2_with (first | ((with_reducible refine gate_callee (f := 72) rfl ?_); refine goesL_ (some 86) rfl rfl Try.func72 (by kernel_rfl) rfl #[.slice (some ad117) y109.length co48, .slice A49 y118.length c49, .int .i64 (wrap64 (a2 + t106)), .int .i64 (x0_1.length : Int)] rfl (by (try simp only [List.map_toArray, List.map_cons, List.map_nil]); first | done | rfl | (simp only [List.length_drop, List.length_take]; rfl)) ?_; (with_reducible refine (ih kj5 (by have := HK1.out; have := HJ5.out; omega) (fun k_ => some k_ = (.slice (some ad117) y109.length co48 : Value).ownBlock) (.slice (some ad117) y109.length co48) y109 (fun k_ => (((P0_ k_ ∨ P1_ k_) ∨ w.heap.size ≤ k_) ∧ some k_ ≠ (.slice (some ad117) y109.length co48 : Value).ownBlock)) _ _ y118 (wrap64 (a2 + t106)) (x0_1.length : Int) t123 w0 _ ?side1 ?side2 ?side3 A40.out).mono ?_); (case side1 => repeat (first | (with_reducible first | exact HB.out | apply below_alloc | apply pw_below_drewN | apply below_drew1) | exact HB.out)); (case side2 => exact Kd.R_tight rfl HO111.out); (case side3 => exact Kd.V_mono (HO122.out) (fun k_ hk_ => ⟨hk_, hk_.2⟩)); rintro e w50 ⟨v124, rfl, ho0, hb, hkp⟩; refine ⟨_, rfl, ?_⟩; have n0_ := aM (Kd.V_mono (ok' := fun k_ => ((P0_ k_ ∨ P1_ k_) ∨ w.heap.size ≤ k_) ∧ some k_ ≠ (v124 : Value).ownBlock) (Kd.V_keptB (HO_1.out) hkp (fun k_ hk_ hs_ => (hk_.2) hs_)) (fun k_ hk_ => ⟨hk_.1.1, fun e_ => Or.elim (ho0.1 k_ e_.symm) (fun hs_ => hk_.2.1 hs_) (fun hn_ => Nat.not_le.2 hk_.2.2 hn_)⟩)); have n1_ := aM (Kd.V_mono (ok' := fun k_ => ((P0_ k_ ∨ P1_ k_) ∨ w.heap.size ≤ k_) ∧ some k_ ≠ (v124 : Value).ownBlock) (Kd.V_keptB (HO116.out) hkp (fun k_ hk_ hs_ => (hk_.2) hs_)) (fun k_ hk_ => ⟨hk_.1.1, fun e_ => Or.elim (ho0.1 k_ e_.symm) (fun hs_ => hk_.2.1 hs_) (fun hn_ => Nat.not_le.2 hk_.2.2 hn_)⟩)); have n2_ := aM (Kd.V_mono (ok' := fun k_ => ((P0_ k_ ∨ P1_ k_) ∨ w.heap.size ≤ k_) ∧ some k_ ≠ (v124 : Value).ownBlock) (Kd.V_keptB (HO122.out) hkp (fun k_ hk_ hs_ => (hk_.2) hs_)) (fun k_ hk_ => ⟨hk_.1.1, fun e_ => Or.elim (ho0.1 k_ e_.symm) (fun hs_ => hk_.2.1 hs_) (fun hn_ => Nat.not_le.2 hk_.2.2 hn_)⟩)); have n3_ := aM (Kd.R_mono (ok' := fun k_ => (P0_ k_ ∨ w.heap.size ≤ k_)) ho0 (fun k_ hk_ => Or.elim hk_ (fun hs_ => (HO111.out.1 k_ (hs_).symm)) (fun hn_ => (.inr (Nat.le_trans (by first | exact HK.out.1 | exact (show Kept w _ (fun k_ => P0_ k_) from by repeat (first | (with_reducible first | exact HK.out | apply Kept.alloc | apply Kept.drewN | apply Kept.drew) | exact HK.out)).1) hn_))))); have n4_ := aM (Kept.then_ (S := (fun k_ => P0_ k_)) (by repeat (first | (with_reducible first | exact HK.out | apply Kept.alloc | apply Kept.drewN | apply Kept.drew) | exact HK.out)) hkp (fun k_ hs_ => (fun e_ => (HO111.out.1 k_ e_.symm)) hs_)); have n5_ := aM (hb); clear HO_1; clear HO116; clear HO122; clear HK; clear HB; clear HO111; have HO_1 := n0_; have HO116 := n1_; have HO122 := n2_; have HO125 := n3_; have HK := n4_; have HB := n5_; clear n0_ n1_ n2_ n3_ n4_ n5_; (try clear hb); (try clear hkp); (try clear ho0); have q51 : (x9_5 : Int) ≤ ((x1_1.length : Int) : Int) := of_decide_eq_true (by first | (with_reducible assumption) | assumption); obtain ⟨i051, hi051, _, hsz51, _⟩ := info_parts info9; have hroom51 : x1_1.length ≤ co7 := (Kd.V_reads' HO_1.out).2.1; have hC51 : Kd.F Kd.string _ _ (some ad104) x1_1.length x1_1 := (Kd.V_at (base := w0.heap.size) HO_1.out).2.2; have q051 : (0 : Int) ≤ (x9_5 : Int) := of_decide_eq_true (by first | (with_reducible assumption) | assumption); have hcut51 := cut_from (P := Try.prog) 22 9 .i64 Try.underlying22 hi051 1 hsz51 (some ad104) x1_1.length co7 x9_5 q051 q51; have hr51 := Kd.F_cut (m := (x9_5 : Int).toNat) (c := co7) hC51 (by omega) hroom51; obtain ⟨A51, hA51⟩ : ∃ A1, A1 = (if co7 = (x9_5 : Int).toNat then (some ad104) else ((some ad104) : Option Addr).map (·.add ((x9_5 : Int).toNat * 1))) := ⟨_, rfl⟩; obtain ⟨c51, hc51⟩ : ∃ c1, c1 = co7 - (x9_5 : Int).toNat := ⟨_, rfl⟩; have hy51 : y126.length = x1_1.length - (x9_5 : Int).toNat := (by rw [Ny126.out, List.length_drop] <;> omega); rw [show (x1_1).drop (x9_5 : Int).toNat = y126 from Ny126.out.symm] at hr51; replace hr51 : Kd.F Kd.string _ _ A51 y126.length y126 := (by rw [hA51]; exact hr51); rw [← hy51, ← hA51, ← hc51] at hcut51; have HO130 := aM (show Kd.V Kd.string 9 _ w0.heap.size _ (.slice A51 y126.length c51) y126 from Kd.V_mk (by rw [hy51, hc51]; exact Nat.sub_le_sub_right hroom51 _) hr51); have HC130 := aM (show y126.length ≤ c51 from by rw [hy51, hc51]; exact Nat.sub_le_sub_right hroom51 _); clear hr51 hC51 hroom51 hi051 hsz51 hc51; have KY51 := aM hy51; have KA51 := aM hA51; clear hy51 hA51; replace q51 := eq_true q51))
                     go_roundg kj5
                     case measure => have := HK1.out; have := HJ5.out; omega
                     case rel => exact ⟨(t123), (y126), H', ⟨by have := HK1.out; have := HJ5.out; omega⟩, ⟨by (with_reducible repeat (first | apply Kd.R_alloc | apply Kd.R_drewN | apply Kd.R_drew)); exact HO125.out⟩, ⟨by (with_reducible repeat (first | apply Kd.V_alloc | apply Kd.V_drewN | apply Kd.V_drew)); exact HO130.out⟩, ⟨by repeat (first | (with_reducible first | exact HK.out | apply Kept.alloc | apply Kept.drewN | apply Kept.drew) | exact HK.out)⟩, ⟨by repeat (first | (with_reducible first | exact HB.out | apply below_alloc | apply pw_below_drewN | apply below_drew1) | exact HB.out)⟩⟩
                    ·
                     rw [if_neg c39] at H
                     exact absurd H (by simp)
                   ·
                    replace c38 := Bool.eq_false_iff.mpr c38
                    subst c38
                    have H1 : ((impl_grow.f kj5 y109 y112 (wrap64 (a2 + t106)) (x0_1.length : Int)).bind fun t131 => (impl_grow.l0 kj5 t131 (x1_1.drop (x9_5 : Int).toNat) a2 a3)) = some r := by rw [if_neg (show ¬ (false = true) by decide)] at H; exact H
                    clear H
                    have H := H1
                    clear H1
                    replace H := Option.bind_eq_some_iff.mp H
                    obtain ⟨t131, A520, H⟩ := H
                    replace H : (impl_grow.l0 kj5 t131 (x1_1.drop (x9_5 : Int).toNat) a2 a3) = some r := H
                    have A52 := aM A520
                    clear A520
                    have c53b0 := eq_true (of_decide_eq_true (by first | (with_reducible assumption) | assumption) : 0 ≤ x9_5)
                    have c54b0 := eq_true (of_decide_eq_true (by first | (with_reducible assumption) | assumption) : x9_5 ≤ (x1_1.length : Int))
                    obtain ⟨y134, hy134⟩ : ∃ y_ : List ByteArray, y_ = (x1_1.drop (x9_5 : Int).toNat) := ⟨_, rfl⟩
                    replace H : (impl_grow.l0 kj5 t131 y134 a2 a3) = some r := by first | (rw [hy134]; with_reducible exact H) | (have H2_ := (Option.bind_some _ _).symm.trans H; rw [hy134]; with_reducible exact H2_) | (have H2_ := (Option.bind_some _ _).symm.trans H; with_reducible exact H2_) | with_reducible exact H | (rw [hy134]; exact H) | exact H
                    have Ny134 := aM hy134
                    clear hy134
                    have H' := aM H
                    clear H
                    try go_wp2
                    have n0_ := aM (Kd.R_drew HO_0.out)
                    have n1_ := aM (Kd.V_drew HO_1.out)
                    have n2_ := aM (Kept.drew HK.out)
                    have n3_ := aM (below_drew1 HB.out)
                    clear HO_0
                    clear HO_1
                    clear HK
                    clear HB
                    have HO_0 := n0_
                    have HO_1 := n1_
                    have HK := n2_
                    have HB := n3_
                    clear n0_ n1_ n2_ n3_
                    have p104 : 0 ≤ (0 : Int) := (by omega)
                    have q104 : 0 < (x1_1.length : Int) := of_decide_eq_true (by first | (with_reducible assumption) | assumption)
                    obtain ⟨ad104, e104, hx104_0⟩ := Kd.at_string (Kd.V_reads' HO_1.out).2.2 0 p104 q104
                    cases e104
                    have qi104 : (0 < x1_1.length) = True := eq_true (by omega)
                    (try rw [show ((0 : Int)).toNat = 0 from rfl] at hx104_0)
                    (try rw [Addr.add_zero'] at hx104_0)
                    replace p104 := eq_true p104
                    replace q104 := eq_true q104
                    have p105 : 0 ≤ ((ji23) : Int) := of_decide_eq_true (by first | (with_reducible assumption) | assumption)
                    have q105 : (ji23) < (x1_1.length : Int) := of_decide_eq_true (by first | (with_reducible assumption) | assumption)
                    obtain ⟨ad105, e105, hx105_0⟩ := Kd.at_string (Kd.V_reads' HO_1.out).2.2 (ji23) p105 q105
                    obtain rfl : ad104 = ad105 := (by injection e105)
                    replace p105 := eq_true p105
                    replace q105 := eq_true q105
                    refine start_ (n := 14) (S := fun w' => w'.cell? ad104 = some (.string (rdOf ByteArray.empty x1_1 0)) ∧ w'.cell? (ad104.add ((ji23)).toNat) = some (.string (rdOf ByteArray.empty x1_1 (ji23)))) (ds := []) (bq 14 0) (by kernel_rfl) rfl (by kernel_rfl) ⟨hx104_0, hx105_0⟩ (fun hHeld => ?_); refine with_tabW impl_grow.tab5 impl_grow.bits5 (fun HT_ HW_ => ?_)
                    generalize wc.drew = w55 at HO_0 HO_1 HK HB hx104_0 hx105_0 hHeld ⊢
                    refine pure_ (i := 0) (N := some 37) (v := ?_) (a' := ?_) (bq 14 1) rfl rfl (any_of HT_.out (by kernel_rfl)) (fun _ _ _ h => h) (Or.inl ⟨by rfl, ?_⟩) ?_ ?_; rotate_left; (intro w'; go_simp; (with_reducible rfl)); rotate_left; (simp only [Act.put, zSA, zSB, zSC, i64_w, i32_w]; rfl)
                    refine pure_ (i := 1) (N := some 38) (v := ?_) (a' := ?_) (bq 14 3) rfl rfl (any_of HT_.out (by kernel_rfl)) (fun _ _ _ h => h) (Or.inl ⟨by rfl, ?_⟩) ?_ ?_; rotate_left; (intro w'; go_simp; (with_reducible rfl)); rotate_left; (simp only [Act.put, zSA, zSB, zSC, i64_w, i32_w]; rfl)
                    refine pure_ (i := 3) (N := some 40) (v := ?_) (a' := ?_) (bq 14 11) rfl rfl (any_of HT_.out (by kernel_rfl)) (fun _ _ _ h => h) (Or.inl ⟨by rfl, ?_⟩) ?_ ?_; rotate_left; (intro w'; go_simp; (with_reducible rfl)); rotate_left; (simp only [Act.put, zSA, zSB, zSC, i64_w, i32_w]; rfl)
                    refine pure_ (i := 5) (N := some 42) (v := ?_) (a' := ?_) (bq 14 43) rfl rfl (any_of HT_.out (by kernel_rfl)) (fun _ _ _ h => h) (Or.inl ⟨by rfl, ?_⟩) ?_ ?_; rotate_left; (intro w'; go_simp; (with_reducible rfl)); rotate_left; (simp only [Act.put, zSA, zSB, zSC, i64_w, i32_w]; rfl)
                    refine pure_ (i := 6) (N := some 43) (v := ?_) (a' := ?_) (bq 14 107) rfl rfl (any_of HT_.out (by kernel_rfl)) (fun _ _ _ h => h) (Or.inl ⟨by rfl, ?_⟩) ?_ ?_; rotate_left; (intro w'; go_simp; (with_reducible rfl)); rotate_left; (simp only [Act.put, zSA, zSB, zSC, i64_w, i32_w]; rfl)
                    refine pure_ (i := 7) (N := some 44) (v := ?_) (a' := ?_) (bq 14 235) rfl rfl (any_of HT_.out (by kernel_rfl)) (fun _ _ _ h => h) (Or.inl ⟨by rfl, ?_⟩) ?_ ?_; rotate_left; (intro w'; go_simp; (with_reducible rfl)); rotate_left; (simp only [Act.put, zSA, zSB, zSC, i64_w, i32_w]; rfl)
                    refine pure_ (i := 8) (N := some 45) (v := ?_) (a' := ?_) (bq 14 491) rfl rfl (any_of HT_.out (by kernel_rfl)) (fun _ _ _ h => h) (Or.inl ⟨by rfl, ?_⟩) ?_ ?_; rotate_left; (intro w'; go_simp; (with_reducible rfl)); rotate_left; (simp only [Act.put, zSA, zSB, zSC, i64_w, i32_w]; rfl)
                    refine pure_ (i := 10) (N := some 47) (v := ?_) (a' := ?_) (bq 14 1515) rfl rfl (any_of HT_.out (by kernel_rfl)) (fun _ _ _ h => h) (Or.inl ⟨by rfl, ?_⟩) ?_ ?_; rotate_left; (intro w'; go_simp; (with_reducible rfl)); rotate_left; (simp only [Act.put, zSA, zSB, zSC, i64_w, i32_w]; rfl)
                    refine take_ (i := 2) (N := some 39) (v := ?_) (a' := ?_) (bq 14 1519) rfl rfl (take_ofW HT_.out HW_.out (by kernel_rfl)) (fun _ _ _ h => h) (Or.inl ⟨by rfl, ?_⟩) hHeld ?_ ?_; rotate_left; (rintro w' ⟨s0, s1⟩; go_simp; (with_reducible rfl)); rotate_left; (simp only [Act.put, zSA, zSB, zSC, i64_w, i32_w]; rfl)
                    refine pure_ (i := 4) (N := some 41) (v := ?_) (a' := ?_) (bq 14 1535) rfl rfl (any_of HT_.out (by kernel_rfl)) (fun _ _ _ h => h) (Or.inl ⟨by rfl, ?_⟩) ?_ ?_; rotate_left; (intro w'; go_simp; (with_reducible rfl)); rotate_left; (simp only [Act.put, zSA, zSB, zSC, i64_w, i32_w]; rfl)
                    refine take_ (i := 9) (N := some 46) (v := ?_) (a' := ?_) (bq 14 2047) rfl rfl (take_ofW HT_.out HW_.out (by kernel_rfl)) (fun _ _ _ h => h) (Or.inl ⟨by rfl, ?_⟩) hHeld ?_ ?_; rotate_left; (rintro w' ⟨s0, s1⟩; go_simp; (with_reducible rfl)); rotate_left; (simp only [Act.put, zSA, zSB, zSC, i64_w, i32_w]; rfl)
                    refine pure_ (i := 11) (N := some 48) (v := ?_) (a' := ?_) (bq 14 4095) rfl rfl (any_of HT_.out (by kernel_rfl)) (fun _ _ _ h => h) (Or.inl ⟨by rfl, ?_⟩) ?_ ?_; rotate_left; (intro w'; go_simp; (with_reducible rfl)); rotate_left; (simp only [Act.put, zSA, zSB, zSC, i64_w, i32_w]; rfl)
                    refine one_ (i := 12) (N := some 49) (bq 14 8191) rfl rfl (one_of HT_.out (by kernel_rfl)) (by decide) (fun K hK => ?_)
                    refine goes_ Try.func96 (by kernel_rfl) rfl #[.string ((rdOf ByteArray.empty x1_1 0).extract (a2 : Int).toNat (rdOf ByteArray.empty x1_1 0).size), .string ((rdOf ByteArray.empty x1_1 (ji23)).extract (a2 : Int).toNat (rdOf ByteArray.empty x1_1 (ji23)).size)] (by rfl) rfl rfl (by (try simp only [List.map_toArray, List.map_cons, List.map_nil]); first | done | (simp only [hji23]; rfl) | rfl | (simp only [List.length_drop, List.length_take]; rfl)) ?_
                    with_reducible refine (impl_common.calls kj5 ((rdOf ByteArray.empty x1_1 0).extract (a2 : Int).toNat (rdOf ByteArray.empty x1_1 0).size) ((rdOf ByteArray.empty x1_1 (ji23)).extract (a2 : Int).toNat (rdOf ByteArray.empty x1_1 (ji23)).size) t106 _ A28.out).mono ?_
                    rintro e w' ⟨rfl, ⟨nd, rfl⟩⟩
                    refine ⟨_, rfl, ?_⟩
                    refine hK.out _ _ ⟨hHeld.1, hHeld.2⟩ (fun hHeld => ?_)
                    clear hK K
                    refine norm_ (a' := ?_) ?_ ?_
                    rotate_left
                    ·
                     show Act.put _ (some 49) _ = _
                     simp only [Act.put, zSA, zSB, zSC, i64_w, i32_w]
                     rfl
                    refine pure_ (i := 13) (N := some 10) (v := ?_) (a' := ?_) (bq 14 16383) rfl rfl (any_of HT_.out (by kernel_rfl)) (fun _ _ _ h => h) (Or.inl ⟨by rfl, ?_⟩) ?_ ?_; rotate_left; (intro w'; go_simp; (with_reducible rfl)); rotate_left; (simp only [Act.put, zSA, zSB, zSC, i64_w, i32_w]; rfl)
                    refine done_ (done_of HT_.out (by kernel_rfl)) ?_
                    obtain ⟨Ao56, co56, eo56⟩ := Kd.R_slice HO_0.out
                    subst eo56
                    try go_wp2
                    (try (rw [drewN_self w55]; generalize hq_ : World.drewN w55 _ = w55; have n0_ : Aside0 (Kd.R k64 64 w55 w0.heap.size (fun k_ => (P0_ k_ ∨ w.heap.size ≤ k_)) (.slice Ao56 x0_1.length co56) x0_1) := ⟨by rw [← hq_]; exact (by (with_reducible repeat (first | apply Kd.R_alloc | apply Kd.R_drewN | apply Kd.R_drew)); exact HO_0.out)⟩; have n1_ : Aside0 (Kd.V Kd.string 9 w55 w0.heap.size (fun k_ => ((P0_ k_ ∨ P1_ k_) ∨ w.heap.size ≤ k_) ∧ some k_ ≠ (.slice Ao56 x0_1.length co56 : Value).ownBlock) (.slice (some ad104) x1_1.length co7) x1_1) := ⟨by rw [← hq_]; exact (by (with_reducible repeat (first | apply Kd.V_alloc | apply Kd.V_drewN | apply Kd.V_drew)); exact HO_1.out)⟩; have n2_ : Aside0 (Kept w w55 (fun k_ => P0_ k_)) := ⟨by rw [← hq_]; exact (by repeat (first | (with_reducible first | exact HK.out | apply Kept.alloc | apply Kept.drewN | apply Kept.drew) | exact HK.out))⟩; have n3_ : Aside0 (Below w0.heap.size w0 w55) := ⟨by rw [← hq_]; exact (by repeat (first | (with_reducible first | exact HB.out | apply below_alloc | apply pw_below_drewN | apply below_drew1) | exact HB.out))⟩; clear HO_0 HO_1 HK HB hq_; have HO_0 := n0_; have HO_1 := n1_; have HK := n2_; have HB := n3_; clear n0_ n1_ n2_ n3_))
                    have n0_ := aM (Kd.R_drew HO_0.out)
                    have n1_ := aM (Kd.V_drew HO_1.out)
                    have n2_ := aM (Kept.drew HK.out)
                    have n3_ := aM (below_drew1 HB.out)
                    clear HO_0
                    clear HO_1
                    clear HK
                    clear HB
                    have HO_0 := n0_
                    have HO_1 := n1_
                    have HK := n2_
                    have HB := n3_
                    clear n0_ n1_ n2_ n3_
                    have p107 : 0 ≤ (0 : Int) := (by omega)
                    have q107 : 0 < (x1_1.length : Int) := of_decide_eq_true (by first | (with_reducible assumption) | assumption)
                    obtain ⟨ad107, e107, hx107_0⟩ := Kd.at_string (Kd.V_reads' HO_1.out).2.2 0 p107 q107
                    obtain rfl : ad104 = ad107 := (by injection e107)
                    have qi107 : (0 < x1_1.length) = True := eq_true (by omega)
                    (try rw [show ((0 : Int)).toNat = 0 from rfl] at hx107_0)
                    (try rw [Addr.add_zero'] at hx107_0)
                    replace p107 := eq_true p107
                    replace q107 := eq_true q107
                    have p108 : 0 ≤ (0 : Int) := (by omega)
                    have q108 : 0 < (x1_1.length : Int) := of_decide_eq_true (by first | (with_reducible assumption) | assumption)
                    obtain ⟨ad108, e108, hx108_0⟩ := Kd.at_string (Kd.V_reads' HO_1.out).2.2 0 p108 q108
                    obtain rfl : ad104 = ad108 := (by injection e108)
                    have qi108 : (0 < x1_1.length) = True := eq_true (by omega)
                    (try rw [show ((0 : Int)).toNat = 0 from rfl] at hx108_0)
                    (try rw [Addr.add_zero'] at hx108_0)
                    replace p108 := eq_true p108
                    replace q108 := eq_true q108
                    refine start_ (n := 18) (S := fun w' => w'.cell? ad104 = some (.string (rdOf ByteArray.empty x1_1 0)) ∧ w'.cell? ad104 = some (.string (rdOf ByteArray.empty x1_1 0))) (ds := [15, 16]) (bq 18 0) (by kernel_rfl) rfl (by kernel_rfl) ⟨hx107_0, hx108_0⟩ (fun hHeld => ?_); refine with_tabW impl_grow.tab8 impl_grow.bits8 (fun HT_ HW_ => ?_)
                    generalize w55.drew = w57 at HO_0 HO_1 HK HB hx107_0 hx108_0 hHeld ⊢
                    refine pure_ (i := 0) (N := some 55) (v := ?_) (a' := ?_) (bq 18 1) rfl rfl (any_of HT_.out (by kernel_rfl)) (fun _ _ _ h => h) (Or.inl ⟨by rfl, ?_⟩) ?_ ?_; rotate_left; (intro w'; go_simp; (with_reducible rfl)); rotate_left; (simp only [Act.put, zSA, zSB, zSC, i64_w, i32_w]; rfl)
                    refine pure_ (i := 1) (N := some 56) (v := ?_) (a' := ?_) (bq 18 3) rfl rfl (any_of HT_.out (by kernel_rfl)) (fun _ _ _ h => h) (Or.inl ⟨by rfl, ?_⟩) ?_ ?_; rotate_left; (intro w'; go_simp; (with_reducible rfl)); rotate_left; (simp only [Act.put, zSA, zSB, zSC, i64_w, i32_w]; rfl)
                    refine pure_ (i := 2) (N := some 57) (v := ?_) (a' := ?_) (bq 18 7) rfl rfl (any_of HT_.out (by kernel_rfl)) (fun _ _ _ h => h) (Or.inl ⟨by rfl, ?_⟩) ?_ ?_; rotate_left; (intro w'; go_simp; (with_reducible rfl)); rotate_left; (simp only [Act.put, zSA, zSB, zSC, i64_w, i32_w]; rfl)
                    refine pure_ (i := 4) (N := some 59) (v := ?_) (a' := ?_) (bq 18 23) rfl rfl (any_of HT_.out (by kernel_rfl)) (fun _ _ _ h => h) (Or.inl ⟨by rfl, ?_⟩) ?_ ?_; rotate_left; (intro w'; go_simp; (with_reducible rfl)); rotate_left; (simp only [Act.put, zSA, zSB, zSC, i64_w, i32_w]; rfl)
                    refine pure_ (i := 5) (N := some 60) (v := ?_) (a' := ?_) (bq 18 55) rfl rfl (any_of HT_.out (by kernel_rfl)) (fun _ _ _ h => h) (Or.inl ⟨by rfl, ?_⟩) ?_ ?_; rotate_left; (intro w'; go_simp; (with_reducible rfl)); rotate_left; (simp only [Act.put, zSA, zSB, zSC, i64_w, i32_w]; rfl)
                    refine pure_ (i := 7) (N := some 62) (v := ?_) (a' := ?_) (bq 18 183) rfl rfl (any_of HT_.out (by kernel_rfl)) (fun _ _ _ h => h) (Or.inl ⟨by rfl, ?_⟩) ?_ ?_; rotate_left; (intro w'; go_simp; (with_reducible rfl)); rotate_left; (simp only [Act.put, zSA, zSB, zSC, i64_w, i32_w]; rfl)
                    refine pure_ (i := 8) (N := some 63) (v := ?_) (a' := ?_) (bq 18 439) rfl rfl (any_of HT_.out (by kernel_rfl)) (fun _ _ _ h => h) (Or.inl ⟨by rfl, ?_⟩) ?_ ?_; rotate_left; (intro w'; go_simp; (with_reducible rfl)); rotate_left; (simp only [Act.put, zSA, zSB, zSC, i64_w, i32_w]; rfl)
                    refine pure_ (i := 11) (N := some 66) (v := ?_) (a' := ?_) (bq 18 2487) rfl rfl (any_of HT_.out (by kernel_rfl)) (fun _ _ _ h => h) (Or.inl ⟨by rfl, ?_⟩) ?_ ?_; rotate_left; (intro w'; go_simp; (with_reducible rfl)); rotate_left; (simp only [Act.put, zSA, zSB, zSC, i64_w, i32_w]; rfl)
                    refine pure_ (i := 13) (N := some 68) (v := ?_) (a' := ?_) (bq 18 10679) rfl rfl (any_of HT_.out (by kernel_rfl)) (fun _ _ _ h => h) (Or.inl ⟨by rfl, ?_⟩) ?_ ?_; rotate_left; (intro w'; go_simp; (with_reducible rfl)); rotate_left; (simp only [Act.put, zSA, zSB, zSC, i64_w, i32_w]; rfl)
                    refine take_ (i := 3) (N := some 58) (v := ?_) (a' := ?_) (bq 18 10687) rfl rfl (take_ofW HT_.out HW_.out (by kernel_rfl)) (fun _ _ _ h => h) (Or.inl ⟨by rfl, ?_⟩) hHeld ?_ ?_; rotate_left; (rintro w' ⟨s0, s1⟩; go_simp; (with_reducible rfl)); rotate_left; (simp only [Act.put, zSA, zSB, zSC, i64_w, i32_w]; rfl)
                    refine pure_ (i := 6) (N := some 61) (v := ?_) (a' := ?_) (bq 18 10751) rfl rfl (any_of HT_.out (by kernel_rfl)) (fun _ _ _ h => h) (Or.inl ⟨by rfl, ?_⟩) ?_ ?_; rotate_left; (intro w'; go_simp; (with_reducible rfl)); rotate_left; (simp only [Act.put, zSA, zSB, zSC, i64_w, i32_w]; rfl)
                    refine take_ (i := 9) (N := some 64) (v := ?_) (a' := ?_) (bq 18 11263) rfl rfl (take_ofW HT_.out HW_.out (by kernel_rfl)) (fun _ _ _ h => h) (Or.inl ⟨by rfl, ?_⟩) hHeld ?_ ?_; rotate_left; (rintro w' ⟨s0, s1⟩; go_simp; (with_reducible rfl)); rotate_left; (simp only [Act.put, zSA, zSB, zSC, i64_w, i32_w]; rfl)
                    refine pure_ (i := 10) (N := some 65) (v := ?_) (a' := ?_) (bq 18 12287) rfl rfl (any_of HT_.out (by kernel_rfl)) (fun _ _ _ h => h) (Or.inl ⟨by rfl, ?_⟩) ?_ ?_; rotate_left; (intro w'; go_simp; (with_reducible rfl)); rotate_left; (simp only [Act.put, zSA, zSB, zSC, i64_w, i32_w]; rfl)
                    refine pure_ (i := 12) (N := some 67) (v := ?_) (a' := ?_) (bq 18 16383) rfl rfl (any_of HT_.out (by kernel_rfl)) (fun _ _ _ h => h) (Or.inl ⟨by rfl, ?_⟩) ?_ ?_; rotate_left; (intro w'; go_simp; (with_reducible rfl)); rotate_left; (simp only [Act.put, zSA, zSB, zSC, i64_w, i32_w]; rfl)
                    refine pure_ (i := 14) (N := some 69) (v := ?_) (a' := ?_) (bq 18 32767) rfl rfl (any_of HT_.out (by kernel_rfl)) (fun _ _ _ h => h) (Or.inl ⟨by rfl, ?_⟩) ?_ ?_; rotate_left; (intro w'; go_simp; (with_reducible rfl)); rotate_left; (simp only [Act.put, zSA, zSB, zSC, i64_w, i32_w]; rfl)
                    refine last_ (i := 15) (N := some 70) #[true, true, true, true, true, true, true, true, true, true, true, true, true, true, true, true, false, false] rfl rfl (one_of HT_.out (by kernel_rfl)) (by decide) (fun K hK => ?_)
                    refine value_ (w1 := ?_) (v := ?_) (by rfl) rfl ?_ ?_
                    rotate_left 2
                    ·
                     go_simp
                     constructor
                     ·
                      rfl
                     ·
                      rfl
                    refine hK.out _ _ ?_
                    clear hK K
                    refine norm_ (a' := ?_) ?_ ?_
                    rotate_left
                    ·
                     show Act.put _ (some 70) _ = _
                     simp only [Act.put, zSA, zSB, zSC, i64_w, i32_w]
                     rfl
                    refine last_ (i := 16) (N := some 71) #[true, true, true, true, true, true, true, true, true, true, true, true, true, true, true, true, true, false] rfl rfl (one_of HT_.out (by kernel_rfl)) (by decide) (fun K hK => ?_)
                    refine Kd.R_append_step k64 (w0 := w0) w0.heap.size (by rfl) (.tmp 55) (.tmp 70) 24 64 (.agg #[(.string ⟨#[]⟩), (.bool false), (.int .i64 0)]) 32 rfl Try.underlying24 info64 rfl (by decide) (by omega) (.slice Ao56 x0_1.length co56) x0_1 (⟨(rdOf ByteArray.empty x1_1 0).extract (a2 : Int).toNat ((wrap64 (a2 + t106)) : Int).toNat, (((rdOf ByteArray.empty x1_1 0).size : Int) == (wrap64 (a2 + t106))), a3⟩ : S64) [.string ((rdOf ByteArray.empty x1_1 0).extract (a2 : Int).toNat ((wrap64 (a2 + t106)) : Int).toNat), .bool (((rdOf ByteArray.empty x1_1 0).size : Int) == (wrap64 (a2 + t106))), .int .i64 a3] (fun k_ => (P0_ k_ ∨ w.heap.size ≤ k_)) (fun _ => False) rfl rfl ?aP (fun _ hk => hk.elim) ?aF ?aO ?aB ?aS ?aL ?_
                    (case aP => exact k64_mkM _ _ _ (⟨(rdOf ByteArray.empty x1_1 0).extract (a2 : Int).toNat ((wrap64 (a2 + t106)) : Int).toNat, (((rdOf ByteArray.empty x1_1 0).size : Int) == (wrap64 (a2 + t106))), a3⟩ : S64))
                    (case aB => exact (by repeat (first | (with_reducible first | exact HB.out | apply below_alloc | apply pw_below_drewN | apply below_drew1) | exact HB.out)))
                    (case aF => exact (fun k_ hk => (.inr (Nat.le_trans (by first | exact HK.out.1 | exact (show Kept w _ (fun k_ => P0_ k_) from by repeat (first | (with_reducible first | exact HK.out | apply Kept.alloc | apply Kept.drewN | apply Kept.drew) | exact HK.out)).1) hk))))
                    (case aO => exact (by (with_reducible repeat (first | apply Kd.R_alloc | apply Kd.R_drewN | apply Kd.R_drew)); exact HO_0.out))
                    (case aS => exact (below_size (by repeat (first | (with_reducible first | exact HB.out | apply below_alloc | apply pw_below_drewN | apply below_drew1) | exact HB.out))))
                    (case aL => have := LMc32.out; omega)
                    intro v110 w58 ho hb hg hat
                    rw [← Ny109.out] at ho
                    have n0_ := aM (Kd.V_afterv (ok := (fun k_ => ((P0_ k_ ∨ P1_ k_) ∨ w.heap.size ≤ k_))) (by (with_reducible repeat (first | apply Kd.V_alloc | apply Kd.V_drewN | apply Kd.V_drew)); exact HO_1.out) hg hat)
                    have n1_ := aM (hb)
                    have n2_ := aM (Kept.of_grown (S := (fun k_ => P0_ k_)) hg (by repeat (first | (with_reducible first | exact HK.out | apply Kept.alloc | apply Kept.drewN | apply Kept.drew) | exact HK.out)) (fun k_ e_ => (HO_0.out.1 k_ e_)))
                    have n3_ := aM (ho)
                    clear HO_1
                    clear HB
                    clear HK
                    clear HO_0
                    have HO_1 := n0_
                    have HB := n1_
                    have HK := n2_
                    have HO111 := n3_
                    clear n0_ n1_ n2_ n3_
                    clear ho hb hg hat
                    refine hK.out _ _ ?_
                    clear hK K
                    refine norm_ (a' := ?_) ?_ ?_
                    rotate_left
                    ·
                     show Act.put _ (some 71) _ = _
                     simp only [Act.put, zSA, zSB, zSC, i64_w, i32_w]
                     rfl
                    refine pure_ (i := 17) (N := some 0) (v := ?_) (a' := ?_) (bq 18 262143) rfl rfl (any_of HT_.out (by kernel_rfl)) (fun _ _ _ h => h) (Or.inl ⟨by rfl, ?_⟩) ?_ ?_; rotate_left; (intro w'; go_simp; (with_reducible rfl)); rotate_left; (simp only [Act.put, zSA, zSB, zSC, i64_w, i32_w]; rfl)
                    refine done_ (done_of HT_.out (by kernel_rfl)) ?_
                    have q59 : (x9_5 : Int) ≤ ((x1_1.length : Int) : Int) := of_decide_eq_true (by first | (with_reducible assumption) | assumption)
                    obtain ⟨i059, hi059, _, hsz59, _⟩ := info_parts info9
                    have hroom59 : x1_1.length ≤ co7 := (Kd.V_reads' HO_1.out).2.1
                    have hC59 : Kd.F Kd.string _ _ (some ad104) x1_1.length x1_1 := (Kd.V_at (base := w0.heap.size) HO_1.out).2.2
                    have hcut59 := cut_to (P := Try.prog) 22 9 .i64 Try.underlying22 hi059 (some ad104) x1_1.length co7 x9_5 (of_decide_eq_true (by first | (with_reducible assumption) | assumption)) q59 hroom59
                    have hr59 := Kd.F_take (m := (x9_5 : Int).toNat) hC59 (by omega)
                    have hy59 : y112.length = (x9_5 : Int).toNat := (by rw [Ny112.out, List.length_take]; omega)
                    rw [← Ny112.out] at hr59
                    rw [← hy59] at hcut59
                    have HO116 := aM (show Kd.V Kd.string 9 _ w0.heap.size _ (.slice (some ad104) y112.length co7) y112 from Kd.V_mk (by omega) hr59)
                    have HC116 := aM (show y112.length ≤ co7 from by omega)
                    clear hr59 hC59 hroom59 hi059 hsz59
                    have KY59 := aM hy59
                    clear hy59
                    replace q59 := eq_true q59
                    obtain ⟨Ao60, co60, eo60⟩ := Kd.R_slice HO111.out
                    subst eo60
                    have p117 : 0 ≤ ((x0_1.length : Int) : Int) := of_decide_eq_true (by first | (with_reducible assumption) | assumption)
                    have q117 : (x0_1.length : Int) < (y109.length : Int) := of_decide_eq_true (by first | (with_reducible assumption) | assumption)
                    obtain ⟨ad117, e117, hx117_0, hx117_1, hx117_2⟩ := at_T64 (Kd.R_reads' HO111.out).2.2 (x0_1.length : Int) p117 q117
                    (try rw [← Nbq37.out] at hx117_1)
                    cases e117
                    try have hz_hx117_0 := aM hx117_0
                    try have hz_hx117_1 := aM hx117_1
                    try have hz_hx117_2 := aM hx117_2
                    (try simp only [Go.IntWalk.toNatUp] at hx117_0)
                    (try simp only [Go.IntWalk.toNatUp] at hx117_1)
                    (try simp only [Go.IntWalk.toNatUp] at hx117_2)
                    replace p117 := eq_true p117
                    replace q117 := eq_true q117
                    try go_wp2_with (first | ((with_reducible refine gate_callee (f := 72) rfl ?_); refine goesL_ (some 86) rfl rfl Try.func72 (by kernel_rfl) rfl #[.slice (some ad117) y109.length co60, .slice (some ad104) y112.length co7, .int .i64 (wrap64 (a2 + t106)), .int .i64 (x0_1.length : Int)] rfl (by (try simp only [List.map_toArray, List.map_cons, List.map_nil]); first | done | rfl | (simp only [List.length_drop, List.length_take]; rfl)) ?_; (with_reducible refine (ih kj5 (by have := HK1.out; have := HJ5.out; omega) (fun k_ => some k_ = (.slice (some ad117) y109.length co60 : Value).ownBlock) (.slice (some ad117) y109.length co60) y109 (fun k_ => (((P0_ k_ ∨ P1_ k_) ∨ w.heap.size ≤ k_) ∧ some k_ ≠ (.slice (some ad117) y109.length co60 : Value).ownBlock)) _ _ y112 (wrap64 (a2 + t106)) (x0_1.length : Int) t131 w0 _ ?side1 ?side2 ?side3 A52.out).mono ?_); (case side1 => repeat (first | (with_reducible first | exact HB.out | apply below_alloc | apply pw_below_drewN | apply below_drew1) | exact HB.out)); (case side2 => exact Kd.R_tight rfl HO111.out); (case side3 => exact Kd.V_mono (HO116.out) (fun k_ hk_ => ⟨hk_, hk_.2⟩)); rintro e w61 ⟨v132, rfl, ho0, hb, hkp⟩; refine ⟨_, rfl, ?_⟩; have n0_ := aM (Kd.V_mono (ok' := fun k_ => ((P0_ k_ ∨ P1_ k_) ∨ w.heap.size ≤ k_) ∧ some k_ ≠ (v132 : Value).ownBlock) (Kd.V_keptB (HO_1.out) hkp (fun k_ hk_ hs_ => (hk_.2) hs_)) (fun k_ hk_ => ⟨hk_.1.1, fun e_ => Or.elim (ho0.1 k_ e_.symm) (fun hs_ => hk_.2.1 hs_) (fun hn_ => Nat.not_le.2 hk_.2.2 hn_)⟩)); have n1_ := aM (Kd.V_mono (ok' := fun k_ => ((P0_ k_ ∨ P1_ k_) ∨ w.heap.size ≤ k_) ∧ some k_ ≠ (v132 : Value).ownBlock) (Kd.V_keptB (HO116.out) hkp (fun k_ hk_ hs_ => (hk_.2) hs_)) (fun k_ hk_ => ⟨hk_.1.1, fun e_ => Or.elim (ho0.1 k_ e_.symm) (fun hs_ => hk_.2.1 hs_) (fun hn_ => Nat.not_le.2 hk_.2.2 hn_)⟩)); have n2_ := aM (Kd.R_mono (ok' := fun k_ => (P0_ k_ ∨ w.heap.size ≤ k_)) ho0 (fun k_ hk_ => Or.elim hk_ (fun hs_ => (HO111.out.1 k_ (hs_).symm)) (fun hn_ => (.inr (Nat.le_trans (by first | exact HK.out.1 | exact (show Kept w _ (fun k_ => P0_ k_) from by repeat (first | (with_reducible first | exact HK.out | apply Kept.alloc | apply Kept.drewN | apply Kept.drew) | exact HK.out)).1) hn_))))); have n3_ := aM (Kept.then_ (S := (fun k_ => P0_ k_)) (by repeat (first | (with_reducible first | exact HK.out | apply Kept.alloc | apply Kept.drewN | apply Kept.drew) | exact HK.out)) hkp (fun k_ hs_ => (fun e_ => (HO111.out.1 k_ e_.symm)) hs_)); have n4_ := aM (hb); clear HO_1; clear HO116; clear HK; clear HB; clear HO111; have HO_1 := n0_; have HO116 := n1_; have HO133 := n2_; have HK := n3_; have HB := n4_; clear n0_ n1_ n2_ n3_ n4_; (try clear hb); (try clear hkp); (try clear ho0); have q62 : (x9_5 : Int) ≤ ((x1_1.length : Int) : Int) := of_decide_eq_true (by first | (with_reducible assumption) | assumption); obtain ⟨i062, hi062, _, hsz62, _⟩ := info_parts info9; have hroom62 : x1_1.length ≤ co7 := (Kd.V_reads' HO_1.out).2.1; have hC62 : Kd.F Kd.string _ _ (some ad104) x1_1.length x1_1 := (Kd.V_at (base := w0.heap.size) HO_1.out).2.2; have q062 : (0 : Int) ≤ (x9_5 : Int) := of_decide_eq_true (by first | (with_reducible assumption) | assumption); have hcut62 := cut_from (P := Try.prog) 22 9 .i64 Try.underlying22 hi062 1 hsz62 (some ad104) x1_1.length co7 x9_5 q062 q62; have hr62 := Kd.F_cut (m := (x9_5 : Int).toNat) (c := co7) hC62 (by omega) hroom62; obtain ⟨A62, hA62⟩ : ∃ A1, A1 = (if co7 = (x9_5 : Int).toNat then (some ad104) else ((some ad104) : Option Addr).map (·.add ((x9_5 : Int).toNat * 1))) := ⟨_, rfl⟩; obtain ⟨c62, hc62⟩ : ∃ c1, c1 = co7 - (x9_5 : Int).toNat := ⟨_, rfl⟩; have hy62 : y134.length = x1_1.length - (x9_5 : Int).toNat := (by rw [Ny134.out, List.length_drop] <;> omega); rw [show (x1_1).drop (x9_5 : Int).toNat = y134 from Ny134.out.symm] at hr62; replace hr62 : Kd.F Kd.string _ _ A62 y134.length y134 := (by rw [hA62]; exact hr62); rw [← hy62, ← hA62, ← hc62] at hcut62; have HO138 := aM (show Kd.V Kd.string 9 _ w0.heap.size _ (.slice A62 y134.length c62) y134 from Kd.V_mk (by rw [hy62, hc62]; exact Nat.sub_le_sub_right hroom62 _) hr62); have HC138 := aM (show y134.length ≤ c62 from by rw [hy62, hc62]; exact Nat.sub_le_sub_right hroom62 _); clear hr62 hC62 hroom62 hi062 hsz62 hc62; have KY62 := aM hy62; have KA62 := aM hA62; clear hy62 hA62; replace q62 := eq_true q62))
                    go_roundg kj5
                    case measure => have := HK1.out; have := HJ5.out; omega
                    case rel => exact ⟨(t131), (y134), H', ⟨by have := HK1.out; have := HJ5.out; omega⟩, ⟨by (with_reducible repeat (first | apply Kd.R_alloc | apply Kd.R_drewN | apply Kd.R_drew)); exact HO133.out⟩, ⟨by (with_reducible repeat (first | apply Kd.V_alloc | apply Kd.V_drewN | apply Kd.V_drew)); exact HO138.out⟩, ⟨by repeat (first | (with_reducible first | exact HK.out | apply Kept.alloc | apply Kept.drewN | apply Kept.drew) | exact HK.out)⟩, ⟨by repeat (first | (with_reducible first | exact HB.out | apply below_alloc | apply pw_below_drewN | apply below_drew1) | exact HB.out)⟩⟩
                  ·
                   rw [if_neg c36] at H
                   exact absurd H (by simp)
                 ·
                  rw [if_neg c35] at H
                  exact absurd H (by simp)
                ·
                 rw [if_neg c34] at H
                 exact absurd H (by simp)
               ·
                rw [if_neg c33] at H
                exact absurd H (by simp)
              ·
               rw [if_neg c32] at H
               exact absurd H (by simp)
             ·
              rw [if_neg c31] at H
              exact absurd H (by simp)
            ·
             rw [if_neg c30] at H
             exact absurd H (by simp)
           ·
            rw [if_neg c27] at H
            exact absurd H (by simp)
          ·
           rw [if_neg c25] at H
           exact absurd H (by simp)
         ·
          rw [if_neg c24] at H
          exact absurd H (by simp)
        ·
         rw [if_neg c22] at H
         exact absurd H (by simp)
       ·
        rw [if_neg c21] at H
        exact absurd H (by simp)
      ·
       rw [if_neg c20] at H
       exact absurd H (by simp)
   ·
    rw [if_neg c5] at H
    have c5b0 : decide (0 < (x1_1.length : Int)) = false := decide_eq_false c5
    have c5b1 : decide (0 < x1_1.length) = false := decide_eq_false (by omega)
    clear c5
    obtain rfl := Option.some.inj H
    obtain ⟨Ao63, co63, eo63⟩ := Kd.V_slice HO_1.out
    subst eo63
    go_wp2
    go_ret
    exact ⟨_, by first | rfl | (simp [errW_none, errW_some] <;> rfl) | (simp [*, errW_none, errW_some] <;> rfl), by (with_reducible repeat (first | apply Kd.R_alloc | apply Kd.R_drewN | apply Kd.R_drew)); exact HO_0.out, by repeat (first | (with_reducible first | exact HB.out | apply below_alloc | apply pw_below_drewN | apply below_drew1) | exact HB.out), by repeat (first | (with_reducible first | exact HK.out | apply Kept.alloc | apply Kept.drewN | apply Kept.drew) | exact HK.out)⟩

def impl_smallLetters.l0 : Nat → ByteArray → Int → Int → Int → Option (Bool)
 | 0, _, _, _, _ => none
 | k + 1, x0, x1, x7, x8 => if x8 < x7 then (if 0 ≤ x8 then (if x8 < (x0.size : Int) then (if (bt x0 x8) < 97 then (some false) else (if (bt x0 x8) > 122 then (some false) else (impl_smallLetters.l0 k x0 x1 x7 (wrap64 (x8 + 1))))) else (none)) else (none)) else (some (decide ((x0.size : Int) ≤ x1)))
def impl_smallLetters.f (k : Nat) (a0 : ByteArray) (a1 : Int) : Option (Bool) := impl_smallLetters.l0 k a0 a1 (a0.size : Int) 0
set_option maxHeartbeats 8000000 in
set_option maxRecDepth 100000 in
theorem impl_smallLetters.calls (k : Nat) (a0 : ByteArray) (a1 : Int) (r : Bool) (w : World) (h : impl_smallLetters.f k a0 a1 = some r) :
  Calls Try.prog 69 #[.string a0, .int .i64 a1] w fun e w' => e = .returned (.bool r) ∧ Drawn0 w w' := by
 have H : (impl_smallLetters.l0 k a0 a1 (a0.size : Int) 0) = some r := h
 clear h
 have H' := aM H
 clear H
 go_enter Try.func69, Try.ntmps69
 go_wp2
 go_loopg [8] k (fun kq v8 w' => ∃ (x8_1 : Int), v8 = .int .i64 x8_1 ∧ Aside0 (impl_smallLetters.l0 kq a0 a1 (a0.size : Int) x8_1 = some r) ∧ Aside0 (kq ≤ k) ∧ Drawn0 w w')
 case atStart => exact ⟨(0), (by first | rfl | (simp; done) | (simp [*]; done)), H', ⟨Nat.le_refl _⟩, by repeat (first | exact Drawn0.refl _ | apply Drawn0.step)⟩
 case round =>
  clear H'
  try clear p2
  obtain ⟨x8_1, rfl, HA, HK1, ⟨m1, rfl⟩⟩ := hrel
  cases gk with
  | zero => exact absurd HA.out (by simp [impl_smallLetters.l0])
  | succ k1 =>
   have H := HA.out
   clear HA
   simp only [impl_smallLetters.l0] at H
   by_cases c3 : x8_1 < (a0.size : Int)
   ·
    rw [if_pos c3] at H
    have c3b0 : decide (x8_1 < (a0.size : Int)) = true := decide_eq_true c3
    clear c3
    by_cases c4 : 0 ≤ x8_1
    ·
     rw [if_pos c4] at H
     have c4b0 : decide (0 ≤ x8_1) = true := decide_eq_true c4
     clear c4
     by_cases c5 : x8_1 < (a0.size : Int)
     ·
      rw [if_pos c5] at H
      have c5b0 : decide (x8_1 < (a0.size : Int)) = true := decide_eq_true c5
      clear c5
      by_cases c7 : (bt a0 x8_1) < 97
      ·
       rw [if_pos c7] at H
       have c7b0 : decide ((bt a0 x8_1) < 97) = true := decide_eq_true c7
       clear c7
       obtain rfl := Option.some.inj H
       have p6 : 0 ≤ (x8_1 : Int) := of_decide_eq_true (by first | (with_reducible assumption) | assumption)
       have q6 : x8_1 < (a0.size : Int) := of_decide_eq_true (by first | (with_reducible assumption) | assumption)
       have hx6 := bt_at a0 x8_1
       replace p6 := eq_true p6
       replace q6 := eq_true q6
       go_wp2
       go_ret
       exact ⟨by first | rfl | (simp; done) | (simp [*]; done), by repeat (first | exact Drawn0.refl _ | apply Drawn0.step)⟩
      ·
       rw [if_neg c7] at H
       have c7b0 : decide ((bt a0 x8_1) < 97) = false := decide_eq_false c7
       clear c7
       by_cases c9 : (bt a0 x8_1) > 122
       ·
        rw [if_pos c9] at H
        have c9b0 : decide (122 < (bt a0 x8_1)) = true := decide_eq_true c9
        clear c9
        obtain rfl := Option.some.inj H
        have p6 : 0 ≤ (x8_1 : Int) := of_decide_eq_true (by first | (with_reducible assumption) | assumption)
        have q6 : x8_1 < (a0.size : Int) := of_decide_eq_true (by first | (with_reducible assumption) | assumption)
        have hx6 := bt_at a0 x8_1
        replace p6 := eq_true p6
        replace q6 := eq_true q6
        have p8 : 0 ≤ (x8_1 : Int) := of_decide_eq_true (by first | (with_reducible assumption) | assumption)
        have q8 : x8_1 < (a0.size : Int) := of_decide_eq_true (by first | (with_reducible assumption) | assumption)
        have hx8 := bt_at a0 x8_1
        replace p8 := eq_true p8
        replace q8 := eq_true q8
        go_wp2
        go_ret
        exact ⟨by first | rfl | (simp; done) | (simp [*]; done), by repeat (first | exact Drawn0.refl _ | apply Drawn0.step)⟩
       ·
        rw [if_neg c9] at H
        have c9b0 : decide (122 < (bt a0 x8_1)) = false := decide_eq_false c9
        clear c9
        have H' := aM H
        clear H
        have p6 : 0 ≤ (x8_1 : Int) := of_decide_eq_true (by first | (with_reducible assumption) | assumption)
        have q6 : x8_1 < (a0.size : Int) := of_decide_eq_true (by first | (with_reducible assumption) | assumption)
        have hx6 := bt_at a0 x8_1
        replace p6 := eq_true p6
        replace q6 := eq_true q6
        have p8 : 0 ≤ (x8_1 : Int) := of_decide_eq_true (by first | (with_reducible assumption) | assumption)
        have q8 : x8_1 < (a0.size : Int) := of_decide_eq_true (by first | (with_reducible assumption) | assumption)
        have hx8 := bt_at a0 x8_1
        replace p8 := eq_true p8
        replace q8 := eq_true q8
        go_wp2
        go_roundg k1
        case measure => have := HK1.out; omega
        case rel => exact ⟨(wrap64 (x8_1 + 1)), (by first | rfl | (simp; done) | (simp [*]; done)), H', ⟨by have := HK1.out; omega⟩, by repeat (first | exact Drawn0.refl _ | apply Drawn0.step)⟩
     ·
      rw [if_neg c5] at H
      exact absurd H (by simp)
    ·
     rw [if_neg c4] at H
     exact absurd H (by simp)
   ·
    rw [if_neg c3] at H
    have c3b0 : decide (x8_1 < (a0.size : Int)) = false := decide_eq_false c3
    clear c3
    obtain rfl := Option.some.inj H
    go_wp2
    go_ret
    exact ⟨by first | rfl | (simp; done) | (simp [*]; done), by repeat (first | exact Drawn0.refl _ | apply Drawn0.step)⟩

def impl_nameOK.f (k : Nat) (a0 : ByteArray) : Option (Bool) := if a0.toList = ([] : List UInt8) then (some false) else ((impl_smallLetters.f k a0 20).bind fun t101 => (some t101))
set_option maxHeartbeats 8000000 in
set_option maxRecDepth 100000 in
theorem impl_nameOK.calls (k : Nat) (a0 : ByteArray) (r : Bool) (w : World) (h : impl_nameOK.f k a0 = some r) :
  Calls Try.prog 42 #[.string a0] w fun e w' => e = .returned (.bool r) ∧ Drawn0 w w' := by
 have H : (if a0.toList = ([] : List UInt8) then (some false) else ((impl_smallLetters.f k a0 20).bind fun t101 => (some t101))) = some r := h
 clear h
 by_cases c2 : a0.toList = ([] : List UInt8)
 ·
  rw [if_pos c2] at H
  have c2b0 : (a0.toList == ([] : List UInt8)) = true := beq_iff_eq.mpr c2
  have c2b1 : (a0.toList != ([] : List UInt8)) = false := bne_eq_false_iff_eq.mpr c2
  clear c2
  obtain rfl := Option.some.inj H
  go_enter Try.func42, Try.ntmps42
  go_wp2
  go_ret
  exact ⟨by first | rfl | (rw [Go.Proofs.Ytcngebfcpobnnaa.Pre.bne_nil]; first | rfl | (simp; done) | (simp <;> rfl)) | (simp; done) | (simp [*]; done), by repeat (first | exact Drawn0.refl _ | apply Drawn0.step)⟩
 ·
  rw [if_neg c2] at H
  have c2b0 : (a0.toList == ([] : List UInt8)) = false := beq_eq_false_iff_ne.mpr c2
  have c2b1 : (a0.toList != ([] : List UInt8)) = true := bne_iff_ne.mpr c2
  replace H := Option.bind_eq_some_iff.mp H
  obtain ⟨t101, A30, H⟩ := H
  replace H : (some t101) = some r := H
  have A3 := aM A30
  clear A30
  obtain rfl := Option.some.inj H
  go_enter Try.func42, Try.ntmps42
  go_wp2_with (first | (go_at_call 69; (try simp only [i64_w]); (with_reducible refine (impl_smallLetters.calls k a0 20 t101 _ A3.out).mono ?_); rintro e w' ⟨rfl, ⟨nd, rfl⟩⟩))
  go_ret
  exact ⟨by first | rfl | (rw [Go.Proofs.Ytcngebfcpobnnaa.Pre.bne_nil]; first | rfl | (simp; done) | (simp <;> rfl)) | (simp; done) | (simp [*]; done), by repeat (first | exact Drawn0.refl _ | apply Drawn0.step)⟩

def impl_radixOf.f (k : Nat) (l0 : List ByteArray) : Option ((List (S64))) := (impl_grow.f k (([(⟨(⟨#[]⟩ : ByteArray), false, (-1)⟩ : S64)] : List (S64))) l0 0 0).bind fun t143 => (some t143)
set_option maxHeartbeats 8000000 in
set_option maxRecDepth 100000 in
theorem impl_radixOf.calls (k : Nat) (A0 : Option Addr) (c0 : Nat) (l0 : List ByteArray) (r : List (S64)) (w : World) (hr0 : Kd.C Kd.string w A0 l0.length l0) (hc0 : l0.length ≤ c0) (h : impl_radixOf.f k l0 = some r) :
  Calls Try.prog 46 #[.slice A0 l0.length c0] w fun e w' => ∃ v0_ : Value, e = .returned (.agg #[v0_]) ∧ Kd.R k64 64 w' w.heap.size (fun _ => True) v0_ r ∧ Below w.heap.size w w' := by
 have hu26 := Try.underlying26
 have hu64 := Try.underlying64
 have HR0 := aM hr0
 have HC0 := aM hc0
 clear hr0 hc0
 have HB := aM (Below.refl w.heap.size w)
 have H : ((impl_grow.f k (([(⟨(⟨#[]⟩ : ByteArray), false, (-1)⟩ : S64)] : List (S64))) l0 0 0).bind fun t143 => (some t143)) = some r := h
 clear h
 obtain ⟨y140, hy140⟩ : ∃ y_ : List (S64), y_ = (([(⟨(⟨#[]⟩ : ByteArray), false, (-1)⟩ : S64)] : List (S64))) := ⟨_, rfl⟩
 replace H : ((impl_grow.f k y140 l0 0 0).bind fun t143 => (some t143)) = some r := by first | (rw [hy140]; with_reducible exact H) | (have H2_ := (Option.bind_some _ _).symm.trans H; rw [hy140]; with_reducible exact H2_) | (have H2_ := (Option.bind_some _ _).symm.trans H; with_reducible exact H2_) | with_reducible exact H | (rw [hy140]; exact H) | exact H
 have Ny140 := aM hy140
 clear hy140
 replace H := Option.bind_eq_some_iff.mp H
 obtain ⟨t143, A20, H⟩ := H
 replace H : (some t143) = some r := H
 have A2 := aM A20
 clear A20
 obtain rfl := Option.some.inj H
 go_enter Try.func46, Try.ntmps46
 go_wp2_with (first | ((with_reducible refine gate_dst (N := 2) rfl ?_); refine box_event ?hg (N := 2) ?hd (cs := #[.slice none 0 0]) (t := 26) ?hr ?_; (case hd => rfl); (case hg => rfl); (case hr => first | (go_simp; done) | (go_simp; rfl)); intro gb139 hg w3 hbox hb; have n0_ := aM (below_step (by repeat (first | (with_reducible first | exact HB.out | apply below_alloc | apply pw_below_drewN | apply below_drew1) | exact HB.out)) hb); have n1_ := aM (hbox); have n2_ := aM ((by rw [hg]; exact (below_size (by repeat (first | (with_reducible first | exact HB.out | apply below_alloc | apply pw_below_drewN | apply below_drew1) | exact HB.out))) : w.heap.size ≤ gb139)); have n3_ := aM ((by rw [hg]; exact (below_size (by repeat (first | (with_reducible first | exact HB.out | apply below_alloc | apply pw_below_drewN | apply below_drew1) | exact HB.out))) : w.heap.size ≤ gb139)); clear HB; have HB := n0_; have BK139 := n1_; have GW139 := n2_; have GE139 := n3_; clear n0_ n1_ n2_ n3_; clear hb hbox hg) | ((with_reducible refine gate_dst (N := 4) rfl ?_); refine Kd.R_lit k64 _ 64 ?hg (N := 4) ?hd (xs := ([(⟨(⟨#[]⟩ : ByteArray), false, (-1)⟩ : S64)] : List (S64))) (inner := [.string (⟨#[]⟩ : ByteArray), .bool false, .int .i64 (-1)]) (ok := fun _ => True) (okp := fun _ => True) ?hr ?hp (fun _ hk => hk) trivial (Below.refl _ _) (Nat.le_refl _) (by simp) ?_; (case hd => rfl); (case hg => rfl); (case hr => first | (go_simp; done) | (go_simp; rfl)); (case hp => exact (Reps.c3 (show Kd.M k64 _ _ _ (⟨(⟨#[]⟩ : ByteArray), false, (-1)⟩ : S64) [.string (⟨#[]⟩ : ByteArray), .bool false, .int .i64 (-1)] from (k64_mkM _ _ _ (⟨(⟨#[]⟩ : ByteArray), false, (-1)⟩ : S64) )) (Reps.none _ _))); intro v141 w4 ho5 hb hg_ hnew_; clear hg_ hnew_; (first | rw [← Ny140.out] at ho5 | (simp only [Int.reduceToNat] at ho5; rw [← Ny140.out] at ho5)); have n0_ := aM (Kd.R_lower ho5 (below_size (by repeat (first | (with_reducible first | exact HB.out | apply below_alloc | apply pw_below_drewN | apply below_drew1 | refine below_set ?_ GE139.out) | exact HB.out)))); have n1_ := aM (blk_below (g := gb139) (o := .cells #[.slice none 0 0] 26 (0, 0)) (by (with_reducible repeat (first | refine blk_drewN ?_ _ | refine blk_drew ?_ | refine blk_alloc ?_ _)); exact BK139.out) hb); have n2_ := aM (below_step (by repeat (first | (with_reducible first | exact HB.out | apply below_alloc | apply pw_below_drewN | apply below_drew1 | refine below_set ?_ GE139.out) | exact HB.out)) hb); clear BK139; clear HB; have HO142 := n0_; have BK139 := n1_; have HB := n2_; clear n0_ n1_ n2_; clear hb ho5; obtain ⟨Ao6, co6, eo6⟩ := Kd.R_slice HO142.out; subst eo6) | ((with_reducible refine gate_callee (f := 72) rfl ?_); refine goesL_ (some 6) rfl rfl Try.func72 (by kernel_rfl) rfl #[.slice Ao6 y140.length co6, .slice A0 l0.length c0, .int .i64 0, .int .i64 0] rfl (by (try simp only [List.map_toArray, List.map_cons, List.map_nil]); first | done | rfl | (simp only [List.length_drop, List.length_take]; rfl)) ?_; (with_reducible refine (impl_grow.calls k (fun k_ => some k_ = (.slice Ao6 y140.length co6 : Value).ownBlock) (.slice Ao6 y140.length co6) y140 (fun k_ => k_ < w.heap.size) _ _ l0 0 0 t143 w _ ?side1 ?side2 ?side3 A2.out).mono ?_); (case side1 => repeat (first | (with_reducible first | exact HB.out | apply below_alloc | apply pw_below_drewN | apply below_drew1 | refine below_set ?_ GE139.out) | exact HB.out)); (case side2 => exact Kd.R_tight rfl HO142.out); (case side3 => exact Kd.V_mono (Kd.V_mk HC0.out (Kd.F_below (Kd.C_F Kd.heap_string HR0.out) (by repeat (first | (with_reducible first | exact HB.out | apply below_alloc | apply pw_below_drewN | apply below_drew1 | refine below_set ?_ GE139.out) | exact HB.out)))) (fun k_ hk_ => ⟨hk_, fun e_ => Nat.not_le.2 hk_ (Kd.R_base HO142.out k_ e_.symm)⟩)); rintro e w7 ⟨v144, rfl, ho0, hb, hkp⟩; refine ⟨_, rfl, ?_⟩; have n0_ := aM (blk_kept (by (with_reducible repeat (first | refine blk_drewN ?_ _ | refine blk_drew ?_ | refine blk_alloc ?_ _)); exact BK139.out) hkp (fun hs_ => (fun e_ => (Kd.R_ne HO142.out BK139.out (by decide)) e_) hs_)); have n1_ := aM (Kd.R_mono (ok' := fun k_ => True) ho0 (fun k_ hk_ => trivial)); have n2_ := aM (hb); clear BK139; clear HB; clear HO142; have BK139 := n0_; have HO145 := n1_; have HB := n2_; clear n0_ n1_ n2_; (try clear hb); (try clear hkp); (try clear ho0); obtain ⟨Ao8, co8, eo8⟩ := Kd.R_slice HO145.out; subst eo8; have hcz9_0 : w7.cell? ⟨gb139, 0, none⟩ = some (.slice none 0 0) := (blk_cell BK139.out 0).trans rfl; have hfz9_0 := blk_frozen BK139.out 0))
 refine bodyPost_ret (results_cell_row rfl _ _ gb139 26 #[.slice Ao8 t143.length co8] (0, 0) _ rfl (by (with_reducible repeat (first | refine blk_drewN ?_ _ | refine blk_drew ?_ | refine blk_alloc ?_ _)); refine blk_put (cs := #[.slice none 0 0]) ?_ 0 _ rfl; (with_reducible repeat (first | refine blk_drewN ?_ _ | refine blk_drew ?_ | refine blk_alloc ?_ _)); exact BK139.out) Try.underlying26 rfl (by kernel_rfl)) rfl ?_
 exact ⟨_, by first | rfl | (simp [errW_none, errW_some] <;> rfl) | (simp [*, errW_none, errW_some] <;> rfl), by (with_reducible repeat (first | apply Kd.R_alloc | apply Kd.R_drewN | apply Kd.R_drew)); exact Kd.R_mono (Kd.R_far (p := ⟨gb139, 0, none⟩) (Kd.R_types HO145.out BK139.out (by decide)) (fun _ hk => hk.2) (.slice Ao8 t143.length co8)) (fun _ hk => trivial), by repeat (first | (with_reducible first | exact HB.out | apply below_alloc | apply pw_below_drewN | apply below_drew1 | refine below_set ?_ GE139.out) | exact HB.out)⟩

def impl_within.f (a0 : Int) (a1 : Int) (a2 : Int) : Option (Bool) := if a0 ≥ a1 then (some (decide (a0 ≤ a2))) else (some false)
set_option maxHeartbeats 8000000 in
set_option maxRecDepth 100000 in
theorem impl_within.calls (a0 : Int) (a1 : Int) (a2 : Int) (r : Bool) (w : World) (h : impl_within.f a0 a1 a2 = some r) :
  Calls Try.prog 78 #[.int .i64 a0, .int .i64 a1, .int .i64 a2] w fun e w' => e = .returned (.bool r) ∧ Drawn0 w w' := by
 have H : (if a0 ≥ a1 then (some (decide (a0 ≤ a2))) else (some false)) = some r := h
 clear h
 by_cases c4 : a0 ≥ a1
 ·
  rw [if_pos c4] at H
  have c4b0 : decide (a1 ≤ a0) = true := decide_eq_true c4
  clear c4
  obtain rfl := Option.some.inj H
  go_enter Try.func78, Try.ntmps78
  go_wp2
  go_ret
  exact ⟨by first | rfl | (simp; done) | (simp [*]; done), by repeat (first | exact Drawn0.refl _ | apply Drawn0.step)⟩
 ·
  rw [if_neg c4] at H
  have c4b0 : decide (a1 ≤ a0) = false := decide_eq_false c4
  clear c4
  obtain rfl := Option.some.inj H
  go_enter Try.func78, Try.ntmps78
  go_wp2
  go_ret
  exact ⟨by first | rfl | (simp; done) | (simp [*]; done), by repeat (first | exact Drawn0.refl _ | apply Drawn0.step)⟩

end Go.Proofs.Ytcngebfcpobnnaa.PQ
end

section
namespace Go.Proofs.Ytcngebfcpobnnaa.PQ
open Go.RowKit Go.Proofs.YtcngebfcpobnnaaW.PrintWords Go.Proofs.YtcngebfcpobnnaaW.PrintLast Go.Proofs.YtcngebfcpobnnaaW.PrintMore
attribute [local go_sem] max2_int min2_int max_two min_two max_three min_three max_four min_four
set_option linter.unusedVariables false
set_option linter.unusedSimpArgs false
attribute [local go_sem high] eqA64
def impl_Edge_79.l0 : Nat → List (S64) → List (S64) → Int → Int → Option (Bool)
 | 0, _, _, _, _ => none
 | k + 1, x0, x1, x12, x13 => if x13 < x12 then (if 0 ≤ x13 then (if x13 < (x0.length : Int) then (if x13 < (x1.length : Int) then (if (!((((rd_T64 x0 x13).f0).toList) == (((rd_T64 x1 x13).f0).toList)) || (!(((rd_T64 x0 x13).f1) == ((rd_T64 x1 x13).f1)) || (!(((rd_T64 x0 x13).f2) == ((rd_T64 x1 x13).f2))))) = true then (some false) else (impl_Edge_79.l0 k x0 x1 x12 (wrap64 (x13 + 1)))) else (none)) else (none)) else (none)) else (some true)
def impl_Edge_79.f (k : Nat) (l0 : List (S64)) (l1 : List (S64)) : Option (Bool) := if (l0.length : Int) = (l1.length : Int) then (impl_Edge_79.l0 k l0 l1 (l0.length : Int) 0) else (some false)
set_option maxHeartbeats 8000000 in
set_option maxRecDepth 100000 in
theorem impl_Edge_79.calls (k : Nat) (A0 : Option Addr) (c0 : Nat) (l0 : List (S64)) (A1 : Option Addr) (c1 : Nat) (l1 : List (S64)) (r : Bool) (w : World) (hr0 : Kd.C k64 w A0 l0.length l0) (hc0 : l0.length ≤ c0) (hr1 : Kd.C k64 w A1 l1.length l1) (hc1 : l1.length ≤ c1) (h : impl_Edge_79.f k l0 l1 = some r) :
  Calls Try.prog 79 #[.slice A0 l0.length c0, .slice A1 l1.length c1] w fun e w' => e = .returned (.bool r) ∧ Drawn0 w w' := by
 have hu64 := Try.underlying64
 have HR0 := aM hr0
 have HC0 := aM hc0
 clear hr0 hc0
 have HR1 := aM hr1
 have HC1 := aM hc1
 clear hr1 hc1
 have H : (if (l0.length : Int) = (l1.length : Int) then (impl_Edge_79.l0 k l0 l1 (l0.length : Int) 0) else (some false)) = some r := h
 clear h
 by_cases c3 : (l0.length : Int) = (l1.length : Int)
 ·
  rw [if_pos c3] at H
  have c3b0 : ((l0.length : Int) == (l1.length : Int)) = true := beq_iff_eq.mpr c3
  have c3b1 : ((l0.length : Int) != (l1.length : Int)) = false := bne_eq_false_iff_eq.mpr c3
  have c3b2 : (l0.length == l1.length) = true := by first | simpa using c3 | (simp at c3 ⊢; omega)
  clear c3
  have H' := aM H
  clear H
  go_enter Try.func79, Try.ntmps79
  go_wp2
  repeat (go_quiet (fail); try go_wp2)
  go_loopg [13] k (fun kq v13 w' => ∃ (x13_1 : Int), v13 = .int .i64 x13_1 ∧ Aside0 (impl_Edge_79.l0 kq l0 l1 (l0.length : Int) x13_1 = some r) ∧ Aside0 (kq ≤ k) ∧ Drawn0 w w')
  case atStart => exact ⟨(0), (by first | rfl | (simp; done) | (simp [*]; done)), H', ⟨Nat.le_refl _⟩, by repeat (first | exact Drawn0.refl _ | apply Drawn0.step)⟩
  case round =>
   clear H'
   try clear c1
   try clear p2
   try clear c3
   try clear c3b0
   try clear c3b1
   try clear c3b2
   obtain ⟨x13_1, rfl, HA, HK1, ⟨m1, rfl⟩⟩ := hrel
   cases gk with
   | zero => exact absurd HA.out (by simp [impl_Edge_79.l0])
   | succ k1 =>
    have H := HA.out
    clear HA
    simp only [impl_Edge_79.l0] at H
    by_cases c4 : x13_1 < (l0.length : Int)
    ·
     rw [if_pos c4] at H
     have c4b0 : decide (x13_1 < (l0.length : Int)) = true := decide_eq_true c4
     clear c4
     by_cases c5 : 0 ≤ x13_1
     ·
      rw [if_pos c5] at H
      have c5b0 : decide (0 ≤ x13_1) = true := decide_eq_true c5
      clear c5
      by_cases c6 : x13_1 < (l0.length : Int)
      ·
       rw [if_pos c6] at H
       have c6b0 : decide (x13_1 < (l0.length : Int)) = true := decide_eq_true c6
       clear c6
       by_cases c7 : x13_1 < (l1.length : Int)
       ·
        rw [if_pos c7] at H
        have c7b0 : decide (x13_1 < (l1.length : Int)) = true := decide_eq_true c7
        clear c7
        by_cases c8 : (!((((rd_T64 l0 x13_1).f0).toList) == (((rd_T64 l1 x13_1).f0).toList)) || (!(((rd_T64 l0 x13_1).f1) == ((rd_T64 l1 x13_1).f1)) || (!(((rd_T64 l0 x13_1).f2) == ((rd_T64 l1 x13_1).f2))))) = true
        ·
         rw [if_pos c8] at H
         have c8b0 : (!((((rd_T64 l0 x13_1).f0).toList) == (((rd_T64 l1 x13_1).f0).toList)) || (!(((rd_T64 l0 x13_1).f1) == ((rd_T64 l1 x13_1).f1)) || (!(((rd_T64 l0 x13_1).f2) == ((rd_T64 l1 x13_1).f2))))) = true := c8
         clear c8
         obtain rfl := Option.some.inj H
         have p503 : 0 ≤ (x13_1 : Int) := of_decide_eq_true (by first | (with_reducible assumption) | assumption)
         have q503 : x13_1 < (l0.length : Int) := of_decide_eq_true (by first | (with_reducible assumption) | assumption)
         obtain ⟨ad503, e503, hx503_0, hx503_1, hx503_2⟩ := at_T64 HR0.out x13_1 p503 q503
         cases e503
         try have hz_hx503_0 := aM hx503_0
         try have hz_hx503_1 := aM hx503_1
         try have hz_hx503_2 := aM hx503_2
         replace p503 := eq_true p503
         replace q503 := eq_true q503
         have p504 : 0 ≤ (x13_1 : Int) := of_decide_eq_true (by first | (with_reducible assumption) | assumption)
         have q504 : x13_1 < (l1.length : Int) := of_decide_eq_true (by first | (with_reducible assumption) | assumption)
         obtain ⟨ad504, e504, hx504_0, hx504_1, hx504_2⟩ := at_T64 HR1.out x13_1 p504 q504
         cases e504
         try have hz_hx504_0 := aM hx504_0
         try have hz_hx504_1 := aM hx504_1
         try have hz_hx504_2 := aM hx504_2
         replace p504 := eq_true p504
         replace q504 := eq_true q504
         go_wp2
         repeat (go_quiet (fail); try go_wp2)
         go_ret
         exact ⟨by first | rfl | (simp; done) | (simp [*]; done), by repeat (first | exact Drawn0.refl _ | apply Drawn0.step)⟩
        ·
         rw [if_neg c8] at H
         have c8b0 : (!((((rd_T64 l0 x13_1).f0).toList) == (((rd_T64 l1 x13_1).f0).toList)) || (!(((rd_T64 l0 x13_1).f1) == ((rd_T64 l1 x13_1).f1)) || (!(((rd_T64 l0 x13_1).f2) == ((rd_T64 l1 x13_1).f2))))) = false := by simpa using c8
         clear c8
         have H' := aM H
         clear H
         have p503 : 0 ≤ (x13_1 : Int) := of_decide_eq_true (by first | (with_reducible assumption) | assumption)
         have q503 : x13_1 < (l0.length : Int) := of_decide_eq_true (by first | (with_reducible assumption) | assumption)
         obtain ⟨ad503, e503, hx503_0, hx503_1, hx503_2⟩ := at_T64 HR0.out x13_1 p503 q503
         cases e503
         try have hz_hx503_0 := aM hx503_0
         try have hz_hx503_1 := aM hx503_1
         try have hz_hx503_2 := aM hx503_2
         replace p503 := eq_true p503
         replace q503 := eq_true q503
         have p504 : 0 ≤ (x13_1 : Int) := of_decide_eq_true (by first | (with_reducible assumption) | assumption)
         have q504 : x13_1 < (l1.length : Int) := of_decide_eq_true (by first | (with_reducible assumption) | assumption)
         obtain ⟨ad504, e504, hx504_0, hx504_1, hx504_2⟩ := at_T64 HR1.out x13_1 p504 q504
         cases e504
         try have hz_hx504_0 := aM hx504_0
         try have hz_hx504_1 := aM hx504_1
         try have hz_hx504_2 := aM hx504_2
         replace p504 := eq_true p504
         replace q504 := eq_true q504
         go_wp2
         repeat (go_quiet (fail); try go_wp2)
         go_roundg k1
         case measure => have := HK1.out; omega
         case rel => exact ⟨(wrap64 (x13_1 + 1)), (by first | rfl | (simp; done) | (simp [*]; done)), H', ⟨by have := HK1.out; omega⟩, by repeat (first | exact Drawn0.refl _ | apply Drawn0.step)⟩
       ·
        rw [if_neg c7] at H
        exact absurd H (by simp)
      ·
       rw [if_neg c6] at H
       exact absurd H (by simp)
     ·
      rw [if_neg c5] at H
      exact absurd H (by simp)
    ·
     rw [if_neg c4] at H
     have c4b0 : decide (x13_1 < (l0.length : Int)) = false := decide_eq_false c4
     clear c4
     obtain rfl := Option.some.inj H
     go_wp2
     repeat (go_quiet (fail); try go_wp2)
     go_ret
     exact ⟨by first | rfl | (simp; done) | (simp [*]; done), by repeat (first | exact Drawn0.refl _ | apply Drawn0.step)⟩
 ·
  rw [if_neg c3] at H
  have c3b0 : ((l0.length : Int) == (l1.length : Int)) = false := beq_eq_false_iff_ne.mpr c3
  have c3b1 : ((l0.length : Int) != (l1.length : Int)) = true := bne_iff_ne.mpr c3
  have c3b2 : (l0.length == l1.length) = false := by first | simpa using c3 | (simp at c3 ⊢; omega)
  obtain rfl := Option.some.inj H
  go_enter Try.func79, Try.ntmps79
  go_wp2
  repeat (go_quiet (fail); try go_wp2)
  go_ret
  exact ⟨by first | rfl | (simp; done) | (simp [*]; done), by repeat (first | exact Drawn0.refl _ | apply Drawn0.step)⟩

end Go.Proofs.Ytcngebfcpobnnaa.PQ
end

section
namespace Go.Proofs.Ytcngebfcpobnnaa.PQ
open Go.RowKit Go.Proofs.YtcngebfcpobnnaaW.PrintWords Go.Proofs.YtcngebfcpobnnaaW.PrintLast Go.Proofs.YtcngebfcpobnnaaW.PrintMore
attribute [local go_sem] max2_int min2_int max_two min_two max_three min_three max_four min_four
set_option linter.unusedVariables false
set_option linter.unusedSimpArgs false

end Go.Proofs.Ytcngebfcpobnnaa.PQ
end
