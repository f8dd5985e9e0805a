/- Several texts in one: what the claim's last text rests on. No conditions. -/
import Derived.Test.YtppmigiknidjhaaMFi6
import Derived.Test.YtppmigiknidjhaaMFi10
section
-- Written by a program of this session (pprint.py) out of the translation's print; Lean checks it.
namespace Go.Proofs.Ytppmigiknidjhaa.PQ
open Go.RowKit Go.Proofs.YtppmigiknidjhaaW.PrintWords Go.Proofs.YtppmigiknidjhaaW.PrintLast Go.Proofs.YtppmigiknidjhaaW.PrintMore
attribute [local go_sem] max2_int min2_int max_two min_two max_three min_three max_four min_four   -- for this text's walks alone
set_option linter.unusedVariables false
set_option linter.unusedSimpArgs false

/-! ### spec_RankOf: function 27 -/
mutual
def spec_RankOf.j0 : Nat → ByteArray → Int → Int → Bool → Option (List Int × Bool)
  | 0, _, _, _, _ => none
  | k + 1, x0, x1, x2, x27 => if x27 = true then (some (([] : List Int), false)) else (if x2 = 1 then (spec_RankOf.j1 k x0 (wrap64 (x1 * 2))) else (spec_RankOf.j1 k x0 x1))
def spec_RankOf.j1 : Nat → ByteArray → Int → Option (List Int × Bool)
  | 0, _, _ => none
  | k + 1, x0, x1 => if 0 ≤ (x0.size : Int) then (if ((x0.size : Int) : Int).toNat ≤ 35184372088832 then ((spec_l12Suffixes.f k x0).bind fun t296 => (spec_RankOf.l0 k x0 x1 ([] : List Int) (⟨#[]⟩ : ByteArray) (-1) (List.replicate ((x0.size : Int) : Int).toNat 0) t296 (t296.length : Int) 0)) else (none)) else (none)
def spec_RankOf.l0 : Nat → ByteArray → Int → List Int → ByteArray → Int → List Int → List Int → Int → Int → Option (List Int × Bool)
  | 0, _, _, _, _, _, _, _, _, _ => none
  | k + 1, x0, x1, x8, x9, x10, x11, x36, x37, x38 => if x38 < x37 then (if 0 ≤ x38 then (if x38 < (x36.length : Int) then (if 0 ≤ (rd x36 x38) then (if (rd x36 x38) ≤ (x0.size : Int) then (if ((x0.extract ((rd x36 x38) : Int).toNat x0.size).size : Int) > x1 then (if 0 ≤ x1 then (if x1 ≤ ((x0.extract ((rd x36 x38) : Int).toNat x0.size).size : Int) then (if x10 < 0 then (if (rd x36 x38) < (x11.length : Int) then (if x8.length < 17592186044416 then (spec_RankOf.l0 k x0 x1 (x8 ++ [wrap64 (x10 + 1)]) ((x0.extract ((rd x36 x38) : Int).toNat x0.size).extract 0 (x1 : Int).toNat) (wrap64 (x10 + 1)) (x11.set ((rd x36 x38) : Int).toNat (wrap64 (x10 + 1))) x36 x37 (wrap64 (x38 + 1))) else (none)) else (none)) else (if ((x0.extract ((rd x36 x38) : Int).toNat x0.size).extract 0 (x1 : Int).toNat).toList = x9.toList then (if (rd x36 x38) < (x11.length : Int) then (if x8.length < 17592186044416 then (spec_RankOf.l0 k x0 x1 (x8 ++ [x10]) ((x0.extract ((rd x36 x38) : Int).toNat x0.size).extract 0 (x1 : Int).toNat) x10 (x11.set ((rd x36 x38) : Int).toNat x10) x36 x37 (wrap64 (x38 + 1))) else (none)) else (none)) else (if (rd x36 x38) < (x11.length : Int) then (if x8.length < 17592186044416 then (spec_RankOf.l0 k x0 x1 (x8 ++ [wrap64 (x10 + 1)]) ((x0.extract ((rd x36 x38) : Int).toNat x0.size).extract 0 (x1 : Int).toNat) (wrap64 (x10 + 1)) (x11.set ((rd x36 x38) : Int).toNat (wrap64 (x10 + 1))) x36 x37 (wrap64 (x38 + 1))) else (none)) else (none)))) else (none)) else (none)) else (if x10 < 0 then (if (rd x36 x38) < (x11.length : Int) then (if x8.length < 17592186044416 then (spec_RankOf.l0 k x0 x1 (x8 ++ [wrap64 (x10 + 1)]) (x0.extract ((rd x36 x38) : Int).toNat x0.size) (wrap64 (x10 + 1)) (x11.set ((rd x36 x38) : Int).toNat (wrap64 (x10 + 1))) x36 x37 (wrap64 (x38 + 1))) else (none)) else (none)) else (if (x0.extract ((rd x36 x38) : Int).toNat x0.size).toList = x9.toList then (if (rd x36 x38) < (x11.length : Int) then (if x8.length < 17592186044416 then (spec_RankOf.l0 k x0 x1 (x8 ++ [x10]) (x0.extract ((rd x36 x38) : Int).toNat x0.size) x10 (x11.set ((rd x36 x38) : Int).toNat x10) x36 x37 (wrap64 (x38 + 1))) else (none)) else (none)) else (if (rd x36 x38) < (x11.length : Int) then (if x8.length < 17592186044416 then (spec_RankOf.l0 k x0 x1 (x8 ++ [wrap64 (x10 + 1)]) (x0.extract ((rd x36 x38) : Int).toNat x0.size) (wrap64 (x10 + 1)) (x11.set ((rd x36 x38) : Int).toNat (wrap64 (x10 + 1))) x36 x37 (wrap64 (x38 + 1))) else (none)) else (none))))) else (none)) else (none)) else (none)) else (none)) else (some (x11, ((x8.length : Int) == (x0.size : Int))))
end
def spec_RankOf.f (k : Nat) (a0 : ByteArray) (a1 : Int) (a2 : Int) : Option (List Int × Bool) := if (a0.size : Int) > 120 then (spec_RankOf.j0 k a0 a1 a2 true) else ((spec_l1In.f a1 1 120).bind fun t291 => (if t291 = true then ((spec_l1In.f a2 0 1).bind fun t292 => (spec_RankOf.j0 k a0 a1 a2 (!t292))) else (spec_RankOf.j0 k a0 a1 a2 true)))
theorem spec_RankOf.mono_l : ∀ k, (∀ y0 y1 y2 y3, LeO (spec_RankOf.j0 k y0 y1 y2 y3) (spec_RankOf.j0 (k + 1) y0 y1 y2 y3)) ∧ (∀ y0 y1, LeO (spec_RankOf.j1 k y0 y1) (spec_RankOf.j1 (k + 1) y0 y1)) ∧ (∀ y0 y1 y2 y3 y4 y5 y6 y7 y8, LeO (spec_RankOf.l0 k y0 y1 y2 y3 y4 y5 y6 y7 y8) (spec_RankOf.l0 (k + 1) y0 y1 y2 y3 y4 y5 y6 y7 y8))
  | 0 => ⟨fun _ _ _ _ r h => by simp [spec_RankOf.j0] at h, fun _ _ r h => by simp [spec_RankOf.j1] at h, fun _ _ _ _ _ _ _ _ _ r h => by simp [spec_RankOf.l0] at h⟩
  | k + 1 => by
    obtain ⟨ih0, ih1, ih2⟩ := spec_RankOf.mono_l k
    refine ⟨?_, ?_, ?_⟩
    · intro y0 y1 y2 y3
      unfold spec_RankOf.j0
      repeat' first
      | (with_reducible exact ih0 _ _ _ _)
      | (with_reducible exact ih1 _ _)
      | (with_reducible exact ih2 _ _ _ _ _ _ _ _ _)
      | (with_reducible exact spec_l12Suffixes.mono _ _)
      | (with_reducible exact LeO.refl _)
      | (with_reducible exact LeO.none _)
      | (with_reducible refine LeO.ite ?_ ?_)
      | (with_reducible refine LeO.bind ?_ (fun _ => ?_))
      | exact ih0 _ _ _ _
      | exact ih1 _ _
      | exact ih2 _ _ _ _ _ _ _ _ _
      | exact spec_l12Suffixes.mono _ _
      | exact LeO.none _
      | refine LeO.ite ?_ ?_
      | refine LeO.bind ?_ (fun _ => ?_)
    · intro y0 y1
      unfold spec_RankOf.j1
      repeat' first
      | (with_reducible exact ih0 _ _ _ _)
      | (with_reducible exact ih1 _ _)
      | (with_reducible exact ih2 _ _ _ _ _ _ _ _ _)
      | (with_reducible exact spec_l12Suffixes.mono _ _)
      | (with_reducible exact LeO.refl _)
      | (with_reducible exact LeO.none _)
      | (with_reducible refine LeO.ite ?_ ?_)
      | (with_reducible refine LeO.bind ?_ (fun _ => ?_))
      | exact ih0 _ _ _ _
      | exact ih1 _ _
      | exact ih2 _ _ _ _ _ _ _ _ _
      | exact spec_l12Suffixes.mono _ _
      | exact LeO.none _
      | refine LeO.ite ?_ ?_
      | refine LeO.bind ?_ (fun _ => ?_)
    · intro y0 y1 y2 y3 y4 y5 y6 y7 y8
      unfold spec_RankOf.l0
      repeat' first
      | (with_reducible exact ih0 _ _ _ _)
      | (with_reducible exact ih1 _ _)
      | (with_reducible exact ih2 _ _ _ _ _ _ _ _ _)
      | (with_reducible exact spec_l12Suffixes.mono _ _)
      | (with_reducible exact LeO.refl _)
      | (with_reducible exact LeO.none _)
      | (with_reducible refine LeO.ite ?_ ?_)
      | (with_reducible refine LeO.bind ?_ (fun _ => ?_))
      | exact ih0 _ _ _ _
      | exact ih1 _ _
      | exact ih2 _ _ _ _ _ _ _ _ _
      | exact spec_l12Suffixes.mono _ _
      | exact LeO.none _
      | refine LeO.ite ?_ ?_
      | refine LeO.bind ?_ (fun _ => ?_)
theorem spec_RankOf.mono : ∀ a0 a1 a2 k, LeO (spec_RankOf.f k a0 a1 a2) (spec_RankOf.f (k + 1) a0 a1 a2) := by
  intro a0 a1 a2 k
  obtain ⟨ih0, ih1, ih2⟩ := spec_RankOf.mono_l k
  unfold spec_RankOf.f
  repeat' first
      | (with_reducible exact ih0 _ _ _ _)
      | (with_reducible exact ih1 _ _)
      | (with_reducible exact ih2 _ _ _ _ _ _ _ _ _)
      | (with_reducible exact spec_l12Suffixes.mono _ _)
      | (with_reducible exact LeO.refl _)
      | (with_reducible exact LeO.none _)
      | (with_reducible refine LeO.ite ?_ ?_)
      | (with_reducible refine LeO.bind ?_ (fun _ => ?_))
      | exact ih0 _ _ _ _
      | exact ih1 _ _
      | exact ih2 _ _ _ _ _ _ _ _ _
      | exact spec_l12Suffixes.mono _ _
      | exact LeO.none _
      | refine LeO.ite ?_ ?_
      | refine LeO.bind ?_ (fun _ => ?_)
set_option maxHeartbeats 8000000 in
set_option maxRecDepth 100000 in
theorem spec_RankOf.calls (k : Nat) (a0 : ByteArray) (a1 : Int) (a2 : Int) (r1 : List Int) (r2 : Bool) (w : World) (h : spec_RankOf.f k a0 a1 a2 = some (r1, r2)) :
    Calls Try.prog 27 #[.string a0, .int .i64 a1, .int .i64 a2] w fun e w' => ∃ v0_ : Value, e = .returned (.tuple #[v0_, .bool r2]) ∧ Kd.R (Kd.int .i64) 3 w' w.heap.size (fun _ => True) v0_ r1 ∧ Below w.heap.size w w' := by
  have HB := Aside0.mk (Below.refl w.heap.size w)
  have H : (if (a0.size : Int) > 120 then (spec_RankOf.j0 k a0 a1 a2 true) else ((spec_l1In.f a1 1 120).bind fun t291 => (if t291 = true then ((spec_l1In.f a2 0 1).bind fun t292 => (spec_RankOf.j0 k a0 a1 a2 (!t292))) else (spec_RankOf.j0 k a0 a1 a2 true)))) = some (r1, r2) := h
  clear h
  have HC4 := Aside0.mk H
  clear H
  go_enter Try.func27, Try.ntmps27
  go_upto_region 1 with (fail)
  go_cut [27] (fun v27 wc => ∃ (kq : Nat) (x27_3 : Bool), v27 = .bool x27_3 ∧ Aside0 (spec_RankOf.j0 kq a0 a1 a2 x27_3 = some (r1, r2)) ∧ Aside0 (kq ≤ k) ∧ Aside0 (Below w.heap.size w wc))
  case first =>
    have H := HC4.out
    clear HC4
    by_cases c5 : (a0.size : Int) > 120
    · rw [if_pos c5] at H
      have c5b0 : decide (120 < (a0.size : Int)) = true := decide_eq_true c5
      have c5b1 : decide (120 < a0.size) = true := decide_eq_true (by omega)
      clear c5
      (first | rw [c5b0] | (simp only [i64_w, i32_w]; rw [c5b0]) | skip)
      have H' := Aside0.mk H
      clear H
      go_wp2
      go_meet
      case rel => exact ⟨_, (true), (by first | rfl | (simp; done) | (simp [*]; done)), H', ⟨by first | omega | exact Nat.le_refl _⟩, ⟨by repeat (first | (with_reducible first | exact HB.out | apply below_alloc | apply pw_below_drewN | apply below_drew1) | exact HB.out)⟩⟩
    · rw [if_neg c5] at H
      have c5b0 : decide (120 < (a0.size : Int)) = false := decide_eq_false c5
      have c5b1 : decide (120 < a0.size) = false := decide_eq_false (by omega)
      clear c5
      (first | rw [c5b0] | (simp only [i64_w, i32_w]; rw [c5b0]) | skip)
      replace H := Option.bind_eq_some_iff.mp H
      obtain ⟨t291, A60, H⟩ := H
      replace H : (if t291 = true then ((spec_l1In.f a2 0 1).bind fun t292 => (spec_RankOf.j0 k a0 a1 a2 (!t292))) else (spec_RankOf.j0 k a0 a1 a2 true)) = some (r1, r2) := H
      have A6 := Aside0.mk A60
      clear A60
      by_cases c7 : t291 = true
      · subst c7
        have H1 : ((spec_l1In.f a2 0 1).bind fun t292 => (spec_RankOf.j0 k a0 a1 a2 (!t292))) = some (r1, r2) := by rw [if_pos rfl] at H; exact H
        clear H
        have H := H1
        clear H1
        replace H := Option.bind_eq_some_iff.mp H
        obtain ⟨t292, A80, H⟩ := H
        replace H : (spec_RankOf.j0 k a0 a1 a2 (!t292)) = some (r1, r2) := H
        have A8 := Aside0.mk A80
        clear A80
        have H' := Aside0.mk H
        clear H
        go_wp2_with (first | (go_at_call 43; (try simp only [i64_w]); (with_reducible refine (spec_l1In.calls a1 1 120 true _ A6.out).mono ?_); rintro e w' ⟨rfl, ⟨nd, rfl⟩⟩) | (go_at_call 43; (try simp only [i64_w]); (with_reducible refine (spec_l1In.calls a2 0 1 t292 _ A8.out).mono ?_); rintro e w' ⟨rfl, ⟨nd, rfl⟩⟩))
        go_meet
        case rel => exact ⟨_, (!t292), (by first | rfl | (simp; done) | (simp [*]; done)), H', ⟨by first | omega | exact Nat.le_refl _⟩, ⟨by repeat (first | (with_reducible first | exact HB.out | apply below_alloc | apply pw_below_drewN | apply below_drew1) | exact HB.out)⟩⟩
      · replace c7 := Bool.eq_false_iff.mpr c7
        subst c7
        have H1 : (spec_RankOf.j0 k a0 a1 a2 true) = some (r1, r2) := by rw [if_neg (show ¬ (false = true) by decide)] at H; exact H
        clear H
        have H := H1
        clear H1
        have H' := Aside0.mk H
        clear H
        go_wp2_with (first | (go_at_call 43; (try simp only [i64_w]); (with_reducible refine (spec_l1In.calls a1 1 120 false _ A6.out).mono ?_); rintro e w' ⟨rfl, ⟨nd, rfl⟩⟩))
        go_meet
        case rel => exact ⟨_, (true), (by first | rfl | (simp; done) | (simp [*]; done)), H', ⟨by first | omega | exact Nat.le_refl _⟩, ⟨by repeat (first | (with_reducible first | exact HB.out | apply below_alloc | apply pw_below_drewN | apply below_drew1) | exact HB.out)⟩⟩
  case rest =>
    clear HC4
    try clear c2
    try clear p2
    try clear c5
    try clear c5b0
    try clear c5b1
    try clear c7
    obtain ⟨kq, x27_3, rfl, HA, HJ3, HB⟩ := hcut
    cases kq with
    | zero => exact absurd HA.out (by simp [spec_RankOf.j0])
    | succ kj3 =>
      have H := HA.out
      clear HA
      simp only [spec_RankOf.j0] at H
      by_cases c9 : x27_3 = true
      · subst c9
        have H1 : (some (([] : List Int), false)) = some (r1, r2) := by rw [if_pos rfl] at H; exact H
        clear H
        have H := H1
        clear H1
        simp only [Option.some.injEq, Prod.mk.injEq] at H
        obtain ⟨rfl, rfl⟩ := H
        go_wp2
        go_ret2
        exact ⟨_, by first | rfl | (simp [errW_none, errW_some] <;> rfl) | (simp [*, errW_none, errW_some] <;> rfl), by first | exact Kd.R_nil _ _ _ _ _ | exact Kd.N_nil _ _ _ _ _ | exact Kd.V_nil _ _ _ _ _ | exact Kd.Q_nil _ _ _ _ _ | exact Kd.S_nil _ _ _ _ _, by repeat (first | (with_reducible first | exact HB.out | apply below_alloc | apply pw_below_drewN | apply below_drew1) | exact HB.out)⟩
      · replace c9 := Bool.eq_false_iff.mpr c9
        subst c9
        have H1 : (if a2 = 1 then (spec_RankOf.j1 kj3 a0 (wrap64 (a1 * 2))) else (spec_RankOf.j1 kj3 a0 a1)) = some (r1, r2) := by rw [if_neg (show ¬ (false = true) by decide)] at H; exact H
        clear H
        have H := H1
        clear H1
        have HC10 := Aside0.mk H
        clear H
        go_upto_if 29 with (fail)
        go_cut [1] (fun v1 wc => ∃ (kq : Nat) (x1_9 : Int), v1 = .int .i64 x1_9 ∧ Aside0 (spec_RankOf.j1 kq a0 x1_9 = some (r1, r2)) ∧ Aside0 (kq ≤ kj3) ∧ Aside0 (Below w.heap.size w wc))
        case first =>
          have H := HC10.out
          clear HC10
          by_cases c11 : a2 = 1
          · rw [if_pos c11] at H
            have c11b0 : (a2 == 1) = true := beq_iff_eq.mpr c11
            have c11b1 : (a2 != 1) = false := bne_eq_false_iff_eq.mpr c11
            clear c11
            (first | rw [c11b0] | (simp only [i64_w, i32_w]; rw [c11b0]) | skip)
            have H' := Aside0.mk H
            clear H
            go_wp2
            go_meet
            case rel => exact ⟨_, (wrap64 (a1 * 2)), (by first | rfl | (simp; done) | (simp [*]; done)), H', ⟨by have := HJ3.out; first | omega | exact Nat.le_refl _⟩, ⟨by repeat (first | (with_reducible first | exact HB.out | apply below_alloc | apply pw_below_drewN | apply below_drew1) | exact HB.out)⟩⟩
          · rw [if_neg c11] at H
            have c11b0 : (a2 == 1) = false := beq_eq_false_iff_ne.mpr c11
            have c11b1 : (a2 != 1) = true := bne_iff_ne.mpr c11
            (first | rw [c11b0] | (simp only [i64_w, i32_w]; rw [c11b0]) | skip)
            have H' := Aside0.mk H
            clear H
            go_wp2
            go_meet
            case rel => exact ⟨_, (a1), (by first | rfl | (simp; done) | (simp [*]; done)), H', ⟨by have := HJ3.out; first | omega | exact Nat.le_refl _⟩, ⟨by repeat (first | (with_reducible first | exact HB.out | apply below_alloc | apply pw_below_drewN | apply below_drew1) | exact HB.out)⟩⟩
        case rest =>
          clear HC10
          try clear c1
          try clear c2
          try clear p2
          try clear c5
          try clear c5b0
          try clear c5b1
          try clear p6
          try clear c7
          try clear c9
          try clear c11
          try clear c11b0
          try clear c11b1
          try clear p2
          obtain ⟨kq, x1_9, rfl, HA, HJ9, HB⟩ := hcut
          cases kq with
          | zero => exact absurd HA.out (by simp [spec_RankOf.j1])
          | succ kj9 =>
            have H := HA.out
            clear HA
            simp only [spec_RankOf.j1] at H
            by_cases c12 : 0 ≤ (a0.size : Int)
            · rw [if_pos c12] at H
              have c12b0 := eq_true c12
              have c12b1 : decide (0 ≤ (a0.size : Int)) = true := decide_eq_true c12
              clear c12
              by_cases c13 : ((a0.size : Int) : Int).toNat ≤ 35184372088832
              · rw [if_pos c13] at H
                have c13b0 := eq_true c13
                have c13b1 : decide (((a0.size : Int) : Int).toNat ≤ 35184372088832) = true := decide_eq_true c13
                clear c13
                obtain ⟨y293, hy293⟩ : ∃ y_ : List Int, y_ = (List.replicate ((a0.size : Int) : Int).toNat 0) := ⟨_, rfl⟩
                replace H : ((spec_l12Suffixes.f kj9 a0).bind fun t296 => (spec_RankOf.l0 kj9 a0 x1_9 ([] : List Int) (⟨#[]⟩ : ByteArray) (-1) y293 t296 (t296.length : Int) 0)) = some (r1, r2) := by first | (rw [hy293]; with_reducible exact H) | (have H2_ := (Option.bind_some _ _).symm.trans H; rw [hy293]; with_reducible exact H2_) | (have H2_ := (Option.bind_some _ _).symm.trans H; with_reducible exact H2_) | with_reducible exact H | (rw [hy293]; exact H) | exact H
                have Ny293 := Aside0.mk hy293
                clear hy293
                replace H := Option.bind_eq_some_iff.mp H
                obtain ⟨t296, A140, H⟩ := H
                replace H : (spec_RankOf.l0 kj9 a0 x1_9 ([] : List Int) (⟨#[]⟩ : ByteArray) (-1) y293 t296 (t296.length : Int) 0) = some (r1, r2) := H
                have A14 := Aside0.mk A140
                clear A140
                have H' := Aside0.mk H
                clear H
                go_wp2_with (first | ((with_reducible refine gate_dst (N := 34) rfl ?_); refine Kd.R_make (Kd.int .i64) _ 3 rfl (N := 34) rfl 22 _ _ rfl (a0.size : Int) rfl rfl Try.underlying22 (.int .i64 0) 8 info3 rfl (by decide) (by omega) 0 (ok := fun _ => True) (okp := fun _ => True) rfl (fun _ hk => hk) trivial (of_decide_eq_true (by first | (with_reducible assumption) | assumption)) (Nat.le_trans (Nat.mul_le_mul_right _ (of_decide_eq_true (by first | (with_reducible assumption) | assumption) : (a0.size : Int).toNat ≤ 35184372088832)) (by omega)) (Below.refl _ _) (Nat.le_refl _) ?_; intro v294 w15 ho16 hb hg_ hnew_; clear hg_ hnew_; (first | rw [← Ny293.out] at ho16 | (simp only [Int.reduceToNat] at ho16; rw [← Ny293.out] at ho16)); have n0_ := Aside0.mk (Kd.R_lower ho16 (below_size (by repeat (first | (with_reducible first | exact HB.out | apply below_alloc | apply pw_below_drewN | apply below_drew1) | exact HB.out)))); have n1_ := Aside0.mk (below_step (by repeat (first | (with_reducible first | exact HB.out | apply below_alloc | apply pw_below_drewN | apply below_drew1) | exact HB.out)) hb); clear HB; have HO295 := n0_; have HB := n1_; clear n0_ n1_; clear hb ho16) | ((with_reducible refine gate_callee (f := 37) rfl ?_); refine goesL_ (some 36) rfl rfl Try.func37 (by kernel_rfl) rfl #[.string a0] rfl (by (try simp only [List.map_toArray, List.map_cons, List.map_nil]); first | done | rfl | (simp only [List.length_drop, List.length_take]; rfl)) ?_; (with_reducible refine (spec_l12Suffixes.calls kj9 a0 t296 _ A14.out).mono ?_); rintro e w17 ⟨v297, rfl, ho0, hb⟩; refine ⟨_, rfl, ?_⟩; have n0_ := Aside0.mk (Kd.R_elder' (by (with_reducible repeat (first | apply Kd.R_alloc | apply Kd.R_drewN | apply Kd.R_drew)); exact HO295.out) (Kd.R_base ho0) hb); have n1_ := Aside0.mk (Kd.R_lower (Kd.R_new' ho0 (Kd.R_lt (by (with_reducible repeat (first | apply Kd.R_alloc | apply Kd.R_drewN | apply Kd.R_drew)); exact HO295.out))) (below_size (by repeat (first | (with_reducible first | exact HB.out | apply below_alloc | apply pw_below_drewN | apply below_drew1) | exact HB.out)))); have n2_ := Aside0.mk (below_step (by repeat (first | (with_reducible first | exact HB.out | apply below_alloc | apply pw_below_drewN | apply below_drew1) | exact HB.out)) hb); clear HO295; clear HB; have HO295 := n0_; have HO298 := n1_; have HB := n2_; clear n0_ n1_ n2_; (try clear hb); (try clear hb2); (try clear hk); (try clear hi); (try clear ho0); obtain ⟨Ao18, co18, eo18⟩ := Kd.R_slice HO298.out; subst eo18))
                go_loopg [8, 9, 10, 38] kj9 (fun kq v8 v9 v10 v38 w' => ∃ (x8_3 : List Int) (x9_3 : ByteArray) (x10_3 : Int) (x11_3 : List Int) (x38_3 : Int), v9 = .string x9_3 ∧ v10 = .int .i64 x10_3 ∧ v38 = .int .i64 x38_3 ∧ Aside0 (spec_RankOf.l0 kq a0 x1_9 x8_3 x9_3 x10_3 x11_3 t296 (t296.length : Int) x38_3 = some (r1, r2)) ∧ Aside0 (kq ≤ kj9) ∧ Aside0 (Kd.R (Kd.int .i64) 3 w' w.heap.size (fun k_ => some k_ ≠ (v294 : Value).ownBlock ∧ some k_ ≠ ((.slice Ao18 t296.length co18) : Value).ownBlock) v8 x8_3) ∧ Aside0 (Kd.R (Kd.int .i64) 3 w' w.heap.size (fun k_ => some k_ ≠ (v8 : Value).ownBlock ∧ some k_ ≠ ((.slice Ao18 t296.length co18) : Value).ownBlock) v294 x11_3) ∧ Aside0 (Kd.R (Kd.int .i64) 3 w' w.heap.size (fun k_ => some k_ ≠ (v8 : Value).ownBlock ∧ some k_ ≠ (v294 : Value).ownBlock) (.slice Ao18 t296.length co18) t296) ∧ Aside0 (Below w.heap.size w w'))
                case atStart => exact ⟨(([] : List Int)), ((⟨#[]⟩ : ByteArray)), ((-1)), (y293), (0), (by first | rfl | (simp; done) | (simp [*]; done)), (by first | rfl | (simp; done) | (simp [*]; done)), (by first | rfl | (simp; done) | (simp [*]; done)), H', ⟨Nat.le_refl _⟩, ⟨by first | exact Kd.R_nil _ _ _ _ _ | exact Kd.N_nil _ _ _ _ _ | exact Kd.V_nil _ _ _ _ _ | exact Kd.Q_nil _ _ _ _ _ | exact Kd.S_nil _ _ _ _ _⟩, ⟨by (with_reducible repeat (first | apply Kd.R_alloc | apply Kd.R_drewN | apply Kd.R_drew)); exact Kd.R_mono HO295.out (fun _ hk => ⟨(by simp [Value.ownBlock]), hk.2⟩)⟩, ⟨by (with_reducible repeat (first | apply Kd.R_alloc | apply Kd.R_drewN | apply Kd.R_drew)); exact Kd.R_mono HO298.out (fun _ hk => ⟨(by simp [Value.ownBlock]), hk.2⟩)⟩, ⟨by repeat (first | (with_reducible first | exact HB.out | apply below_alloc | apply pw_below_drewN | apply below_drew1) | exact HB.out)⟩⟩
                case round =>
                  clear H'
                  try clear c1
                  try clear c2
                  try clear p2
                  try clear c3
                  try clear c5
                  try clear c5b0
                  try clear c5b1
                  try clear p6
                  try clear c7
                  try clear c9
                  try clear c11
                  try clear c11b0
                  try clear c11b1
                  try clear c12
                  try clear c12b0
                  try clear c12b1
                  try clear c13
                  try clear c13b0
                  try clear c13b1
                  try clear p2
                  try clear p6
                  obtain ⟨x8_3, x9_3, x10_3, x11_3, x38_3, rfl, rfl, rfl, HA, HK3, HO_8, HO_11, HO_36, HB⟩ := hrel
                  cases gk with
                  | zero => exact absurd HA.out (by simp [spec_RankOf.l0])
                  | succ k3 =>
                    have H := HA.out
                    clear HA
                    simp only [spec_RankOf.l0] at H
                    by_cases c19 : x38_3 < (t296.length : Int)
                    · rw [if_pos c19] at H
                      have c19b0 : decide (x38_3 < (t296.length : Int)) = true := decide_eq_true c19
                      clear c19
                      by_cases c20 : 0 ≤ x38_3
                      · rw [if_pos c20] at H
                        have c20b0 : decide (0 ≤ x38_3) = true := decide_eq_true c20
                        clear c20
                        by_cases c21 : x38_3 < (t296.length : Int)
                        · rw [if_pos c21] at H
                          have c21b0 : decide (x38_3 < (t296.length : Int)) = true := decide_eq_true c21
                          clear c21
                          by_cases c22 : 0 ≤ (rd t296 x38_3)
                          · rw [if_pos c22] at H
                            have c22b0 := eq_true c22
                            have c22b1 : decide (0 ≤ (rd t296 x38_3)) = true := decide_eq_true c22
                            clear c22
                            by_cases c23 : (rd t296 x38_3) ≤ (a0.size : Int)
                            · rw [if_pos c23] at H
                              have c23b0 := eq_true c23
                              have c23b1 : decide ((rd t296 x38_3) ≤ (a0.size : Int)) = true := decide_eq_true c23
                              clear c23
                              by_cases c24 : ((a0.extract ((rd t296 x38_3) : Int).toNat a0.size).size : Int) > x1_9
                              · rw [if_pos c24] at H
                                have c24b0 : decide (x1_9 < ((a0.extract ((rd t296 x38_3) : Int).toNat a0.size).size : Int)) = true := decide_eq_true c24
                                try have c24b0n := c24b0
                                try simp only [ByteArray.size_extract, Nat.min_self] at c24b0n
                                try have c24b0p := of_decide_eq_true c24b0n
                                try have c24b0q := Nat.le_of_lt c24b0p
                                clear c24
                                by_cases c25 : 0 ≤ x1_9
                                · rw [if_pos c25] at H
                                  have c25b0 := eq_true c25
                                  have c25b1 : decide (0 ≤ x1_9) = true := decide_eq_true c25
                                  clear c25
                                  by_cases c26 : x1_9 ≤ ((a0.extract ((rd t296 x38_3) : Int).toNat a0.size).size : Int)
                                  · rw [if_pos c26] at H
                                    have c26b0 := eq_true c26
                                    have c26b1 : decide (x1_9 ≤ ((a0.extract ((rd t296 x38_3) : Int).toNat a0.size).size : Int)) = true := decide_eq_true c26
                                    try have c26b1n := c26b1
                                    try simp only [ByteArray.size_extract, Nat.min_self] at c26b1n
                                    try have c26b1p := of_decide_eq_true c26b1n
                                    try have c26b1q := Nat.le_of_lt c26b1p
                                    clear c26
                                    by_cases c27 : x10_3 < 0
                                    · rw [if_pos c27] at H
                                      have c27b0 : decide (x10_3 < 0) = true := decide_eq_true c27
                                      clear c27
                                      by_cases c28 : (rd t296 x38_3) < (x11_3.length : Int)
                                      · rw [if_pos c28] at H
                                        have c28b0 : decide ((rd t296 x38_3) < (x11_3.length : Int)) = true := decide_eq_true c28
                                        clear c28
                                        obtain ⟨y300, hy300⟩ : ∃ y_ : List Int, y_ = (x11_3.set ((rd t296 x38_3) : Int).toNat (wrap64 (x10_3 + 1))) := ⟨_, rfl⟩
                                        replace H : (if x8_3.length < 17592186044416 then (spec_RankOf.l0 k3 a0 x1_9 (x8_3 ++ [wrap64 (x10_3 + 1)]) ((a0.extract ((rd t296 x38_3) : Int).toNat a0.size).extract 0 (x1_9 : Int).toNat) (wrap64 (x10_3 + 1)) y300 t296 (t296.length : Int) (wrap64 (x38_3 + 1))) else (none)) = some (r1, r2) := by first | (rw [hy300]; with_reducible exact H) | (have H2_ := (Option.bind_some _ _).symm.trans H; rw [hy300]; with_reducible exact H2_) | (have H2_ := (Option.bind_some _ _).symm.trans H; with_reducible exact H2_) | with_reducible exact H | (rw [hy300]; exact H) | exact H
                                        have Ny300 := Aside0.mk hy300
                                        clear hy300
                                        by_cases c30 : x8_3.length < 17592186044416
                                        · rw [if_pos c30] at H
                                          have LMc30 := Aside0.mk c30
                                          clear c30
                                          obtain ⟨y301, hy301⟩ : ∃ y_ : List Int, y_ = (x8_3 ++ [wrap64 (x10_3 + 1)]) := ⟨_, rfl⟩
                                          replace H : (spec_RankOf.l0 k3 a0 x1_9 y301 ((a0.extract ((rd t296 x38_3) : Int).toNat a0.size).extract 0 (x1_9 : Int).toNat) (wrap64 (x10_3 + 1)) y300 t296 (t296.length : Int) (wrap64 (x38_3 + 1))) = some (r1, r2) := by first | (rw [hy301]; with_reducible exact H) | (have H2_ := (Option.bind_some _ _).symm.trans H; rw [hy301]; with_reducible exact H2_) | (have H2_ := (Option.bind_some _ _).symm.trans H; with_reducible exact H2_) | with_reducible exact H | (rw [hy301]; exact H) | exact H
                                          have Ny301 := Aside0.mk hy301
                                          clear hy301
                                          have H' := Aside0.mk H
                                          clear H
                                          have p299 : 0 ≤ (x38_3 : Int) := of_decide_eq_true (by first | (with_reducible assumption) | assumption)
                                          have q299 : x38_3 < (t296.length : Int) := of_decide_eq_true (by first | (with_reducible assumption) | assumption)
                                          obtain ⟨ad299, e299, hx299_0⟩ := Kd.at_int (Kd.R_reads' HO_36.out).2.2 x38_3 p299 q299
                                          cases e299
                                          replace p299 := eq_true p299
                                          replace q299 := eq_true q299
                                          have p29 : 0 ≤ ((rd t296 x38_3) : Int) := of_decide_eq_true (by first | (with_reducible assumption) | assumption)
                                          have q29 : ((rd t296 x38_3) : Int) < ((x11_3.length : Int) : Int) := of_decide_eq_true (by first | (with_reducible assumption) | assumption)
                                          obtain ⟨go29, co29, eo29, gb29, gl29, cl29, HG29⟩ := Kd.R_form HO_11.out (by omega)
                                          (first | cases eo29 | (injection eo29 with ea_ en_ ec_; (first | subst ea_ | (injection ea_ with ea_; subst ea_)); subst ec_; clear en_))
                                          have GB29 := Aside0.mk gb29
                                          have GG29 := Aside0.mk HG29
                                          clear gb29 gl29 HG29
                                          obtain ⟨hx29_0, hf29_0⟩ := Kd.R_celln 0 HO_11.out ((rd t296 x38_3) : Int) p29 q29
                                          replace p29 := eq_true p29
                                          replace q29 := eq_true q29
                                          have HP31 := Kd.R_putg HO_11.out ((rd t296 x38_3) : Int) (wrap64 (x10_3 + 1))
                                          go_wp2_with (first | ((with_reducible refine gate_store (t := 3) (p := 65) rfl ?_); refine store_event (t := 3) (p := 65) (v := ?vo_w32) (w1 := (wr.setCell ⟨go29, ((rd t296 x38_3) : Int).toNat, none⟩ (.int .i64 (wrap64 (x10_3 + 1))))) ?hg ?ho ?hn ?hr ?_; (case ho => rfl); (case hg => rfl); (case hn => rfl); (case hr => first | (go_simp; done) | (go_simp; rfl)); intro w32 hw; have hg : wr.grownBy w32 (some go29) := (by rw [hw]; exact HP31.2); have hp_ : Kd.R (Kd.int .i64) 3 w32 w.heap.size (fun k_ => some k_ ≠ (u8 : Value).ownBlock ∧ some k_ ≠ (.slice (some ad299) t296.length co18 : Value).ownBlock) (.slice (some ⟨go29, 0, none⟩) x11_3.length co29) y300 := (by rw [hw, Ny300.out]; exact HP31.1); clear HP31; have n0_ := Aside0.mk (Kd.R_after (v := (.slice (some ⟨go29, 0, none⟩) x11_3.length co29)) (v1 := (.slice (some ⟨go29, 0, none⟩) x11_3.length co29)) (ok := (fun k_ => some k_ ≠ (.slice (some ad299) t296.length co18 : Value).ownBlock)) (by (with_reducible repeat (first | apply Kd.R_alloc | apply Kd.R_drewN | apply Kd.R_drew)); exact Kd.R_mono HO_8.out (fun _ hk => ⟨hk.2, hk.1⟩)) hg (.inl rfl)); have n1_ := Aside0.mk (hp_); have n2_ := Aside0.mk (Kd.R_after (v := (.slice (some ⟨go29, 0, none⟩) x11_3.length co29)) (v1 := (.slice (some ⟨go29, 0, none⟩) x11_3.length co29)) (ok := (fun k_ => some k_ ≠ (u8 : Value).ownBlock)) (by (with_reducible repeat (first | apply Kd.R_alloc | apply Kd.R_drewN | apply Kd.R_drew)); exact HO_36.out) hg (.inl rfl)); have n3_ := Aside0.mk ((by rw [hw]; exact below_set (HB.out) GB29.out : Below w.heap.size w w32)); clear HO_8; clear HO_11; clear HO_36; clear HB; have HO_8 := n0_; have HO_11 := n1_; have HO_36 := n2_; have HB := n3_; clear n0_ n1_ n2_ n3_; clear hg hw hp_) | ((with_reducible refine gate_builtin (b := .append) (xs := #[.tmp 66, .tmp 68]) rfl ?_); at_builtin; refine Kd.R_append (Kd.int .i64) (w0 := w) w.heap.size rfl (.tmp 66) (.tmp 68) 22 3 (.int .i64 0) 8 rfl Try.underlying22 info3 rfl (by decide) (by omega) u8 x8_3 (wrap64 (x10_3 + 1)) [.int .i64 (wrap64 (x10_3 + 1))] (fun k_ => some k_ ≠ (.slice (some ⟨go29, 0, none⟩) x11_3.length co29 : Value).ownBlock ∧ some k_ ≠ (.slice (some ad299) t296.length co18 : Value).ownBlock) (fun _ => False) rfl rfl ?aP (fun _ hk => hk.elim) ?aF ?aO ?aB ?aS ?aL ?_; (case aP => exact rfl); (case aB => exact (by repeat (first | (with_reducible first | exact HB.out | apply below_alloc | apply pw_below_drewN | apply below_drew1) | exact HB.out))); (case aF => exact (fun k_ hk => ⟨Kd.fresh' (Kd.R_lt (by (with_reducible repeat (first | apply Kd.R_alloc | apply Kd.R_drewN | apply Kd.R_drew)); exact HO_11.out)) k_ hk, Kd.fresh' (Kd.R_lt (by (with_reducible repeat (first | apply Kd.R_alloc | apply Kd.R_drewN | apply Kd.R_drew)); exact HO_36.out)) k_ hk⟩)); (case aO => exact (by (with_reducible repeat (first | apply Kd.R_alloc | apply Kd.R_drewN | apply Kd.R_drew)); exact Kd.R_mono HO_8.out (fun _ hk => ⟨hk.2, hk.1⟩))); (case aS => exact (below_size (by repeat (first | (with_reducible first | exact HB.out | apply below_alloc | apply pw_below_drewN | apply below_drew1) | exact HB.out)))); (case aL => have := LMc30.out; omega); intro v302 w33 ho hb hg hat; rw [← Ny301.out] at ho; have n0_ := Aside0.mk (Kd.R_after (ok := (fun k_ => some k_ ≠ (.slice (some ad299) t296.length co18 : Value).ownBlock)) (by (with_reducible repeat (first | apply Kd.R_alloc | apply Kd.R_drewN | apply Kd.R_drew)); exact Kd.R_mono HO_11.out (fun _ hk => ⟨hk.2, hk.1⟩)) hg hat); have n1_ := Aside0.mk (Kd.R_after (ok := (fun k_ => some k_ ≠ (.slice (some ⟨go29, 0, none⟩) x11_3.length co29 : Value).ownBlock)) (by (with_reducible repeat (first | apply Kd.R_alloc | apply Kd.R_drewN | apply Kd.R_drew)); exact Kd.R_mono HO_36.out (fun _ hk => ⟨hk.2, hk.1⟩)) hg hat); have n2_ := Aside0.mk (hb); have n3_ := Aside0.mk (ho); clear HO_11; clear HO_36; clear HB; clear HO_8; have HO_11 := n0_; have HO_36 := n1_; have HB := n2_; have HO303 := n3_; clear n0_ n1_ n2_ n3_; clear ho hb hg hat))
                                          go_roundg k3
                                          case measure => have := HJ3.out; have := HJ9.out; have := HK3.out; omega
                                          case rel => exact ⟨(y301), ((a0.extract ((rd t296 x38_3) : Int).toNat a0.size).extract 0 (x1_9 : Int).toNat), (wrap64 (x10_3 + 1)), (y300), (wrap64 (x38_3 + 1)), (by first | rfl | (simp; done) | (simp [*]; done)), (by first | rfl | (simp; done) | (simp [*]; done)), (by first | rfl | (simp; done) | (simp [*]; done)), H', ⟨by have := HJ3.out; have := HJ9.out; have := HK3.out; omega⟩, ⟨by (with_reducible repeat (first | apply Kd.R_alloc | apply Kd.R_drewN | apply Kd.R_drew)); exact HO303.out⟩, ⟨by (with_reducible repeat (first | apply Kd.R_alloc | apply Kd.R_drewN | apply Kd.R_drew)); exact Kd.R_mono HO_11.out (fun _ hk => ⟨hk.2, hk.1⟩)⟩, ⟨by (with_reducible repeat (first | apply Kd.R_alloc | apply Kd.R_drewN | apply Kd.R_drew)); exact Kd.R_mono HO_36.out (fun _ hk => ⟨hk.2, hk.1⟩)⟩, ⟨by repeat (first | (with_reducible first | exact HB.out | apply below_alloc | apply pw_below_drewN | apply below_drew1) | exact HB.out)⟩⟩
                                        · rw [if_neg c30] at H
                                          exact absurd H (by simp)
                                      · rw [if_neg c28] at H
                                        exact absurd H (by simp)
                                    · rw [if_neg c27] at H
                                      have c27b0 : decide (x10_3 < 0) = false := decide_eq_false c27
                                      clear c27
                                      by_cases c34 : ((a0.extract ((rd t296 x38_3) : Int).toNat a0.size).extract 0 (x1_9 : Int).toNat).toList = x9_3.toList
                                      · rw [if_pos c34] at H
                                        have c34b0 : (((a0.extract ((rd t296 x38_3) : Int).toNat a0.size).extract 0 (x1_9 : Int).toNat).toList == x9_3.toList) = true := beq_iff_eq.mpr c34
                                        have c34b1 : (((a0.extract ((rd t296 x38_3) : Int).toNat a0.size).extract 0 (x1_9 : Int).toNat).toList != x9_3.toList) = false := bne_eq_false_iff_eq.mpr c34
                                        clear c34
                                        by_cases c35 : (rd t296 x38_3) < (x11_3.length : Int)
                                        · rw [if_pos c35] at H
                                          have c35b0 : decide ((rd t296 x38_3) < (x11_3.length : Int)) = true := decide_eq_true c35
                                          clear c35
                                          obtain ⟨y304, hy304⟩ : ∃ y_ : List Int, y_ = (x11_3.set ((rd t296 x38_3) : Int).toNat x10_3) := ⟨_, rfl⟩
                                          replace H : (if x8_3.length < 17592186044416 then (spec_RankOf.l0 k3 a0 x1_9 (x8_3 ++ [x10_3]) ((a0.extract ((rd t296 x38_3) : Int).toNat a0.size).extract 0 (x1_9 : Int).toNat) x10_3 y304 t296 (t296.length : Int) (wrap64 (x38_3 + 1))) else (none)) = some (r1, r2) := by first | (rw [hy304]; with_reducible exact H) | (have H2_ := (Option.bind_some _ _).symm.trans H; rw [hy304]; with_reducible exact H2_) | (have H2_ := (Option.bind_some _ _).symm.trans H; with_reducible exact H2_) | with_reducible exact H | (rw [hy304]; exact H) | exact H
                                          have Ny304 := Aside0.mk hy304
                                          clear hy304
                                          by_cases c37 : x8_3.length < 17592186044416
                                          · rw [if_pos c37] at H
                                            have LMc37 := Aside0.mk c37
                                            clear c37
                                            obtain ⟨y305, hy305⟩ : ∃ y_ : List Int, y_ = (x8_3 ++ [x10_3]) := ⟨_, rfl⟩
                                            replace H : (spec_RankOf.l0 k3 a0 x1_9 y305 ((a0.extract ((rd t296 x38_3) : Int).toNat a0.size).extract 0 (x1_9 : Int).toNat) x10_3 y304 t296 (t296.length : Int) (wrap64 (x38_3 + 1))) = some (r1, r2) := by first | (rw [hy305]; with_reducible exact H) | (have H2_ := (Option.bind_some _ _).symm.trans H; rw [hy305]; with_reducible exact H2_) | (have H2_ := (Option.bind_some _ _).symm.trans H; with_reducible exact H2_) | with_reducible exact H | (rw [hy305]; exact H) | exact H
                                            have Ny305 := Aside0.mk hy305
                                            clear hy305
                                            have H' := Aside0.mk H
                                            clear H
                                            have p299 : 0 ≤ (x38_3 : Int) := of_decide_eq_true (by first | (with_reducible assumption) | assumption)
                                            have q299 : x38_3 < (t296.length : Int) := of_decide_eq_true (by first | (with_reducible assumption) | assumption)
                                            obtain ⟨ad299, e299, hx299_0⟩ := Kd.at_int (Kd.R_reads' HO_36.out).2.2 x38_3 p299 q299
                                            cases e299
                                            replace p299 := eq_true p299
                                            replace q299 := eq_true q299
                                            have p36 : 0 ≤ ((rd t296 x38_3) : Int) := of_decide_eq_true (by first | (with_reducible assumption) | assumption)
                                            have q36 : ((rd t296 x38_3) : Int) < ((x11_3.length : Int) : Int) := of_decide_eq_true (by first | (with_reducible assumption) | assumption)
                                            obtain ⟨go36, co36, eo36, gb36, gl36, cl36, HG36⟩ := Kd.R_form HO_11.out (by omega)
                                            (first | cases eo36 | (injection eo36 with ea_ en_ ec_; (first | subst ea_ | (injection ea_ with ea_; subst ea_)); subst ec_; clear en_))
                                            have GB36 := Aside0.mk gb36
                                            have GG36 := Aside0.mk HG36
                                            clear gb36 gl36 HG36
                                            obtain ⟨hx36_0, hf36_0⟩ := Kd.R_celln 0 HO_11.out ((rd t296 x38_3) : Int) p36 q36
                                            replace p36 := eq_true p36
                                            replace q36 := eq_true q36
                                            have HP38 := Kd.R_putg HO_11.out ((rd t296 x38_3) : Int) x10_3
                                            go_wp2_with (first | ((with_reducible refine gate_store (t := 3) (p := 65) rfl ?_); refine store_event (t := 3) (p := 65) (v := ?vo_w39) (w1 := (wr.setCell ⟨go36, ((rd t296 x38_3) : Int).toNat, none⟩ (.int .i64 x10_3))) ?hg ?ho ?hn ?hr ?_; (case ho => rfl); (case hg => rfl); (case hn => rfl); (case hr => first | (go_simp; done) | (go_simp; rfl)); intro w39 hw; have hg : wr.grownBy w39 (some go36) := (by rw [hw]; exact HP38.2); have hp_ : Kd.R (Kd.int .i64) 3 w39 w.heap.size (fun k_ => some k_ ≠ (u8 : Value).ownBlock ∧ some k_ ≠ (.slice (some ad299) t296.length co18 : Value).ownBlock) (.slice (some ⟨go36, 0, none⟩) x11_3.length co36) y304 := (by rw [hw, Ny304.out]; exact HP38.1); clear HP38; have n0_ := Aside0.mk (Kd.R_after (v := (.slice (some ⟨go36, 0, none⟩) x11_3.length co36)) (v1 := (.slice (some ⟨go36, 0, none⟩) x11_3.length co36)) (ok := (fun k_ => some k_ ≠ (.slice (some ad299) t296.length co18 : Value).ownBlock)) (by (with_reducible repeat (first | apply Kd.R_alloc | apply Kd.R_drewN | apply Kd.R_drew)); exact Kd.R_mono HO_8.out (fun _ hk => ⟨hk.2, hk.1⟩)) hg (.inl rfl)); have n1_ := Aside0.mk (hp_); have n2_ := Aside0.mk (Kd.R_after (v := (.slice (some ⟨go36, 0, none⟩) x11_3.length co36)) (v1 := (.slice (some ⟨go36, 0, none⟩) x11_3.length co36)) (ok := (fun k_ => some k_ ≠ (u8 : Value).ownBlock)) (by (with_reducible repeat (first | apply Kd.R_alloc | apply Kd.R_drewN | apply Kd.R_drew)); exact HO_36.out) hg (.inl rfl)); have n3_ := Aside0.mk ((by rw [hw]; exact below_set (HB.out) GB36.out : Below w.heap.size w w39)); clear HO_8; clear HO_11; clear HO_36; clear HB; have HO_8 := n0_; have HO_11 := n1_; have HO_36 := n2_; have HB := n3_; clear n0_ n1_ n2_ n3_; clear hg hw hp_) | ((with_reducible refine gate_builtin (b := .append) (xs := #[.tmp 66, .tmp 68]) rfl ?_); at_builtin; refine Kd.R_append (Kd.int .i64) (w0 := w) w.heap.size rfl (.tmp 66) (.tmp 68) 22 3 (.int .i64 0) 8 rfl Try.underlying22 info3 rfl (by decide) (by omega) u8 x8_3 x10_3 [.int .i64 x10_3] (fun k_ => some k_ ≠ (.slice (some ⟨go36, 0, none⟩) x11_3.length co36 : Value).ownBlock ∧ some k_ ≠ (.slice (some ad299) t296.length co18 : Value).ownBlock) (fun _ => False) rfl rfl ?aP (fun _ hk => hk.elim) ?aF ?aO ?aB ?aS ?aL ?_; (case aP => exact rfl); (case aB => exact (by repeat (first | (with_reducible first | exact HB.out | apply below_alloc | apply pw_below_drewN | apply below_drew1) | exact HB.out))); (case aF => exact (fun k_ hk => ⟨Kd.fresh' (Kd.R_lt (by (with_reducible repeat (first | apply Kd.R_alloc | apply Kd.R_drewN | apply Kd.R_drew)); exact HO_11.out)) k_ hk, Kd.fresh' (Kd.R_lt (by (with_reducible repeat (first | apply Kd.R_alloc | apply Kd.R_drewN | apply Kd.R_drew)); exact HO_36.out)) k_ hk⟩)); (case aO => exact (by (with_reducible repeat (first | apply Kd.R_alloc | apply Kd.R_drewN | apply Kd.R_drew)); exact Kd.R_mono HO_8.out (fun _ hk => ⟨hk.2, hk.1⟩))); (case aS => exact (below_size (by repeat (first | (with_reducible first | exact HB.out | apply below_alloc | apply pw_below_drewN | apply below_drew1) | exact HB.out)))); (case aL => have := LMc37.out; omega); intro v306 w40 ho hb hg hat; rw [← Ny305.out] at ho; have n0_ := Aside0.mk (Kd.R_after (ok := (fun k_ => some k_ ≠ (.slice (some ad299) t296.length co18 : Value).ownBlock)) (by (with_reducible repeat (first | apply Kd.R_alloc | apply Kd.R_drewN | apply Kd.R_drew)); exact Kd.R_mono HO_11.out (fun _ hk => ⟨hk.2, hk.1⟩)) hg hat); have n1_ := Aside0.mk (Kd.R_after (ok := (fun k_ => some k_ ≠ (.slice (some ⟨go36, 0, none⟩) x11_3.length co36 : Value).ownBlock)) (by (with_reducible repeat (first | apply Kd.R_alloc | apply Kd.R_drewN | apply Kd.R_drew)); exact Kd.R_mono HO_36.out (fun _ hk => ⟨hk.2, hk.1⟩)) hg hat); have n2_ := Aside0.mk (hb); have n3_ := Aside0.mk (ho); clear HO_11; clear HO_36; clear HB; clear HO_8; have HO_11 := n0_; have HO_36 := n1_; have HB := n2_; have HO307 := n3_; clear n0_ n1_ n2_ n3_; clear ho hb hg hat))
                                            go_roundg k3
                                            case measure => have := HJ3.out; have := HJ9.out; have := HK3.out; omega
                                            case rel => exact ⟨(y305), ((a0.extract ((rd t296 x38_3) : Int).toNat a0.size).extract 0 (x1_9 : Int).toNat), (x10_3), (y304), (wrap64 (x38_3 + 1)), (by first | rfl | (simp; done) | (simp [*]; done)), (by first | rfl | (simp; done) | (simp [*]; done)), (by first | rfl | (simp; done) | (simp [*]; done)), H', ⟨by have := HJ3.out; have := HJ9.out; have := HK3.out; omega⟩, ⟨by (with_reducible repeat (first | apply Kd.R_alloc | apply Kd.R_drewN | apply Kd.R_drew)); exact HO307.out⟩, ⟨by (with_reducible repeat (first | apply Kd.R_alloc | apply Kd.R_drewN | apply Kd.R_drew)); exact Kd.R_mono HO_11.out (fun _ hk => ⟨hk.2, hk.1⟩)⟩, ⟨by (with_reducible repeat (first | apply Kd.R_alloc | apply Kd.R_drewN | apply Kd.R_drew)); exact Kd.R_mono HO_36.out (fun _ hk => ⟨hk.2, hk.1⟩)⟩, ⟨by repeat (first | (with_reducible first | exact HB.out | apply below_alloc | apply pw_below_drewN | apply below_drew1) | exact HB.out)⟩⟩
                                          · rw [if_neg c37] at H
                                            exact absurd H (by simp)
                                        · rw [if_neg c35] at H
                                          exact absurd H (by simp)
                                      · rw [if_neg c34] at H
                                        have c34b0 : (((a0.extract ((rd t296 x38_3) : Int).toNat a0.size).extract 0 (x1_9 : Int).toNat).toList == x9_3.toList) = false := beq_eq_false_iff_ne.mpr c34
                                        have c34b1 : (((a0.extract ((rd t296 x38_3) : Int).toNat a0.size).extract 0 (x1_9 : Int).toNat).toList != x9_3.toList) = true := bne_iff_ne.mpr c34
                                        by_cases c41 : (rd t296 x38_3) < (x11_3.length : Int)
                                        · rw [if_pos c41] at H
                                          have c41b0 : decide ((rd t296 x38_3) < (x11_3.length : Int)) = true := decide_eq_true c41
                                          clear c41
                                          obtain ⟨y308, hy308⟩ : ∃ y_ : List Int, y_ = (x11_3.set ((rd t296 x38_3) : Int).toNat (wrap64 (x10_3 + 1))) := ⟨_, rfl⟩
                                          replace H : (if x8_3.length < 17592186044416 then (spec_RankOf.l0 k3 a0 x1_9 (x8_3 ++ [wrap64 (x10_3 + 1)]) ((a0.extract ((rd t296 x38_3) : Int).toNat a0.size).extract 0 (x1_9 : Int).toNat) (wrap64 (x10_3 + 1)) y308 t296 (t296.length : Int) (wrap64 (x38_3 + 1))) else (none)) = some (r1, r2) := by first | (rw [hy308]; with_reducible exact H) | (have H2_ := (Option.bind_some _ _).symm.trans H; rw [hy308]; with_reducible exact H2_) | (have H2_ := (Option.bind_some _ _).symm.trans H; with_reducible exact H2_) | with_reducible exact H | (rw [hy308]; exact H) | exact H
                                          have Ny308 := Aside0.mk hy308
                                          clear hy308
                                          by_cases c43 : x8_3.length < 17592186044416
                                          · rw [if_pos c43] at H
                                            have LMc43 := Aside0.mk c43
                                            clear c43
                                            obtain ⟨y309, hy309⟩ : ∃ y_ : List Int, y_ = (x8_3 ++ [wrap64 (x10_3 + 1)]) := ⟨_, rfl⟩
                                            replace H : (spec_RankOf.l0 k3 a0 x1_9 y309 ((a0.extract ((rd t296 x38_3) : Int).toNat a0.size).extract 0 (x1_9 : Int).toNat) (wrap64 (x10_3 + 1)) y308 t296 (t296.length : Int) (wrap64 (x38_3 + 1))) = some (r1, r2) := by first | (rw [hy309]; with_reducible exact H) | (have H2_ := (Option.bind_some _ _).symm.trans H; rw [hy309]; with_reducible exact H2_) | (have H2_ := (Option.bind_some _ _).symm.trans H; with_reducible exact H2_) | with_reducible exact H | (rw [hy309]; exact H) | exact H
                                            have Ny309 := Aside0.mk hy309
                                            clear hy309
                                            have H' := Aside0.mk H
                                            clear H
                                            have p299 : 0 ≤ (x38_3 : Int) := of_decide_eq_true (by first | (with_reducible assumption) | assumption)
                                            have q299 : x38_3 < (t296.length : Int) := of_decide_eq_true (by first | (with_reducible assumption) | assumption)
                                            obtain ⟨ad299, e299, hx299_0⟩ := Kd.at_int (Kd.R_reads' HO_36.out).2.2 x38_3 p299 q299
                                            cases e299
                                            replace p299 := eq_true p299
                                            replace q299 := eq_true q299
                                            have p42 : 0 ≤ ((rd t296 x38_3) : Int) := of_decide_eq_true (by first | (with_reducible assumption) | assumption)
                                            have q42 : ((rd t296 x38_3) : Int) < ((x11_3.length : Int) : Int) := of_decide_eq_true (by first | (with_reducible assumption) | assumption)
                                            obtain ⟨go42, co42, eo42, gb42, gl42, cl42, HG42⟩ := Kd.R_form HO_11.out (by omega)
                                            (first | cases eo42 | (injection eo42 with ea_ en_ ec_; (first | subst ea_ | (injection ea_ with ea_; subst ea_)); subst ec_; clear en_))
                                            have GB42 := Aside0.mk gb42
                                            have GG42 := Aside0.mk HG42
                                            clear gb42 gl42 HG42
                                            obtain ⟨hx42_0, hf42_0⟩ := Kd.R_celln 0 HO_11.out ((rd t296 x38_3) : Int) p42 q42
                                            replace p42 := eq_true p42
                                            replace q42 := eq_true q42
                                            have HP44 := Kd.R_putg HO_11.out ((rd t296 x38_3) : Int) (wrap64 (x10_3 + 1))
                                            go_wp2_with (first | ((with_reducible refine gate_store (t := 3) (p := 65) rfl ?_); refine store_event (t := 3) (p := 65) (v := ?vo_w45) (w1 := (wr.setCell ⟨go42, ((rd t296 x38_3) : Int).toNat, none⟩ (.int .i64 (wrap64 (x10_3 + 1))))) ?hg ?ho ?hn ?hr ?_; (case ho => rfl); (case hg => rfl); (case hn => rfl); (case hr => first | (go_simp; done) | (go_simp; rfl)); intro w45 hw; have hg : wr.grownBy w45 (some go42) := (by rw [hw]; exact HP44.2); have hp_ : Kd.R (Kd.int .i64) 3 w45 w.heap.size (fun k_ => some k_ ≠ (u8 : Value).ownBlock ∧ some k_ ≠ (.slice (some ad299) t296.length co18 : Value).ownBlock) (.slice (some ⟨go42, 0, none⟩) x11_3.length co42) y308 := (by rw [hw, Ny308.out]; exact HP44.1); clear HP44; have n0_ := Aside0.mk (Kd.R_after (v := (.slice (some ⟨go42, 0, none⟩) x11_3.length co42)) (v1 := (.slice (some ⟨go42, 0, none⟩) x11_3.length co42)) (ok := (fun k_ => some k_ ≠ (.slice (some ad299) t296.length co18 : Value).ownBlock)) (by (with_reducible repeat (first | apply Kd.R_alloc | apply Kd.R_drewN | apply Kd.R_drew)); exact Kd.R_mono HO_8.out (fun _ hk => ⟨hk.2, hk.1⟩)) hg (.inl rfl)); have n1_ := Aside0.mk (hp_); have n2_ := Aside0.mk (Kd.R_after (v := (.slice (some ⟨go42, 0, none⟩) x11_3.length co42)) (v1 := (.slice (some ⟨go42, 0, none⟩) x11_3.length co42)) (ok := (fun k_ => some k_ ≠ (u8 : Value).ownBlock)) (by (with_reducible repeat (first | apply Kd.R_alloc | apply Kd.R_drewN | apply Kd.R_drew)); exact HO_36.out) hg (.inl rfl)); have n3_ := Aside0.mk ((by rw [hw]; exact below_set (HB.out) GB42.out : Below w.heap.size w w45)); clear HO_8; clear HO_11; clear HO_36; clear HB; have HO_8 := n0_; have HO_11 := n1_; have HO_36 := n2_; have HB := n3_; clear n0_ n1_ n2_ n3_; clear hg hw hp_) | ((with_reducible refine gate_builtin (b := .append) (xs := #[.tmp 66, .tmp 68]) rfl ?_); at_builtin; refine Kd.R_append (Kd.int .i64) (w0 := w) w.heap.size rfl (.tmp 66) (.tmp 68) 22 3 (.int .i64 0) 8 rfl Try.underlying22 info3 rfl (by decide) (by omega) u8 x8_3 (wrap64 (x10_3 + 1)) [.int .i64 (wrap64 (x10_3 + 1))] (fun k_ => some k_ ≠ (.slice (some ⟨go42, 0, none⟩) x11_3.length co42 : Value).ownBlock ∧ some k_ ≠ (.slice (some ad299) t296.length co18 : Value).ownBlock) (fun _ => False) rfl rfl ?aP (fun _ hk => hk.elim) ?aF ?aO ?aB ?aS ?aL ?_; (case aP => exact rfl); (case aB => exact (by repeat (first | (with_reducible first | exact HB.out | apply below_alloc | apply pw_below_drewN | apply below_drew1) | exact HB.out))); (case aF => exact (fun k_ hk => ⟨Kd.fresh' (Kd.R_lt (by (with_reducible repeat (first | apply Kd.R_alloc | apply Kd.R_drewN | apply Kd.R_drew)); exact HO_11.out)) k_ hk, Kd.fresh' (Kd.R_lt (by (with_reducible repeat (first | apply Kd.R_alloc | apply Kd.R_drewN | apply Kd.R_drew)); exact HO_36.out)) k_ hk⟩)); (case aO => exact (by (with_reducible repeat (first | apply Kd.R_alloc | apply Kd.R_drewN | apply Kd.R_drew)); exact Kd.R_mono HO_8.out (fun _ hk => ⟨hk.2, hk.1⟩))); (case aS => exact (below_size (by repeat (first | (with_reducible first | exact HB.out | apply below_alloc | apply pw_below_drewN | apply below_drew1) | exact HB.out)))); (case aL => have := LMc43.out; omega); intro v310 w46 ho hb hg hat; rw [← Ny309.out] at ho; have n0_ := Aside0.mk (Kd.R_after (ok := (fun k_ => some k_ ≠ (.slice (some ad299) t296.length co18 : Value).ownBlock)) (by (with_reducible repeat (first | apply Kd.R_alloc | apply Kd.R_drewN | apply Kd.R_drew)); exact Kd.R_mono HO_11.out (fun _ hk => ⟨hk.2, hk.1⟩)) hg hat); have n1_ := Aside0.mk (Kd.R_after (ok := (fun k_ => some k_ ≠ (.slice (some ⟨go42, 0, none⟩) x11_3.length co42 : Value).ownBlock)) (by (with_reducible repeat (first | apply Kd.R_alloc | apply Kd.R_drewN | apply Kd.R_drew)); exact Kd.R_mono HO_36.out (fun _ hk => ⟨hk.2, hk.1⟩)) hg hat); have n2_ := Aside0.mk (hb); have n3_ := Aside0.mk (ho); clear HO_11; clear HO_36; clear HB; clear HO_8; have HO_11 := n0_; have HO_36 := n1_; have HB := n2_; have HO311 := n3_; clear n0_ n1_ n2_ n3_; clear ho hb hg hat))
                                            go_roundg k3
                                            case measure => have := HJ3.out; have := HJ9.out; have := HK3.out; omega
                                            case rel => exact ⟨(y309), ((a0.extract ((rd t296 x38_3) : Int).toNat a0.size).extract 0 (x1_9 : Int).toNat), (wrap64 (x10_3 + 1)), (y308), (wrap64 (x38_3 + 1)), (by first | rfl | (simp; done) | (simp [*]; done)), (by first | rfl | (simp; done) | (simp [*]; done)), (by first | rfl | (simp; done) | (simp [*]; done)), H', ⟨by have := HJ3.out; have := HJ9.out; have := HK3.out; omega⟩, ⟨by (with_reducible repeat (first | apply Kd.R_alloc | apply Kd.R_drewN | apply Kd.R_drew)); exact HO311.out⟩, ⟨by (with_reducible repeat (first | apply Kd.R_alloc | apply Kd.R_drewN | apply Kd.R_drew)); exact Kd.R_mono HO_11.out (fun _ hk => ⟨hk.2, hk.1⟩)⟩, ⟨by (with_reducible repeat (first | apply Kd.R_alloc | apply Kd.R_drewN | apply Kd.R_drew)); exact Kd.R_mono HO_36.out (fun _ hk => ⟨hk.2, hk.1⟩)⟩, ⟨by repeat (first | (with_reducible first | exact HB.out | apply below_alloc | apply pw_below_drewN | apply below_drew1) | exact HB.out)⟩⟩
                                          · rw [if_neg c43] at H
                                            exact absurd H (by simp)
                                        · rw [if_neg c41] at H
                                          exact absurd H (by simp)
                                  · rw [if_neg c26] at H
                                    exact absurd H (by simp)
                                · rw [if_neg c25] at H
                                  exact absurd H (by simp)
                              · rw [if_neg c24] at H
                                have c24b0 : decide (x1_9 < ((a0.extract ((rd t296 x38_3) : Int).toNat a0.size).size : Int)) = false := decide_eq_false c24
                                try have c24b0n := c24b0
                                try simp only [ByteArray.size_extract, Nat.min_self] at c24b0n
                                try have c24b0p := of_decide_eq_true c24b0n
                                try have c24b0q := Nat.le_of_lt c24b0p
                                clear c24
                                by_cases c47 : x10_3 < 0
                                · rw [if_pos c47] at H
                                  have c47b0 : decide (x10_3 < 0) = true := decide_eq_true c47
                                  clear c47
                                  by_cases c48 : (rd t296 x38_3) < (x11_3.length : Int)
                                  · rw [if_pos c48] at H
                                    have c48b0 : decide ((rd t296 x38_3) < (x11_3.length : Int)) = true := decide_eq_true c48
                                    clear c48
                                    obtain ⟨y312, hy312⟩ : ∃ y_ : List Int, y_ = (x11_3.set ((rd t296 x38_3) : Int).toNat (wrap64 (x10_3 + 1))) := ⟨_, rfl⟩
                                    replace H : (if x8_3.length < 17592186044416 then (spec_RankOf.l0 k3 a0 x1_9 (x8_3 ++ [wrap64 (x10_3 + 1)]) (a0.extract ((rd t296 x38_3) : Int).toNat a0.size) (wrap64 (x10_3 + 1)) y312 t296 (t296.length : Int) (wrap64 (x38_3 + 1))) else (none)) = some (r1, r2) := by first | (rw [hy312]; with_reducible exact H) | (have H2_ := (Option.bind_some _ _).symm.trans H; rw [hy312]; with_reducible exact H2_) | (have H2_ := (Option.bind_some _ _).symm.trans H; with_reducible exact H2_) | with_reducible exact H | (rw [hy312]; exact H) | exact H
                                    have Ny312 := Aside0.mk hy312
                                    clear hy312
                                    by_cases c50 : x8_3.length < 17592186044416
                                    · rw [if_pos c50] at H
                                      have LMc50 := Aside0.mk c50
                                      clear c50
                                      obtain ⟨y313, hy313⟩ : ∃ y_ : List Int, y_ = (x8_3 ++ [wrap64 (x10_3 + 1)]) := ⟨_, rfl⟩
                                      replace H : (spec_RankOf.l0 k3 a0 x1_9 y313 (a0.extract ((rd t296 x38_3) : Int).toNat a0.size) (wrap64 (x10_3 + 1)) y312 t296 (t296.length : Int) (wrap64 (x38_3 + 1))) = some (r1, r2) := by first | (rw [hy313]; with_reducible exact H) | (have H2_ := (Option.bind_some _ _).symm.trans H; rw [hy313]; with_reducible exact H2_) | (have H2_ := (Option.bind_some _ _).symm.trans H; with_reducible exact H2_) | with_reducible exact H | (rw [hy313]; exact H) | exact H
                                      have Ny313 := Aside0.mk hy313
                                      clear hy313
                                      have H' := Aside0.mk H
                                      clear H
                                      have p299 : 0 ≤ (x38_3 : Int) := of_decide_eq_true (by first | (with_reducible assumption) | assumption)
                                      have q299 : x38_3 < (t296.length : Int) := of_decide_eq_true (by first | (with_reducible assumption) | assumption)
                                      obtain ⟨ad299, e299, hx299_0⟩ := Kd.at_int (Kd.R_reads' HO_36.out).2.2 x38_3 p299 q299
                                      cases e299
                                      replace p299 := eq_true p299
                                      replace q299 := eq_true q299
                                      have p49 : 0 ≤ ((rd t296 x38_3) : Int) := of_decide_eq_true (by first | (with_reducible assumption) | assumption)
                                      have q49 : ((rd t296 x38_3) : Int) < ((x11_3.length : Int) : Int) := of_decide_eq_true (by first | (with_reducible assumption) | assumption)
                                      obtain ⟨go49, co49, eo49, gb49, gl49, cl49, HG49⟩ := Kd.R_form HO_11.out (by omega)
                                      (first | cases eo49 | (injection eo49 with ea_ en_ ec_; (first | subst ea_ | (injection ea_ with ea_; subst ea_)); subst ec_; clear en_))
                                      have GB49 := Aside0.mk gb49
                                      have GG49 := Aside0.mk HG49
                                      clear gb49 gl49 HG49
                                      obtain ⟨hx49_0, hf49_0⟩ := Kd.R_celln 0 HO_11.out ((rd t296 x38_3) : Int) p49 q49
                                      replace p49 := eq_true p49
                                      replace q49 := eq_true q49
                                      have HP51 := Kd.R_putg HO_11.out ((rd t296 x38_3) : Int) (wrap64 (x10_3 + 1))
                                      go_wp2_with (first | ((with_reducible refine gate_store (t := 3) (p := 65) rfl ?_); refine store_event (t := 3) (p := 65) (v := ?vo_w52) (w1 := (wr.setCell ⟨go49, ((rd t296 x38_3) : Int).toNat, none⟩ (.int .i64 (wrap64 (x10_3 + 1))))) ?hg ?ho ?hn ?hr ?_; (case ho => rfl); (case hg => rfl); (case hn => rfl); (case hr => first | (go_simp; done) | (go_simp; rfl)); intro w52 hw; have hg : wr.grownBy w52 (some go49) := (by rw [hw]; exact HP51.2); have hp_ : Kd.R (Kd.int .i64) 3 w52 w.heap.size (fun k_ => some k_ ≠ (u8 : Value).ownBlock ∧ some k_ ≠ (.slice (some ad299) t296.length co18 : Value).ownBlock) (.slice (some ⟨go49, 0, none⟩) x11_3.length co49) y312 := (by rw [hw, Ny312.out]; exact HP51.1); clear HP51; have n0_ := Aside0.mk (Kd.R_after (v := (.slice (some ⟨go49, 0, none⟩) x11_3.length co49)) (v1 := (.slice (some ⟨go49, 0, none⟩) x11_3.length co49)) (ok := (fun k_ => some k_ ≠ (.slice (some ad299) t296.length co18 : Value).ownBlock)) (by (with_reducible repeat (first | apply Kd.R_alloc | apply Kd.R_drewN | apply Kd.R_drew)); exact Kd.R_mono HO_8.out (fun _ hk => ⟨hk.2, hk.1⟩)) hg (.inl rfl)); have n1_ := Aside0.mk (hp_); have n2_ := Aside0.mk (Kd.R_after (v := (.slice (some ⟨go49, 0, none⟩) x11_3.length co49)) (v1 := (.slice (some ⟨go49, 0, none⟩) x11_3.length co49)) (ok := (fun k_ => some k_ ≠ (u8 : Value).ownBlock)) (by (with_reducible repeat (first | apply Kd.R_alloc | apply Kd.R_drewN | apply Kd.R_drew)); exact HO_36.out) hg (.inl rfl)); have n3_ := Aside0.mk ((by rw [hw]; exact below_set (HB.out) GB49.out : Below w.heap.size w w52)); clear HO_8; clear HO_11; clear HO_36; clear HB; have HO_8 := n0_; have HO_11 := n1_; have HO_36 := n2_; have HB := n3_; clear n0_ n1_ n2_ n3_; clear hg hw hp_) | ((with_reducible refine gate_builtin (b := .append) (xs := #[.tmp 66, .tmp 68]) rfl ?_); at_builtin; refine Kd.R_append (Kd.int .i64) (w0 := w) w.heap.size rfl (.tmp 66) (.tmp 68) 22 3 (.int .i64 0) 8 rfl Try.underlying22 info3 rfl (by decide) (by omega) u8 x8_3 (wrap64 (x10_3 + 1)) [.int .i64 (wrap64 (x10_3 + 1))] (fun k_ => some k_ ≠ (.slice (some ⟨go49, 0, none⟩) x11_3.length co49 : Value).ownBlock ∧ some k_ ≠ (.slice (some ad299) t296.length co18 : Value).ownBlock) (fun _ => False) rfl rfl ?aP (fun _ hk => hk.elim) ?aF ?aO ?aB ?aS ?aL ?_; (case aP => exact rfl); (case aB => exact (by repeat (first | (with_reducible first | exact HB.out | apply below_alloc | apply pw_below_drewN | apply below_drew1) | exact HB.out))); (case aF => exact (fun k_ hk => ⟨Kd.fresh' (Kd.R_lt (by (with_reducible repeat (first | apply Kd.R_alloc | apply Kd.R_drewN | apply Kd.R_drew)); exact HO_11.out)) k_ hk, Kd.fresh' (Kd.R_lt (by (with_reducible repeat (first | apply Kd.R_alloc | apply Kd.R_drewN | apply Kd.R_drew)); exact HO_36.out)) k_ hk⟩)); (case aO => exact (by (with_reducible repeat (first | apply Kd.R_alloc | apply Kd.R_drewN | apply Kd.R_drew)); exact Kd.R_mono HO_8.out (fun _ hk => ⟨hk.2, hk.1⟩))); (case aS => exact (below_size (by repeat (first | (with_reducible first | exact HB.out | apply below_alloc | apply pw_below_drewN | apply below_drew1) | exact HB.out)))); (case aL => have := LMc50.out; omega); intro v314 w53 ho hb hg hat; rw [← Ny313.out] at ho; have n0_ := Aside0.mk (Kd.R_after (ok := (fun k_ => some k_ ≠ (.slice (some ad299) t296.length co18 : Value).ownBlock)) (by (with_reducible repeat (first | apply Kd.R_alloc | apply Kd.R_drewN | apply Kd.R_drew)); exact Kd.R_mono HO_11.out (fun _ hk => ⟨hk.2, hk.1⟩)) hg hat); have n1_ := Aside0.mk (Kd.R_after (ok := (fun k_ => some k_ ≠ (.slice (some ⟨go49, 0, none⟩) x11_3.length co49 : Value).ownBlock)) (by (with_reducible repeat (first | apply Kd.R_alloc | apply Kd.R_drewN | apply Kd.R_drew)); exact Kd.R_mono HO_36.out (fun _ hk => ⟨hk.2, hk.1⟩)) hg hat); have n2_ := Aside0.mk (hb); have n3_ := Aside0.mk (ho); clear HO_11; clear HO_36; clear HB; clear HO_8; have HO_11 := n0_; have HO_36 := n1_; have HB := n2_; have HO315 := n3_; clear n0_ n1_ n2_ n3_; clear ho hb hg hat))
                                      go_roundg k3
                                      case measure => have := HJ3.out; have := HJ9.out; have := HK3.out; omega
                                      case rel => exact ⟨(y313), (a0.extract ((rd t296 x38_3) : Int).toNat a0.size), (wrap64 (x10_3 + 1)), (y312), (wrap64 (x38_3 + 1)), (by first | rfl | (simp; done) | (simp [*]; done)), (by first | rfl | (simp; done) | (simp [*]; done)), (by first | rfl | (simp; done) | (simp [*]; done)), H', ⟨by have := HJ3.out; have := HJ9.out; have := HK3.out; omega⟩, ⟨by (with_reducible repeat (first | apply Kd.R_alloc | apply Kd.R_drewN | apply Kd.R_drew)); exact HO315.out⟩, ⟨by (with_reducible repeat (first | apply Kd.R_alloc | apply Kd.R_drewN | apply Kd.R_drew)); exact Kd.R_mono HO_11.out (fun _ hk => ⟨hk.2, hk.1⟩)⟩, ⟨by (with_reducible repeat (first | apply Kd.R_alloc | apply Kd.R_drewN | apply Kd.R_drew)); exact Kd.R_mono HO_36.out (fun _ hk => ⟨hk.2, hk.1⟩)⟩, ⟨by repeat (first | (with_reducible first | exact HB.out | apply below_alloc | apply pw_below_drewN | apply below_drew1) | exact HB.out)⟩⟩
                                    · rw [if_neg c50] at H
                                      exact absurd H (by simp)
                                  · rw [if_neg c48] at H
                                    exact absurd H (by simp)
                                · rw [if_neg c47] at H
                                  have c47b0 : decide (x10_3 < 0) = false := decide_eq_false c47
                                  clear c47
                                  by_cases c54 : (a0.extract ((rd t296 x38_3) : Int).toNat a0.size).toList = x9_3.toList
                                  · rw [if_pos c54] at H
                                    have c54b0 : ((a0.extract ((rd t296 x38_3) : Int).toNat a0.size).toList == x9_3.toList) = true := beq_iff_eq.mpr c54
                                    have c54b1 : ((a0.extract ((rd t296 x38_3) : Int).toNat a0.size).toList != x9_3.toList) = false := bne_eq_false_iff_eq.mpr c54
                                    clear c54
                                    by_cases c55 : (rd t296 x38_3) < (x11_3.length : Int)
                                    · rw [if_pos c55] at H
                                      have c55b0 : decide ((rd t296 x38_3) < (x11_3.length : Int)) = true := decide_eq_true c55
                                      clear c55
                                      obtain ⟨y316, hy316⟩ : ∃ y_ : List Int, y_ = (x11_3.set ((rd t296 x38_3) : Int).toNat x10_3) := ⟨_, rfl⟩
                                      replace H : (if x8_3.length < 17592186044416 then (spec_RankOf.l0 k3 a0 x1_9 (x8_3 ++ [x10_3]) (a0.extract ((rd t296 x38_3) : Int).toNat a0.size) x10_3 y316 t296 (t296.length : Int) (wrap64 (x38_3 + 1))) else (none)) = some (r1, r2) := by first | (rw [hy316]; with_reducible exact H) | (have H2_ := (Option.bind_some _ _).symm.trans H; rw [hy316]; with_reducible exact H2_) | (have H2_ := (Option.bind_some _ _).symm.trans H; with_reducible exact H2_) | with_reducible exact H | (rw [hy316]; exact H) | exact H
                                      have Ny316 := Aside0.mk hy316
                                      clear hy316
                                      by_cases c57 : x8_3.length < 17592186044416
                                      · rw [if_pos c57] at H
                                        have LMc57 := Aside0.mk c57
                                        clear c57
                                        obtain ⟨y317, hy317⟩ : ∃ y_ : List Int, y_ = (x8_3 ++ [x10_3]) := ⟨_, rfl⟩
                                        replace H : (spec_RankOf.l0 k3 a0 x1_9 y317 (a0.extract ((rd t296 x38_3) : Int).toNat a0.size) x10_3 y316 t296 (t296.length : Int) (wrap64 (x38_3 + 1))) = some (r1, r2) := by first | (rw [hy317]; with_reducible exact H) | (have H2_ := (Option.bind_some _ _).symm.trans H; rw [hy317]; with_reducible exact H2_) | (have H2_ := (Option.bind_some _ _).symm.trans H; with_reducible exact H2_) | with_reducible exact H | (rw [hy317]; exact H) | exact H
                                        have Ny317 := Aside0.mk hy317
                                        clear hy317
                                        have H' := Aside0.mk H
                                        clear H
                                        have p299 : 0 ≤ (x38_3 : Int) := of_decide_eq_true (by first | (with_reducible assumption) | assumption)
                                        have q299 : x38_3 < (t296.length : Int) := of_decide_eq_true (by first | (with_reducible assumption) | assumption)
                                        obtain ⟨ad299, e299, hx299_0⟩ := Kd.at_int (Kd.R_reads' HO_36.out).2.2 x38_3 p299 q299
                                        cases e299
                                        replace p299 := eq_true p299
                                        replace q299 := eq_true q299
                                        have p56 : 0 ≤ ((rd t296 x38_3) : Int) := of_decide_eq_true (by first | (with_reducible assumption) | assumption)
                                        have q56 : ((rd t296 x38_3) : Int) < ((x11_3.length : Int) : Int) := of_decide_eq_true (by first | (with_reducible assumption) | assumption)
                                        obtain ⟨go56, co56, eo56, gb56, gl56, cl56, HG56⟩ := Kd.R_form HO_11.out (by omega)
                                        (first | cases eo56 | (injection eo56 with ea_ en_ ec_; (first | subst ea_ | (injection ea_ with ea_; subst ea_)); subst ec_; clear en_))
                                        have GB56 := Aside0.mk gb56
                                        have GG56 := Aside0.mk HG56
                                        clear gb56 gl56 HG56
                                        obtain ⟨hx56_0, hf56_0⟩ := Kd.R_celln 0 HO_11.out ((rd t296 x38_3) : Int) p56 q56
                                        replace p56 := eq_true p56
                                        replace q56 := eq_true q56
                                        have HP58 := Kd.R_putg HO_11.out ((rd t296 x38_3) : Int) x10_3
                                        go_wp2_with (first | ((with_reducible refine gate_store (t := 3) (p := 65) rfl ?_); refine store_event (t := 3) (p := 65) (v := ?vo_w59) (w1 := (wr.setCell ⟨go56, ((rd t296 x38_3) : Int).toNat, none⟩ (.int .i64 x10_3))) ?hg ?ho ?hn ?hr ?_; (case ho => rfl); (case hg => rfl); (case hn => rfl); (case hr => first | (go_simp; done) | (go_simp; rfl)); intro w59 hw; have hg : wr.grownBy w59 (some go56) := (by rw [hw]; exact HP58.2); have hp_ : Kd.R (Kd.int .i64) 3 w59 w.heap.size (fun k_ => some k_ ≠ (u8 : Value).ownBlock ∧ some k_ ≠ (.slice (some ad299) t296.length co18 : Value).ownBlock) (.slice (some ⟨go56, 0, none⟩) x11_3.length co56) y316 := (by rw [hw, Ny316.out]; exact HP58.1); clear HP58; have n0_ := Aside0.mk (Kd.R_after (v := (.slice (some ⟨go56, 0, none⟩) x11_3.length co56)) (v1 := (.slice (some ⟨go56, 0, none⟩) x11_3.length co56)) (ok := (fun k_ => some k_ ≠ (.slice (some ad299) t296.length co18 : Value).ownBlock)) (by (with_reducible repeat (first | apply Kd.R_alloc | apply Kd.R_drewN | apply Kd.R_drew)); exact Kd.R_mono HO_8.out (fun _ hk => ⟨hk.2, hk.1⟩)) hg (.inl rfl)); have n1_ := Aside0.mk (hp_); have n2_ := Aside0.mk (Kd.R_after (v := (.slice (some ⟨go56, 0, none⟩) x11_3.length co56)) (v1 := (.slice (some ⟨go56, 0, none⟩) x11_3.length co56)) (ok := (fun k_ => some k_ ≠ (u8 : Value).ownBlock)) (by (with_reducible repeat (first | apply Kd.R_alloc | apply Kd.R_drewN | apply Kd.R_drew)); exact HO_36.out) hg (.inl rfl)); have n3_ := Aside0.mk ((by rw [hw]; exact below_set (HB.out) GB56.out : Below w.heap.size w w59)); clear HO_8; clear HO_11; clear HO_36; clear HB; have HO_8 := n0_; have HO_11 := n1_; have HO_36 := n2_; have HB := n3_; clear n0_ n1_ n2_ n3_; clear hg hw hp_) | ((with_reducible refine gate_builtin (b := .append) (xs := #[.tmp 66, .tmp 68]) rfl ?_); at_builtin; refine Kd.R_append (Kd.int .i64) (w0 := w) w.heap.size rfl (.tmp 66) (.tmp 68) 22 3 (.int .i64 0) 8 rfl Try.underlying22 info3 rfl (by decide) (by omega) u8 x8_3 x10_3 [.int .i64 x10_3] (fun k_ => some k_ ≠ (.slice (some ⟨go56, 0, none⟩) x11_3.length co56 : Value).ownBlock ∧ some k_ ≠ (.slice (some ad299) t296.length co18 : Value).ownBlock) (fun _ => False) rfl rfl ?aP (fun _ hk => hk.elim) ?aF ?aO ?aB ?aS ?aL ?_; (case aP => exact rfl); (case aB => exact (by repeat (first | (with_reducible first | exact HB.out | apply below_alloc | apply pw_below_drewN | apply below_drew1) | exact HB.out))); (case aF => exact (fun k_ hk => ⟨Kd.fresh' (Kd.R_lt (by (with_reducible repeat (first | apply Kd.R_alloc | apply Kd.R_drewN | apply Kd.R_drew)); exact HO_11.out)) k_ hk, Kd.fresh' (Kd.R_lt (by (with_reducible repeat (first | apply Kd.R_alloc | apply Kd.R_drewN | apply Kd.R_drew)); exact HO_36.out)) k_ hk⟩)); (case aO => exact (by (with_reducible repeat (first | apply Kd.R_alloc | apply Kd.R_drewN | apply Kd.R_drew)); exact Kd.R_mono HO_8.out (fun _ hk => ⟨hk.2, hk.1⟩))); (case aS => exact (below_size (by repeat (first | (with_reducible first | exact HB.out | apply below_alloc | apply pw_below_drewN | apply below_drew1) | exact HB.out)))); (case aL => have := LMc57.out; omega); intro v318 w60 ho hb hg hat; rw [← Ny317.out] at ho; have n0_ := Aside0.mk (Kd.R_after (ok := (fun k_ => some k_ ≠ (.slice (some ad299) t296.length co18 : Value).ownBlock)) (by (with_reducible repeat (first | apply Kd.R_alloc | apply Kd.R_drewN | apply Kd.R_drew)); exact Kd.R_mono HO_11.out (fun _ hk => ⟨hk.2, hk.1⟩)) hg hat); have n1_ := Aside0.mk (Kd.R_after (ok := (fun k_ => some k_ ≠ (.slice (some ⟨go56, 0, none⟩) x11_3.length co56 : Value).ownBlock)) (by (with_reducible repeat (first | apply Kd.R_alloc | apply Kd.R_drewN | apply Kd.R_drew)); exact Kd.R_mono HO_36.out (fun _ hk => ⟨hk.2, hk.1⟩)) hg hat); have n2_ := Aside0.mk (hb); have n3_ := Aside0.mk (ho); clear HO_11; clear HO_36; clear HB; clear HO_8; have HO_11 := n0_; have HO_36 := n1_; have HB := n2_; have HO319 := n3_; clear n0_ n1_ n2_ n3_; clear ho hb hg hat))
                                        go_roundg k3
                                        case measure => have := HJ3.out; have := HJ9.out; have := HK3.out; omega
                                        case rel => exact ⟨(y317), (a0.extract ((rd t296 x38_3) : Int).toNat a0.size), (x10_3), (y316), (wrap64 (x38_3 + 1)), (by first | rfl | (simp; done) | (simp [*]; done)), (by first | rfl | (simp; done) | (simp [*]; done)), (by first | rfl | (simp; done) | (simp [*]; done)), H', ⟨by have := HJ3.out; have := HJ9.out; have := HK3.out; omega⟩, ⟨by (with_reducible repeat (first | apply Kd.R_alloc | apply Kd.R_drewN | apply Kd.R_drew)); exact HO319.out⟩, ⟨by (with_reducible repeat (first | apply Kd.R_alloc | apply Kd.R_drewN | apply Kd.R_drew)); exact Kd.R_mono HO_11.out (fun _ hk => ⟨hk.2, hk.1⟩)⟩, ⟨by (with_reducible repeat (first | apply Kd.R_alloc | apply Kd.R_drewN | apply Kd.R_drew)); exact Kd.R_mono HO_36.out (fun _ hk => ⟨hk.2, hk.1⟩)⟩, ⟨by repeat (first | (with_reducible first | exact HB.out | apply below_alloc | apply pw_below_drewN | apply below_drew1) | exact HB.out)⟩⟩
                                      · rw [if_neg c57] at H
                                        exact absurd H (by simp)
                                    · rw [if_neg c55] at H
                                      exact absurd H (by simp)
                                  · rw [if_neg c54] at H
                                    have c54b0 : ((a0.extract ((rd t296 x38_3) : Int).toNat a0.size).toList == x9_3.toList) = false := beq_eq_false_iff_ne.mpr c54
                                    have c54b1 : ((a0.extract ((rd t296 x38_3) : Int).toNat a0.size).toList != x9_3.toList) = true := bne_iff_ne.mpr c54
                                    by_cases c61 : (rd t296 x38_3) < (x11_3.length : Int)
                                    · rw [if_pos c61] at H
                                      have c61b0 : decide ((rd t296 x38_3) < (x11_3.length : Int)) = true := decide_eq_true c61
                                      clear c61
                                      obtain ⟨y320, hy320⟩ : ∃ y_ : List Int, y_ = (x11_3.set ((rd t296 x38_3) : Int).toNat (wrap64 (x10_3 + 1))) := ⟨_, rfl⟩
                                      replace H : (if x8_3.length < 17592186044416 then (spec_RankOf.l0 k3 a0 x1_9 (x8_3 ++ [wrap64 (x10_3 + 1)]) (a0.extract ((rd t296 x38_3) : Int).toNat a0.size) (wrap64 (x10_3 + 1)) y320 t296 (t296.length : Int) (wrap64 (x38_3 + 1))) else (none)) = some (r1, r2) := by first | (rw [hy320]; with_reducible exact H) | (have H2_ := (Option.bind_some _ _).symm.trans H; rw [hy320]; with_reducible exact H2_) | (have H2_ := (Option.bind_some _ _).symm.trans H; with_reducible exact H2_) | with_reducible exact H | (rw [hy320]; exact H) | exact H
                                      have Ny320 := Aside0.mk hy320
                                      clear hy320
                                      by_cases c63 : x8_3.length < 17592186044416
                                      · rw [if_pos c63] at H
                                        have LMc63 := Aside0.mk c63
                                        clear c63
                                        obtain ⟨y321, hy321⟩ : ∃ y_ : List Int, y_ = (x8_3 ++ [wrap64 (x10_3 + 1)]) := ⟨_, rfl⟩
                                        replace H : (spec_RankOf.l0 k3 a0 x1_9 y321 (a0.extract ((rd t296 x38_3) : Int).toNat a0.size) (wrap64 (x10_3 + 1)) y320 t296 (t296.length : Int) (wrap64 (x38_3 + 1))) = some (r1, r2) := by first | (rw [hy321]; with_reducible exact H) | (have H2_ := (Option.bind_some _ _).symm.trans H; rw [hy321]; with_reducible exact H2_) | (have H2_ := (Option.bind_some _ _).symm.trans H; with_reducible exact H2_) | with_reducible exact H | (rw [hy321]; exact H) | exact H
                                        have Ny321 := Aside0.mk hy321
                                        clear hy321
                                        have H' := Aside0.mk H
                                        clear H
                                        have p299 : 0 ≤ (x38_3 : Int) := of_decide_eq_true (by first | (with_reducible assumption) | assumption)
                                        have q299 : x38_3 < (t296.length : Int) := of_decide_eq_true (by first | (with_reducible assumption) | assumption)
                                        obtain ⟨ad299, e299, hx299_0⟩ := Kd.at_int (Kd.R_reads' HO_36.out).2.2 x38_3 p299 q299
                                        cases e299
                                        replace p299 := eq_true p299
                                        replace q299 := eq_true q299
                                        have p62 : 0 ≤ ((rd t296 x38_3) : Int) := of_decide_eq_true (by first | (with_reducible assumption) | assumption)
                                        have q62 : ((rd t296 x38_3) : Int) < ((x11_3.length : Int) : Int) := of_decide_eq_true (by first | (with_reducible assumption) | assumption)
                                        obtain ⟨go62, co62, eo62, gb62, gl62, cl62, HG62⟩ := Kd.R_form HO_11.out (by omega)
                                        (first | cases eo62 | (injection eo62 with ea_ en_ ec_; (first | subst ea_ | (injection ea_ with ea_; subst ea_)); subst ec_; clear en_))
                                        have GB62 := Aside0.mk gb62
                                        have GG62 := Aside0.mk HG62
                                        clear gb62 gl62 HG62
                                        obtain ⟨hx62_0, hf62_0⟩ := Kd.R_celln 0 HO_11.out ((rd t296 x38_3) : Int) p62 q62
                                        replace p62 := eq_true p62
                                        replace q62 := eq_true q62
                                        have HP64 := Kd.R_putg HO_11.out ((rd t296 x38_3) : Int) (wrap64 (x10_3 + 1))
                                        go_wp2_with (first | ((with_reducible refine gate_store (t := 3) (p := 65) rfl ?_); refine store_event (t := 3) (p := 65) (v := ?vo_w65) (w1 := (wr.setCell ⟨go62, ((rd t296 x38_3) : Int).toNat, none⟩ (.int .i64 (wrap64 (x10_3 + 1))))) ?hg ?ho ?hn ?hr ?_; (case ho => rfl); (case hg => rfl); (case hn => rfl); (case hr => first | (go_simp; done) | (go_simp; rfl)); intro w65 hw; have hg : wr.grownBy w65 (some go62) := (by rw [hw]; exact HP64.2); have hp_ : Kd.R (Kd.int .i64) 3 w65 w.heap.size (fun k_ => some k_ ≠ (u8 : Value).ownBlock ∧ some k_ ≠ (.slice (some ad299) t296.length co18 : Value).ownBlock) (.slice (some ⟨go62, 0, none⟩) x11_3.length co62) y320 := (by rw [hw, Ny320.out]; exact HP64.1); clear HP64; have n0_ := Aside0.mk (Kd.R_after (v := (.slice (some ⟨go62, 0, none⟩) x11_3.length co62)) (v1 := (.slice (some ⟨go62, 0, none⟩) x11_3.length co62)) (ok := (fun k_ => some k_ ≠ (.slice (some ad299) t296.length co18 : Value).ownBlock)) (by (with_reducible repeat (first | apply Kd.R_alloc | apply Kd.R_drewN | apply Kd.R_drew)); exact Kd.R_mono HO_8.out (fun _ hk => ⟨hk.2, hk.1⟩)) hg (.inl rfl)); have n1_ := Aside0.mk (hp_); have n2_ := Aside0.mk (Kd.R_after (v := (.slice (some ⟨go62, 0, none⟩) x11_3.length co62)) (v1 := (.slice (some ⟨go62, 0, none⟩) x11_3.length co62)) (ok := (fun k_ => some k_ ≠ (u8 : Value).ownBlock)) (by (with_reducible repeat (first | apply Kd.R_alloc | apply Kd.R_drewN | apply Kd.R_drew)); exact HO_36.out) hg (.inl rfl)); have n3_ := Aside0.mk ((by rw [hw]; exact below_set (HB.out) GB62.out : Below w.heap.size w w65)); clear HO_8; clear HO_11; clear HO_36; clear HB; have HO_8 := n0_; have HO_11 := n1_; have HO_36 := n2_; have HB := n3_; clear n0_ n1_ n2_ n3_; clear hg hw hp_) | ((with_reducible refine gate_builtin (b := .append) (xs := #[.tmp 66, .tmp 68]) rfl ?_); at_builtin; refine Kd.R_append (Kd.int .i64) (w0 := w) w.heap.size rfl (.tmp 66) (.tmp 68) 22 3 (.int .i64 0) 8 rfl Try.underlying22 info3 rfl (by decide) (by omega) u8 x8_3 (wrap64 (x10_3 + 1)) [.int .i64 (wrap64 (x10_3 + 1))] (fun k_ => some k_ ≠ (.slice (some ⟨go62, 0, none⟩) x11_3.length co62 : Value).ownBlock ∧ some k_ ≠ (.slice (some ad299) t296.length co18 : Value).ownBlock) (fun _ => False) rfl rfl ?aP (fun _ hk => hk.elim) ?aF ?aO ?aB ?aS ?aL ?_; (case aP => exact rfl); (case aB => exact (by repeat (first | (with_reducible first | exact HB.out | apply below_alloc | apply pw_below_drewN | apply below_drew1) | exact HB.out))); (case aF => exact (fun k_ hk => ⟨Kd.fresh' (Kd.R_lt (by (with_reducible repeat (first | apply Kd.R_alloc | apply Kd.R_drewN | apply Kd.R_drew)); exact HO_11.out)) k_ hk, Kd.fresh' (Kd.R_lt (by (with_reducible repeat (first | apply Kd.R_alloc | apply Kd.R_drewN | apply Kd.R_drew)); exact HO_36.out)) k_ hk⟩)); (case aO => exact (by (with_reducible repeat (first | apply Kd.R_alloc | apply Kd.R_drewN | apply Kd.R_drew)); exact Kd.R_mono HO_8.out (fun _ hk => ⟨hk.2, hk.1⟩))); (case aS => exact (below_size (by repeat (first | (with_reducible first | exact HB.out | apply below_alloc | apply pw_below_drewN | apply below_drew1) | exact HB.out)))); (case aL => have := LMc63.out; omega); intro v322 w66 ho hb hg hat; rw [← Ny321.out] at ho; have n0_ := Aside0.mk (Kd.R_after (ok := (fun k_ => some k_ ≠ (.slice (some ad299) t296.length co18 : Value).ownBlock)) (by (with_reducible repeat (first | apply Kd.R_alloc | apply Kd.R_drewN | apply Kd.R_drew)); exact Kd.R_mono HO_11.out (fun _ hk => ⟨hk.2, hk.1⟩)) hg hat); have n1_ := Aside0.mk (Kd.R_after (ok := (fun k_ => some k_ ≠ (.slice (some ⟨go62, 0, none⟩) x11_3.length co62 : Value).ownBlock)) (by (with_reducible repeat (first | apply Kd.R_alloc | apply Kd.R_drewN | apply Kd.R_drew)); exact Kd.R_mono HO_36.out (fun _ hk => ⟨hk.2, hk.1⟩)) hg hat); have n2_ := Aside0.mk (hb); have n3_ := Aside0.mk (ho); clear HO_11; clear HO_36; clear HB; clear HO_8; have HO_11 := n0_; have HO_36 := n1_; have HB := n2_; have HO323 := n3_; clear n0_ n1_ n2_ n3_; clear ho hb hg hat))
                                        go_roundg k3
                                        case measure => have := HJ3.out; have := HJ9.out; have := HK3.out; omega
                                        case rel => exact ⟨(y321), (a0.extract ((rd t296 x38_3) : Int).toNat a0.size), (wrap64 (x10_3 + 1)), (y320), (wrap64 (x38_3 + 1)), (by first | rfl | (simp; done) | (simp [*]; done)), (by first | rfl | (simp; done) | (simp [*]; done)), (by first | rfl | (simp; done) | (simp [*]; done)), H', ⟨by have := HJ3.out; have := HJ9.out; have := HK3.out; omega⟩, ⟨by (with_reducible repeat (first | apply Kd.R_alloc | apply Kd.R_drewN | apply Kd.R_drew)); exact HO323.out⟩, ⟨by (with_reducible repeat (first | apply Kd.R_alloc | apply Kd.R_drewN | apply Kd.R_drew)); exact Kd.R_mono HO_11.out (fun _ hk => ⟨hk.2, hk.1⟩)⟩, ⟨by (with_reducible repeat (first | apply Kd.R_alloc | apply Kd.R_drewN | apply Kd.R_drew)); exact Kd.R_mono HO_36.out (fun _ hk => ⟨hk.2, hk.1⟩)⟩, ⟨by repeat (first | (with_reducible first | exact HB.out | apply below_alloc | apply pw_below_drewN | apply below_drew1) | exact HB.out)⟩⟩
                                      · rw [if_neg c63] at H
                                        exact absurd H (by simp)
                                    · rw [if_neg c61] at H
                                      exact absurd H (by simp)
                            · rw [if_neg c23] at H
                              exact absurd H (by simp)
                          · rw [if_neg c22] at H
                            exact absurd H (by simp)
                        · rw [if_neg c21] at H
                          exact absurd H (by simp)
                      · rw [if_neg c20] at H
                        exact absurd H (by simp)
                    · rw [if_neg c19] at H
                      have c19b0 : decide (x38_3 < (t296.length : Int)) = false := decide_eq_false c19
                      clear c19
                      simp only [Option.some.injEq, Prod.mk.injEq] at H
                      obtain ⟨rfl, rfl⟩ := H
                      obtain ⟨Ao67, co67, eo67⟩ := Kd.R_slice HO_8.out
                      subst eo67
                      go_wp2
                      go_ret2
                      exact ⟨_, by first | rfl | (simp [errW_none, errW_some] <;> rfl) | (simp [*, errW_none, errW_some] <;> rfl), by (with_reducible repeat (first | apply Kd.R_alloc | apply Kd.R_drewN | apply Kd.R_drew)); exact Kd.R_mono HO_11.out (fun _ hk => trivial), by repeat (first | (with_reducible first | exact HB.out | apply below_alloc | apply pw_below_drewN | apply below_drew1) | exact HB.out)⟩
              · rw [if_neg c13] at H
                exact absurd H (by simp)
            · rw [if_neg c12] at H
              exact absurd H (by simp)

end Go.Proofs.Ytppmigiknidjhaa.PQ
end
