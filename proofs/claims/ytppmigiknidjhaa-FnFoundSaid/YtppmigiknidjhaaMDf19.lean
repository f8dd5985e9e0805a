/- Several texts in one: what the claim's last text rests on. No conditions. -/
import Derived.Test.YtppmigiknidjhaaMDf5
import Derived.Test.YtppmigiknidjhaaMDf9
import Derived.Test.YtppmigiknidjhaaMDf6
section
-- Written by a program of this session (pprint.py) out of the translation's print; Lean checks it.
namespace Go.Proofs.Ytppmigiknidjhaa.PQ
open Go.RowKit Go.Proofs.YtppmigiknidjhaaW.PrintWords Go.Proofs.YtppmigiknidjhaaW.PrintLast Go.Proofs.YtppmigiknidjhaaW.PrintMore
attribute [local go_sem] max2_int min2_int max_two min_two max_three min_three max_four min_four   -- for this text's walks alone
set_option linter.unusedVariables false
set_option linter.unusedSimpArgs false

--OWNPART spec_FindIn
/-! ### spec_FindIn: function 34, by hand -/
--NEEDS loop.example/g00274/spec.l12Is
--NEEDS loop.example/g00274/spec.l1In
--IMPORT StrOps
attribute [local go_sem] Go.Proofs.Ytppmigiknidjhaa.StrO.leq_s Go.Proofs.Ytppmigiknidjhaa.StrO.gtr_s Go.Proofs.Ytppmigiknidjhaa.StrO.geq_s
mutual
def spec_FindIn.j0 : Nat → ByteArray → List Int → ByteArray → Bool → Option (List Int × Int × Bool)
  | 0, _, _, _, _ => none
  | k + 1, x0, x1, x2, x31 => if x31 = true then (some (([] : List Int), 0, false)) else (spec_FindIn.l0 k x0 x1 x2 0 0 (x1.length : Int))
def spec_FindIn.l0 : Nat → ByteArray → List Int → ByteArray → Int → Int → Int → Option (List Int × Int × Bool)
  | 0, _, _, _, _, _, _ => none
  | k + 1, x0, x1, x2, x9, x10, x11 => if x10 < x11 then (if 0 ≤ (wrap64 (Int.tdiv (wrap64 (x10 + x11)) 2)) then (if (wrap64 (Int.tdiv (wrap64 (x10 + x11)) 2)) < (x1.length : Int) then (if 0 ≤ (rd x1 (wrap64 (Int.tdiv (wrap64 (x10 + x11)) 2))) then (if (rd x1 (wrap64 (Int.tdiv (wrap64 (x10 + x11)) 2))) ≤ (x0.size : Int) then (if (Op.bytesLess ((x0.extract ((rd x1 (wrap64 (Int.tdiv (wrap64 (x10 + x11)) 2))) : Int).toNat x0.size).toList) x2.toList) = true then (spec_FindIn.l0 k x0 x1 x2 (wrap64 (x9 + 1)) (wrap64 ((wrap64 (Int.tdiv (wrap64 (x10 + x11)) 2)) + 1)) x11) else (spec_FindIn.l0 k x0 x1 x2 (wrap64 (x9 + 1)) x10 (wrap64 (Int.tdiv (wrap64 (x10 + x11)) 2)))) else (none)) else (none)) else (none)) else (none)) else (spec_FindIn.l1 k x0 x1 x2 x9 x10 x10 (x1.length : Int))
def spec_FindIn.l1 : Nat → ByteArray → List Int → ByteArray → Int → Int → Int → Int → Option (List Int × Int × Bool)
  | 0, _, _, _, _, _, _, _ => none
  | k + 1, x0, x1, x2, x9, x10, x13, x14 => if x10 < x14 then (if 0 ≤ (wrap64 (Int.tdiv (wrap64 (x10 + x14)) 2)) then (if (wrap64 (Int.tdiv (wrap64 (x10 + x14)) 2)) < (x1.length : Int) then (if 0 ≤ (rd x1 (wrap64 (Int.tdiv (wrap64 (x10 + x14)) 2))) then (if (rd x1 (wrap64 (Int.tdiv (wrap64 (x10 + x14)) 2))) ≤ (x0.size : Int) then (if ((x0.extract ((rd x1 (wrap64 (Int.tdiv (wrap64 (x10 + x14)) 2))) : Int).toNat x0.size).size : Int) > (x2.size : Int) then (if 0 ≤ (x2.size : Int) then (if (x2.size : Int) ≤ ((x0.extract ((rd x1 (wrap64 (Int.tdiv (wrap64 (x10 + x14)) 2))) : Int).toNat x0.size).size : Int) then (if ((Op.bytesLess x2.toList (((x0.extract ((rd x1 (wrap64 (Int.tdiv (wrap64 (x10 + x14)) 2))) : Int).toNat x0.size).extract 0 x2.size).toList)) = true) then (spec_FindIn.l1 k x0 x1 x2 (wrap64 (x9 + 1)) x10 x13 (wrap64 (Int.tdiv (wrap64 (x10 + x14)) 2))) else (spec_FindIn.l1 k x0 x1 x2 (wrap64 (x9 + 1)) (wrap64 ((wrap64 (Int.tdiv (wrap64 (x10 + x14)) 2)) + 1)) x13 x14)) else (none)) else (none)) else (if ((Op.bytesLess x2.toList ((x0.extract ((rd x1 (wrap64 (Int.tdiv (wrap64 (x10 + x14)) 2))) : Int).toNat x0.size).toList)) = true) then (spec_FindIn.l1 k x0 x1 x2 (wrap64 (x9 + 1)) x10 x13 (wrap64 (Int.tdiv (wrap64 (x10 + x14)) 2))) else (spec_FindIn.l1 k x0 x1 x2 (wrap64 (x9 + 1)) (wrap64 ((wrap64 (Int.tdiv (wrap64 (x10 + x14)) 2)) + 1)) x13 x14))) else (none)) else (none)) else (none)) else (none)) else (if 0 ≤ x13 then (if x13 ≤ x10 then (if x10 ≤ (x1.length : Int) then (spec_FindIn.l2 k x9 ([] : List Int) ((x1.take (x10 : Int).toNat).drop (x13 : Int).toNat) (((x1.take (x10 : Int).toNat).drop (x13 : Int).toNat).length : Int) 0) else (none)) else (none)) else (none))
def spec_FindIn.l2 : Nat → Int → List Int → List Int → Int → Int → Option (List Int × Int × Bool)
  | 0, _, _, _, _, _ => none
  | k + 1, x9, x17, x90, x91, x92 => if x92 < x91 then (if 0 ≤ x92 then (if x92 < (x90.length : Int) then (spec_FindIn.l3 k x9 x17 (rd x90 x92) 0 x90 x91 x92) else (none)) else (none)) else (some (x17, x9, true))
def spec_FindIn.l3 : Nat → Int → List Int → Int → Int → List Int → Int → Int → Option (List Int × Int × Bool)
  | 0, _, _, _, _, _, _, _ => none
  | k + 1, x9, x17, x19, x20, x90, x91, x92 => if x20 < (x17.length : Int) then (if 0 ≤ x20 then (if (rd x17 x20) < x19 then (spec_FindIn.l3 k x9 x17 x19 (wrap64 (x20 + 1)) x90 x91 x92) else (if x20 ≤ (x17.length : Int) then ((some (x17.take (x20 : Int).toNat : List Int)).bind fun y449 => (if ([] : List Int).length + y449.length < 17592186044416 then ((some (([] : List Int) ++ y449 : List Int)).bind fun y453 => (if y453.length < 17592186044416 then ((some (y453 ++ [x19] : List Int)).bind fun y456 => ((some (x17.drop (x20 : Int).toNat : List Int)).bind fun y459 => (if y456.length + y459.length < 17592186044416 then (spec_FindIn.l2 k x9 (y456 ++ y459) x90 x91 (wrap64 (x92 + 1))) else (none)))) else (none))) else (none))) else (none))) else (none)) else (if 0 ≤ x20 then (if x20 ≤ (x17.length : Int) then ((some (x17.take (x20 : Int).toNat : List Int)).bind fun y466 => (if ([] : List Int).length + y466.length < 17592186044416 then ((some (([] : List Int) ++ y466 : List Int)).bind fun y470 => (if y470.length < 17592186044416 then ((some (y470 ++ [x19] : List Int)).bind fun y473 => ((some (x17.drop (x20 : Int).toNat : List Int)).bind fun y476 => (if y473.length + y476.length < 17592186044416 then (spec_FindIn.l2 k x9 (y473 ++ y476) x90 x91 (wrap64 (x92 + 1))) else (none)))) else (none))) else (none))) else (none)) else (none))
end
def spec_FindIn.f (k : Nat) (a0 : ByteArray) (l1 : List Int) (a2 : ByteArray) : Option (List Int × Int × Bool) := (spec_l12Is.f k a0 l1).bind fun t442 => (if t442 = true then ((spec_l1In.f (a2.size : Int) 1 120).bind fun t443 => (spec_FindIn.j0 k a0 l1 a2 (!t443))) else (spec_FindIn.j0 k a0 l1 a2 true))
theorem spec_FindIn.mono_l : ∀ k, (∀ y0 y1 y2 y3, LeO (spec_FindIn.j0 k y0 y1 y2 y3) (spec_FindIn.j0 (k + 1) y0 y1 y2 y3)) ∧ (∀ y0 y1 y2 y3 y4 y5, LeO (spec_FindIn.l0 k y0 y1 y2 y3 y4 y5) (spec_FindIn.l0 (k + 1) y0 y1 y2 y3 y4 y5)) ∧ (∀ y0 y1 y2 y3 y4 y5 y6, LeO (spec_FindIn.l1 k y0 y1 y2 y3 y4 y5 y6) (spec_FindIn.l1 (k + 1) y0 y1 y2 y3 y4 y5 y6)) ∧ (∀ y0 y1 y2 y3 y4, LeO (spec_FindIn.l2 k y0 y1 y2 y3 y4) (spec_FindIn.l2 (k + 1) y0 y1 y2 y3 y4)) ∧ (∀ y0 y1 y2 y3 y4 y5 y6, LeO (spec_FindIn.l3 k y0 y1 y2 y3 y4 y5 y6) (spec_FindIn.l3 (k + 1) y0 y1 y2 y3 y4 y5 y6))
  | 0 => ⟨fun _ _ _ _ r h => by simp [spec_FindIn.j0] at h, fun _ _ _ _ _ _ r h => by simp [spec_FindIn.l0] at h, fun _ _ _ _ _ _ _ r h => by simp [spec_FindIn.l1] at h, fun _ _ _ _ _ r h => by simp [spec_FindIn.l2] at h, fun _ _ _ _ _ _ _ r h => by simp [spec_FindIn.l3] at h⟩
  | k + 1 => by
    obtain ⟨ih0, ih1, ih2, ih3, ih4⟩ := spec_FindIn.mono_l k
    refine ⟨?_, ?_, ?_, ?_, ?_⟩
    · intro y0 y1 y2 y3
      unfold spec_FindIn.j0
      repeat' first
      | (with_reducible exact ih0 _ _ _ _)
      | (with_reducible exact ih1 _ _ _ _ _ _)
      | (with_reducible exact ih2 _ _ _ _ _ _ _)
      | (with_reducible exact ih3 _ _ _ _ _)
      | (with_reducible exact ih4 _ _ _ _ _ _ _)
      | (with_reducible exact spec_l12Is.mono _ _ _)
      | (with_reducible exact LeO.refl _)
      | (with_reducible exact LeO.none _)
      | (with_reducible refine LeO.ite ?_ ?_)
      | (with_reducible refine LeO.bind ?_ (fun _ => ?_))
      | exact ih0 _ _ _ _
      | exact ih1 _ _ _ _ _ _
      | exact ih2 _ _ _ _ _ _ _
      | exact ih3 _ _ _ _ _
      | exact ih4 _ _ _ _ _ _ _
      | exact spec_l12Is.mono _ _ _
      | exact LeO.none _
      | refine LeO.ite ?_ ?_
      | refine LeO.bind ?_ (fun _ => ?_)
    · intro y0 y1 y2 y3 y4 y5
      unfold spec_FindIn.l0
      repeat' first
      | (with_reducible exact ih0 _ _ _ _)
      | (with_reducible exact ih1 _ _ _ _ _ _)
      | (with_reducible exact ih2 _ _ _ _ _ _ _)
      | (with_reducible exact ih3 _ _ _ _ _)
      | (with_reducible exact ih4 _ _ _ _ _ _ _)
      | (with_reducible exact spec_l12Is.mono _ _ _)
      | (with_reducible exact LeO.refl _)
      | (with_reducible exact LeO.none _)
      | (with_reducible refine LeO.ite ?_ ?_)
      | (with_reducible refine LeO.bind ?_ (fun _ => ?_))
      | exact ih0 _ _ _ _
      | exact ih1 _ _ _ _ _ _
      | exact ih2 _ _ _ _ _ _ _
      | exact ih3 _ _ _ _ _
      | exact ih4 _ _ _ _ _ _ _
      | exact spec_l12Is.mono _ _ _
      | exact LeO.none _
      | refine LeO.ite ?_ ?_
      | refine LeO.bind ?_ (fun _ => ?_)
    · intro y0 y1 y2 y3 y4 y5 y6
      unfold spec_FindIn.l1
      repeat' first
      | (with_reducible exact ih0 _ _ _ _)
      | (with_reducible exact ih1 _ _ _ _ _ _)
      | (with_reducible exact ih2 _ _ _ _ _ _ _)
      | (with_reducible exact ih3 _ _ _ _ _)
      | (with_reducible exact ih4 _ _ _ _ _ _ _)
      | (with_reducible exact spec_l12Is.mono _ _ _)
      | (with_reducible exact LeO.refl _)
      | (with_reducible exact LeO.none _)
      | (with_reducible refine LeO.ite ?_ ?_)
      | (with_reducible refine LeO.bind ?_ (fun _ => ?_))
      | exact ih0 _ _ _ _
      | exact ih1 _ _ _ _ _ _
      | exact ih2 _ _ _ _ _ _ _
      | exact ih3 _ _ _ _ _
      | exact ih4 _ _ _ _ _ _ _
      | exact spec_l12Is.mono _ _ _
      | exact LeO.none _
      | refine LeO.ite ?_ ?_
      | refine LeO.bind ?_ (fun _ => ?_)
    · intro y0 y1 y2 y3 y4
      unfold spec_FindIn.l2
      repeat' first
      | (with_reducible exact ih0 _ _ _ _)
      | (with_reducible exact ih1 _ _ _ _ _ _)
      | (with_reducible exact ih2 _ _ _ _ _ _ _)
      | (with_reducible exact ih3 _ _ _ _ _)
      | (with_reducible exact ih4 _ _ _ _ _ _ _)
      | (with_reducible exact spec_l12Is.mono _ _ _)
      | (with_reducible exact LeO.refl _)
      | (with_reducible exact LeO.none _)
      | (with_reducible refine LeO.ite ?_ ?_)
      | (with_reducible refine LeO.bind ?_ (fun _ => ?_))
      | exact ih0 _ _ _ _
      | exact ih1 _ _ _ _ _ _
      | exact ih2 _ _ _ _ _ _ _
      | exact ih3 _ _ _ _ _
      | exact ih4 _ _ _ _ _ _ _
      | exact spec_l12Is.mono _ _ _
      | exact LeO.none _
      | refine LeO.ite ?_ ?_
      | refine LeO.bind ?_ (fun _ => ?_)
    · intro y0 y1 y2 y3 y4 y5 y6
      unfold spec_FindIn.l3
      repeat' first
      | (with_reducible exact ih0 _ _ _ _)
      | (with_reducible exact ih1 _ _ _ _ _ _)
      | (with_reducible exact ih2 _ _ _ _ _ _ _)
      | (with_reducible exact ih3 _ _ _ _ _)
      | (with_reducible exact ih4 _ _ _ _ _ _ _)
      | (with_reducible exact spec_l12Is.mono _ _ _)
      | (with_reducible exact LeO.refl _)
      | (with_reducible exact LeO.none _)
      | (with_reducible refine LeO.ite ?_ ?_)
      | (with_reducible refine LeO.bind ?_ (fun _ => ?_))
      | exact ih0 _ _ _ _
      | exact ih1 _ _ _ _ _ _
      | exact ih2 _ _ _ _ _ _ _
      | exact ih3 _ _ _ _ _
      | exact ih4 _ _ _ _ _ _ _
      | exact spec_l12Is.mono _ _ _
      | exact LeO.none _
      | refine LeO.ite ?_ ?_
      | refine LeO.bind ?_ (fun _ => ?_)
theorem spec_FindIn.mono : ∀ a0 a1 a2 k, LeO (spec_FindIn.f k a0 a1 a2) (spec_FindIn.f (k + 1) a0 a1 a2) := by
  intro a0 a1 a2 k
  obtain ⟨ih0, ih1, ih2, ih3, ih4⟩ := spec_FindIn.mono_l k
  unfold spec_FindIn.f
  repeat' first
      | (with_reducible exact ih0 _ _ _ _)
      | (with_reducible exact ih1 _ _ _ _ _ _)
      | (with_reducible exact ih2 _ _ _ _ _ _ _)
      | (with_reducible exact ih3 _ _ _ _ _)
      | (with_reducible exact ih4 _ _ _ _ _ _ _)
      | (with_reducible exact spec_l12Is.mono _ _ _)
      | (with_reducible exact LeO.refl _)
      | (with_reducible exact LeO.none _)
      | (with_reducible refine LeO.ite ?_ ?_)
      | (with_reducible refine LeO.bind ?_ (fun _ => ?_))
      | exact ih0 _ _ _ _
      | exact ih1 _ _ _ _ _ _
      | exact ih2 _ _ _ _ _ _ _
      | exact ih3 _ _ _ _ _
      | exact ih4 _ _ _ _ _ _ _
      | exact spec_l12Is.mono _ _ _
      | exact LeO.none _
      | refine LeO.ite ?_ ?_
      | refine LeO.bind ?_ (fun _ => ?_)
set_option maxHeartbeats 8000000 in
set_option maxRecDepth 100000 in
theorem spec_FindIn.calls (k : Nat) (a0 : ByteArray) (A1 : Option Addr) (c1 : Nat) (l1 : List Int) (a2 : ByteArray) (r1 : List Int) (r2 : Int) (r3 : Bool) (w : World) (hr1 : Kd.C (Kd.int .i64) w A1 l1.length l1) (hc1 : l1.length ≤ c1) (h : spec_FindIn.f k a0 l1 a2 = some (r1, r2, r3)) :
    Calls Try.prog 34 #[.string a0, .slice A1 l1.length c1, .string a2] w fun e w' => ∃ v0_ : Value, e = .returned (.tuple #[v0_, .int .i64 r2, .bool r3]) ∧ Kd.R (Kd.int .i64) 3 w' w.heap.size (fun _ => True) v0_ r1 ∧ Below w.heap.size w w' := by
  have HR1 := Aside0.mk hr1
  have HC1 := Aside0.mk hc1
  clear hr1 hc1
  have HB := Aside0.mk (Below.refl w.heap.size w)
  have H : ((spec_l12Is.f k a0 l1).bind fun t442 => (if t442 = true then ((spec_l1In.f (a2.size : Int) 1 120).bind fun t443 => (spec_FindIn.j0 k a0 l1 a2 (!t443))) else (spec_FindIn.j0 k a0 l1 a2 true))) = some (r1, r2, r3) := h
  clear h
  have HC4 := Aside0.mk H
  clear H
  go_enter Try.func34, Try.ntmps34
  go_upto_region 1 with (fail)
  go_cut [31] (fun v31 wc => ∃ (kq : Nat) (x31_3 : Bool), v31 = .bool x31_3 ∧ Aside0 (spec_FindIn.j0 kq a0 l1 a2 x31_3 = some (r1, r2, r3)) ∧ Aside0 (kq ≤ k) ∧ Aside0 (Below w.heap.size w wc))
  case first =>
    have H := HC4.out
    clear HC4
    replace H := Option.bind_eq_some_iff.mp H
    obtain ⟨t442, A50, H⟩ := H
    replace H : (if t442 = true then ((spec_l1In.f (a2.size : Int) 1 120).bind fun t443 => (spec_FindIn.j0 k a0 l1 a2 (!t443))) else (spec_FindIn.j0 k a0 l1 a2 true)) = some (r1, r2, r3) := H
    have A5 := Aside0.mk A50
    clear A50
    by_cases c6 : t442 = true
    · subst c6
      have H1 : ((spec_l1In.f (a2.size : Int) 1 120).bind fun t443 => (spec_FindIn.j0 k a0 l1 a2 (!t443))) = some (r1, r2, r3) := by rw [if_pos rfl] at H; exact H
      clear H
      have H := H1
      clear H1
      replace H := Option.bind_eq_some_iff.mp H
      obtain ⟨t443, A70, H⟩ := H
      replace H : (spec_FindIn.j0 k a0 l1 a2 (!t443)) = some (r1, r2, r3) := H
      have A7 := Aside0.mk A70
      clear A70
      have H' := Aside0.mk H
      clear H
      go_wp2_with (first | ((with_reducible refine gate_callee (f := 41) rfl ?_); refine goesL_ (some 24) rfl rfl Try.func41 (by kernel_rfl) rfl #[.string a0, .slice A1 l1.length c1] rfl (by (try simp only [List.map_toArray, List.map_cons, List.map_nil]); first | done | rfl | (simp only [List.length_drop, List.length_take]; rfl)) ?_; (with_reducible refine (spec_l12Is.calls k a0 _ _ l1 true _ ?side1 ?side2 A5.out).mono ?_); (case side1 => repeat (first | exact (Kd.C_below HR1.out HB.out) | (with_reducible refine Kd.C_alloc ?_ _) | (with_reducible refine Kd.C_drewN ?_ _) | (with_reducible refine Kd.C_drew ?_))); (case side2 => exact HC1.out); rintro e w8 ⟨rfl, hb⟩; refine ⟨_, rfl, ?_⟩; have n0_ := Aside0.mk (below_step (by repeat (first | (with_reducible first | exact HB.out | apply below_alloc | apply pw_below_drewN | apply below_drew1) | exact HB.out)) hb); clear HB; have HB := n0_; clear n0_; (try clear hb); (try clear hb2); (try clear hk); (try clear hi)) | (go_at_call 43; (try simp only [i64_w]); (with_reducible refine (spec_l1In.calls (a2.size : Int) 1 120 t443 _ A7.out).mono ?_); rintro e w' ⟨rfl, ⟨nd, rfl⟩⟩))
      go_meet
      case rel => exact ⟨_, (!t443), (by first | rfl | (simp; done) | (simp [*]; done)), H', ⟨by first | omega | exact Nat.le_refl _⟩, ⟨by repeat (first | (with_reducible first | exact HB.out | apply below_alloc | apply pw_below_drewN | apply below_drew1) | exact HB.out)⟩⟩
    · replace c6 := Bool.eq_false_iff.mpr c6
      subst c6
      have H1 : (spec_FindIn.j0 k a0 l1 a2 true) = some (r1, r2, r3) := by rw [if_neg (show ¬ (false = true) by decide)] at H; exact H
      clear H
      have H := H1
      clear H1
      have H' := Aside0.mk H
      clear H
      go_wp2_with (first | ((with_reducible refine gate_callee (f := 41) rfl ?_); refine goesL_ (some 24) rfl rfl Try.func41 (by kernel_rfl) rfl #[.string a0, .slice A1 l1.length c1] rfl (by (try simp only [List.map_toArray, List.map_cons, List.map_nil]); first | done | rfl | (simp only [List.length_drop, List.length_take]; rfl)) ?_; (with_reducible refine (spec_l12Is.calls k a0 _ _ l1 false _ ?side1 ?side2 A5.out).mono ?_); (case side1 => repeat (first | exact (Kd.C_below HR1.out HB.out) | (with_reducible refine Kd.C_alloc ?_ _) | (with_reducible refine Kd.C_drewN ?_ _) | (with_reducible refine Kd.C_drew ?_))); (case side2 => exact HC1.out); rintro e w9 ⟨rfl, hb⟩; refine ⟨_, rfl, ?_⟩; have n0_ := Aside0.mk (below_step (by repeat (first | (with_reducible first | exact HB.out | apply below_alloc | apply pw_below_drewN | apply below_drew1) | exact HB.out)) hb); clear HB; have HB := n0_; clear n0_; (try clear hb); (try clear hb2); (try clear hk); (try clear hi)))
      go_meet
      case rel => exact ⟨_, (true), (by first | rfl | (simp; done) | (simp [*]; done)), H', ⟨by first | omega | exact Nat.le_refl _⟩, ⟨by repeat (first | (with_reducible first | exact HB.out | apply below_alloc | apply pw_below_drewN | apply below_drew1) | exact HB.out)⟩⟩
  case rest =>
    clear HC4
    try clear c1
    try clear p2
    try clear c3
    try clear c4
    try clear c6
    obtain ⟨kq, x31_3, rfl, HA, HJ3, HB⟩ := hcut
    cases kq with
    | zero => exact absurd HA.out (by simp [spec_FindIn.j0])
    | succ kj3 =>
      have H := HA.out
      clear HA
      simp only [spec_FindIn.j0] at H
      by_cases c10 : x31_3 = true
      · subst c10
        have H1 : (some (([] : List Int), 0, false)) = some (r1, r2, r3) := by rw [if_pos rfl] at H; exact H
        clear H
        have H := H1
        clear H1
        simp only [Option.some.injEq, Prod.mk.injEq] at H
        obtain ⟨rfl, rfl, rfl⟩ := H
        go_wp2
        go_ret3
        exact ⟨_, by first | rfl | (simp [errW_none, errW_some] <;> rfl) | (simp [*, errW_none, errW_some] <;> rfl), by first | exact Kd.R_nil _ _ _ _ _ | exact Kd.N_nil _ _ _ _ _ | exact Kd.V_nil _ _ _ _ _ | exact Kd.Q_nil _ _ _ _ _ | exact Kd.S_nil _ _ _ _ _, by repeat (first | (with_reducible first | exact HB.out | apply below_alloc | apply pw_below_drewN | apply below_drew1) | exact HB.out)⟩
      · replace c10 := Bool.eq_false_iff.mpr c10
        subst c10
        have H1 : (spec_FindIn.l0 kj3 a0 l1 a2 0 0 (l1.length : Int)) = some (r1, r2, r3) := by rw [if_neg (show ¬ (false = true) by decide)] at H; exact H
        clear H
        have H := H1
        clear H1
        have H' := Aside0.mk H
        clear H
        go_wp2
        go_loopg [9, 10, 11] kj3 (fun kq v9 v10 v11 w' => ∃ (x9_2 : Int) (x10_2 : Int) (x11_2 : Int), v9 = .int .i64 x9_2 ∧ v10 = .int .i64 x10_2 ∧ v11 = .int .i64 x11_2 ∧ Aside0 (spec_FindIn.l0 kq a0 l1 a2 x9_2 x10_2 x11_2 = some (r1, r2, r3)) ∧ Aside0 (kq ≤ kj3) ∧ Aside0 (Below w.heap.size w w'))
        case atStart => exact ⟨(0), (0), ((l1.length : Int)), (by first | rfl | (simp; done) | (simp [*]; done)), (by first | rfl | (simp; done) | (simp [*]; done)), (by first | rfl | (simp; done) | (simp [*]; done)), H', ⟨Nat.le_refl _⟩, ⟨by repeat (first | (with_reducible first | exact HB.out | apply below_alloc | apply pw_below_drewN | apply below_drew1) | exact HB.out)⟩⟩
        case round =>
          clear H'
          try clear c1
          try clear p2
          try clear c3
          try clear c4
          try clear c6
          try clear c10
          try clear p2
          obtain ⟨x9_2, x10_2, x11_2, rfl, rfl, rfl, HA, HK2, HB⟩ := hrel
          cases gk with
          | zero => exact absurd HA.out (by simp [spec_FindIn.l0])
          | succ k2 =>
            have H := HA.out
            clear HA
            simp only [spec_FindIn.l0] at H
            by_cases c11 : x10_2 < x11_2
            · rw [if_pos c11] at H
              have c11b0 : decide (x10_2 < x11_2) = true := decide_eq_true c11
              clear c11
              obtain ⟨ji12, hji12⟩ : ∃ j_ : Int, (wrap64 (Int.tdiv (wrap64 (x10_2 + x11_2)) 2)) = j_ := ⟨_, rfl⟩
              replace H : (if 0 ≤ (ji12) then (if (ji12) < (l1.length : Int) then (if 0 ≤ (rd l1 (ji12)) then (if (rd l1 (ji12)) ≤ (a0.size : Int) then (if (Op.bytesLess ((a0.extract ((rd l1 (ji12)) : Int).toNat a0.size).toList) a2.toList) = true then (spec_FindIn.l0 k2 a0 l1 a2 (wrap64 (x9_2 + 1)) (wrap64 ((ji12) + 1)) x11_2) else (spec_FindIn.l0 k2 a0 l1 a2 (wrap64 (x9_2 + 1)) x10_2 ji12)) else (none)) else (none)) else (none)) else (none)) = some (r1, r2, r3) := by first | (rw [hji12] at H; exact H) | (simp only [hji12] at H ⊢; exact H)
              have hji12w : (IntKind.i64.wrap (Int.tdiv (wrap64 (x10_2 + x11_2)) 2)) = ji12 := (i64_w _).trans hji12
              by_cases c13 : 0 ≤ (ji12)
              · rw [if_pos c13] at H
                have c13b0 : decide (0 ≤ (ji12)) = true := decide_eq_true c13
                clear c13
                by_cases c14 : (ji12) < (l1.length : Int)
                · rw [if_pos c14] at H
                  have c14b0 : decide ((ji12) < (l1.length : Int)) = true := decide_eq_true c14
                  clear c14
                  by_cases c15 : 0 ≤ (rd l1 (ji12))
                  · rw [if_pos c15] at H
                    have c15b0 := eq_true c15
                    have c15b1 : decide (0 ≤ (rd l1 (ji12))) = true := decide_eq_true c15
                    clear c15
                    by_cases c16 : (rd l1 (ji12)) ≤ (a0.size : Int)
                    · rw [if_pos c16] at H
                      have c16b0 := eq_true c16
                      have c16b1 : decide ((rd l1 (ji12)) ≤ (a0.size : Int)) = true := decide_eq_true c16
                      clear c16
                      by_cases c17 : (Op.bytesLess ((a0.extract ((rd l1 (ji12)) : Int).toNat a0.size).toList) a2.toList) = true
                      · rw [if_pos c17] at H
                        have c17b0 : (Op.bytesLess ((a0.extract ((rd l1 (ji12)) : Int).toNat a0.size).toList) a2.toList) = true := c17
                        clear c17
                        have H' := Aside0.mk H
                        clear H
                        have p444 : 0 ≤ ((ji12) : Int) := of_decide_eq_true (by first | (with_reducible assumption) | assumption)
                        have q444 : (ji12) < (l1.length : Int) := of_decide_eq_true (by first | (with_reducible assumption) | assumption)
                        obtain ⟨ad444, e444, hx444_0⟩ := Kd.at_int HR1.out (ji12) p444 q444
                        cases e444
                        replace hx444_0 := (HB.out.cell (World.block_lt_of_cell? w _ hx444_0)).trans hx444_0
                        replace p444 := eq_true p444
                        replace q444 := eq_true q444
                        go_wp2
                        go_roundg k2
                        case measure => have := HJ3.out; have := HK2.out; omega
                        case rel => exact ⟨(wrap64 (x9_2 + 1)), (wrap64 ((ji12) + 1)), (x11_2), (by first | rfl | (simp; done) | (simp [*]; done)), (by first | rfl | (simp; done) | (simp only [← hji12] <;> (first | rfl | simp)) | (simp [*]; done)), (by first | rfl | (simp; done) | (simp [*]; done)), H', ⟨by have := HJ3.out; have := HK2.out; omega⟩, ⟨by repeat (first | (with_reducible first | exact HB.out | apply below_alloc | apply pw_below_drewN | apply below_drew1) | exact HB.out)⟩⟩
                      · rw [if_neg c17] at H
                        have c17b0 : (Op.bytesLess ((a0.extract ((rd l1 (ji12)) : Int).toNat a0.size).toList) a2.toList) = false := by simpa using c17
                        clear c17
                        have H' := Aside0.mk H
                        clear H
                        have p444 : 0 ≤ ((ji12) : Int) := of_decide_eq_true (by first | (with_reducible assumption) | assumption)
                        have q444 : (ji12) < (l1.length : Int) := of_decide_eq_true (by first | (with_reducible assumption) | assumption)
                        obtain ⟨ad444, e444, hx444_0⟩ := Kd.at_int HR1.out (ji12) p444 q444
                        cases e444
                        replace hx444_0 := (HB.out.cell (World.block_lt_of_cell? w _ hx444_0)).trans hx444_0
                        replace p444 := eq_true p444
                        replace q444 := eq_true q444
                        go_wp2
                        go_roundg k2
                        case measure => have := HJ3.out; have := HK2.out; omega
                        case rel => exact ⟨(wrap64 (x9_2 + 1)), (x10_2), (ji12), (by first | rfl | (simp; done) | (simp [*]; done)), (by first | rfl | (simp; done) | (simp [*]; done)), (by first | rfl | (simp; done) | (simp only [← hji12] <;> (first | rfl | simp)) | (simp [*]; done)), H', ⟨by have := HJ3.out; have := HK2.out; omega⟩, ⟨by repeat (first | (with_reducible first | exact HB.out | apply below_alloc | apply pw_below_drewN | apply below_drew1) | exact HB.out)⟩⟩
                    · rw [if_neg c16] at H
                      exact absurd H (by simp)
                  · rw [if_neg c15] at H
                    exact absurd H (by simp)
                · rw [if_neg c14] at H
                  exact absurd H (by simp)
              · rw [if_neg c13] at H
                exact absurd H (by simp)
            · rw [if_neg c11] at H
              have c11b0 : decide (x10_2 < x11_2) = false := decide_eq_false c11
              clear c11
              have H' := Aside0.mk H
              clear H
              go_wp2
              go_loopg [9, 10, 14] k2 (fun kq v9 v10 v14 w' => ∃ (x9_3 : Int) (x10_3 : Int) (x14_3 : Int), v9 = .int .i64 x9_3 ∧ v10 = .int .i64 x10_3 ∧ v14 = .int .i64 x14_3 ∧ Aside0 (spec_FindIn.l1 kq a0 l1 a2 x9_3 x10_3 x10_2 x14_3 = some (r1, r2, r3)) ∧ Aside0 (kq ≤ k2) ∧ Aside0 (Below w.heap.size w w'))
              case atStart => exact ⟨(x9_2), (x10_2), ((l1.length : Int)), (by first | rfl | (simp; done) | (simp [*]; done)), (by first | rfl | (simp; done) | (simp [*]; done)), (by first | rfl | (simp; done) | (simp [*]; done)), H', ⟨Nat.le_refl _⟩, ⟨by repeat (first | (with_reducible first | exact HB.out | apply below_alloc | apply pw_below_drewN | apply below_drew1) | exact HB.out)⟩⟩
              case round =>
                clear H'
                try clear c1
                try clear p2
                try clear c3
                try clear c4
                try clear p4
                try clear q4
                try clear hx4
                try clear c6
                try clear p6
                try clear c10
                try clear c11
                try clear c11b0
                try clear c13
                try clear c13b0
                try clear c14
                try clear c14b0
                try clear c15
                try clear c15b0
                try clear c15b1
                try clear c16
                try clear c16b0
                try clear c16b1
                try clear c17
                try clear c17b0
                try clear hx444_0
                try clear p2
                try clear p444
                try clear q444
                obtain ⟨x9_3, x10_3, x14_3, rfl, rfl, rfl, HA, HK3, HB⟩ := hrel
                cases gk with
                | zero => exact absurd HA.out (by simp [spec_FindIn.l1])
                | succ k3 =>
                  have H := HA.out
                  clear HA
                  simp only [spec_FindIn.l1] at H
                  by_cases c18 : x10_3 < x14_3
                  · rw [if_pos c18] at H
                    have c18b0 : decide (x10_3 < x14_3) = true := decide_eq_true c18
                    clear c18
                    obtain ⟨ji19, hji19⟩ : ∃ j_ : Int, (wrap64 (Int.tdiv (wrap64 (x10_3 + x14_3)) 2)) = j_ := ⟨_, rfl⟩
                    replace H : (if 0 ≤ (ji19) then (if (ji19) < (l1.length : Int) then (if 0 ≤ (rd l1 (ji19)) then (if (rd l1 (ji19)) ≤ (a0.size : Int) then (if ((a0.extract ((rd l1 (ji19)) : Int).toNat a0.size).size : Int) > (a2.size : Int) then (if 0 ≤ (a2.size : Int) then (if (a2.size : Int) ≤ ((a0.extract ((rd l1 (ji19)) : Int).toNat a0.size).size : Int) then (if ((Op.bytesLess a2.toList (((a0.extract ((rd l1 (ji19)) : Int).toNat a0.size).extract 0 a2.size).toList)) = true) then (spec_FindIn.l1 k3 a0 l1 a2 (wrap64 (x9_3 + 1)) x10_3 x10_2 ji19) else (spec_FindIn.l1 k3 a0 l1 a2 (wrap64 (x9_3 + 1)) (wrap64 ((ji19) + 1)) x10_2 x14_3)) else (none)) else (none)) else (if ((Op.bytesLess a2.toList ((a0.extract ((rd l1 (ji19)) : Int).toNat a0.size).toList)) = true) then (spec_FindIn.l1 k3 a0 l1 a2 (wrap64 (x9_3 + 1)) x10_3 x10_2 ji19) else (spec_FindIn.l1 k3 a0 l1 a2 (wrap64 (x9_3 + 1)) (wrap64 ((ji19) + 1)) x10_2 x14_3))) else (none)) else (none)) else (none)) else (none)) = some (r1, r2, r3) := by first | (rw [hji19] at H; exact H) | (simp only [hji19] at H ⊢; exact H)
                    have hji19w : (IntKind.i64.wrap (Int.tdiv (wrap64 (x10_3 + x14_3)) 2)) = ji19 := (i64_w _).trans hji19
                    by_cases c20 : 0 ≤ (ji19)
                    · rw [if_pos c20] at H
                      have c20b0 : decide (0 ≤ (ji19)) = true := decide_eq_true c20
                      clear c20
                      by_cases c21 : (ji19) < (l1.length : Int)
                      · rw [if_pos c21] at H
                        have c21b0 : decide ((ji19) < (l1.length : Int)) = true := decide_eq_true c21
                        clear c21
                        by_cases c22 : 0 ≤ (rd l1 (ji19))
                        · rw [if_pos c22] at H
                          have c22b0 := eq_true c22
                          have c22b1 : decide (0 ≤ (rd l1 (ji19))) = true := decide_eq_true c22
                          clear c22
                          by_cases c23 : (rd l1 (ji19)) ≤ (a0.size : Int)
                          · rw [if_pos c23] at H
                            have c23b0 := eq_true c23
                            have c23b1 : decide ((rd l1 (ji19)) ≤ (a0.size : Int)) = true := decide_eq_true c23
                            clear c23
                            by_cases c24 : ((a0.extract ((rd l1 (ji19)) : Int).toNat a0.size).size : Int) > (a2.size : Int)
                            · rw [if_pos c24] at H
                              have c24b0 : decide ((a2.size : Int) < ((a0.extract ((rd l1 (ji19)) : Int).toNat a0.size).size : Int)) = true := decide_eq_true c24
                              try have c24b0n := c24b0
                              try simp only [ByteArray.size_extract, Nat.min_self] at c24b0n
                              try have c24b0p := of_decide_eq_true c24b0n
                              try have c24b0q := Nat.le_of_lt c24b0p
                              have c24b1 : decide (a2.size < (a0.extract ((rd l1 (ji19)) : Int).toNat a0.size).size) = true := decide_eq_true (Int.ofNat_lt.mp c24)
                              try have c24b1n := c24b1
                              try simp only [ByteArray.size_extract, Nat.min_self] at c24b1n
                              try have c24b1p := of_decide_eq_true c24b1n
                              try have c24b1q := Nat.le_of_lt c24b1p
                              clear c24
                              by_cases c25 : 0 ≤ (a2.size : Int)
                              · rw [if_pos c25] at H
                                have c25b0 := eq_true c25
                                have c25b1 : decide (0 ≤ (a2.size : Int)) = true := decide_eq_true c25
                                clear c25
                                by_cases c26 : (a2.size : Int) ≤ ((a0.extract ((rd l1 (ji19)) : Int).toNat a0.size).size : Int)
                                · rw [if_pos c26] at H
                                  have c26b0 := eq_true c26
                                  have c26b1 : decide ((a2.size : Int) ≤ ((a0.extract ((rd l1 (ji19)) : Int).toNat a0.size).size : Int)) = true := decide_eq_true c26
                                  try have c26b1n := c26b1
                                  try simp only [ByteArray.size_extract, Nat.min_self] at c26b1n
                                  try have c26b1p := of_decide_eq_true c26b1n
                                  try have c26b1q := Nat.le_of_lt c26b1p
                                  clear c26
                                  by_cases c27 : ((Op.bytesLess a2.toList (((a0.extract ((rd l1 (ji19)) : Int).toNat a0.size).extract 0 a2.size).toList)) = true)
                                  · rw [if_pos c27] at H
                                    have c27b0 : (Op.bytesLess a2.toList (((a0.extract ((rd l1 (ji19)) : Int).toNat a0.size).extract 0 a2.size).toList)) = true := c27
                                    clear c27
                                    have H' := Aside0.mk H
                                    clear H
                                    have p445 : 0 ≤ ((ji19) : Int) := of_decide_eq_true (by first | (with_reducible assumption) | assumption)
                                    have q445 : (ji19) < (l1.length : Int) := of_decide_eq_true (by first | (with_reducible assumption) | assumption)
                                    obtain ⟨ad445, e445, hx445_0⟩ := Kd.at_int HR1.out (ji19) p445 q445
                                    cases e445
                                    replace hx445_0 := (HB.out.cell (World.block_lt_of_cell? w _ hx445_0)).trans hx445_0
                                    replace p445 := eq_true p445
                                    replace q445 := eq_true q445
                                    go_wp2
                                    go_roundg k3
                                    case measure => have := HJ3.out; have := HK2.out; have := HK3.out; omega
                                    case rel => exact ⟨(wrap64 (x9_3 + 1)), (x10_3), (ji19), (by first | rfl | (simp; done) | (simp [*]; done)), (by first | rfl | (simp; done) | (simp [*]; done)), (by first | rfl | (simp; done) | (simp only [← hji19] <;> (first | rfl | simp)) | (simp [*]; done)), H', ⟨by have := HJ3.out; have := HK2.out; have := HK3.out; omega⟩, ⟨by repeat (first | (with_reducible first | exact HB.out | apply below_alloc | apply pw_below_drewN | apply below_drew1) | exact HB.out)⟩⟩
                                  · rw [if_neg c27] at H
                                    have c27b0 : (Op.bytesLess a2.toList (((a0.extract ((rd l1 (ji19)) : Int).toNat a0.size).extract 0 a2.size).toList)) = false := by simpa using c27
                                    clear c27
                                    have H' := Aside0.mk H
                                    clear H
                                    have p445 : 0 ≤ ((ji19) : Int) := of_decide_eq_true (by first | (with_reducible assumption) | assumption)
                                    have q445 : (ji19) < (l1.length : Int) := of_decide_eq_true (by first | (with_reducible assumption) | assumption)
                                    obtain ⟨ad445, e445, hx445_0⟩ := Kd.at_int HR1.out (ji19) p445 q445
                                    cases e445
                                    replace hx445_0 := (HB.out.cell (World.block_lt_of_cell? w _ hx445_0)).trans hx445_0
                                    replace p445 := eq_true p445
                                    replace q445 := eq_true q445
                                    go_wp2
                                    go_roundg k3
                                    case measure => have := HJ3.out; have := HK2.out; have := HK3.out; omega
                                    case rel => exact ⟨(wrap64 (x9_3 + 1)), (wrap64 ((ji19) + 1)), (x14_3), (by first | rfl | (simp; done) | (simp [*]; done)), (by first | rfl | (simp; done) | (simp only [← hji19] <;> (first | rfl | simp)) | (simp [*]; done)), (by first | rfl | (simp; done) | (simp [*]; done)), H', ⟨by have := HJ3.out; have := HK2.out; have := HK3.out; omega⟩, ⟨by repeat (first | (with_reducible first | exact HB.out | apply below_alloc | apply pw_below_drewN | apply below_drew1) | exact HB.out)⟩⟩
                                · rw [if_neg c26] at H
                                  exact absurd H (by simp)
                              · rw [if_neg c25] at H
                                exact absurd H (by simp)
                            · rw [if_neg c24] at H
                              have c24b0 : decide ((a2.size : Int) < ((a0.extract ((rd l1 (ji19)) : Int).toNat a0.size).size : Int)) = false := decide_eq_false c24
                              try have c24b0n := c24b0
                              try simp only [ByteArray.size_extract, Nat.min_self] at c24b0n
                              try have c24b0p := of_decide_eq_true c24b0n
                              try have c24b0q := Nat.le_of_lt c24b0p
                              have c24b1 : decide (a2.size < (a0.extract ((rd l1 (ji19)) : Int).toNat a0.size).size) = false := decide_eq_false (fun h => c24 (Int.ofNat_lt.mpr h))
                              try have c24b1n := c24b1
                              try simp only [ByteArray.size_extract, Nat.min_self] at c24b1n
                              try have c24b1p := of_decide_eq_true c24b1n
                              try have c24b1q := Nat.le_of_lt c24b1p
                              clear c24
                              by_cases c28 : ((Op.bytesLess a2.toList ((a0.extract ((rd l1 (ji19)) : Int).toNat a0.size).toList)) = true)
                              · rw [if_pos c28] at H
                                have c28b0 : (Op.bytesLess a2.toList ((a0.extract ((rd l1 (ji19)) : Int).toNat a0.size).toList)) = true := c28
                                clear c28
                                have H' := Aside0.mk H
                                clear H
                                have p445 : 0 ≤ ((ji19) : Int) := of_decide_eq_true (by first | (with_reducible assumption) | assumption)
                                have q445 : (ji19) < (l1.length : Int) := of_decide_eq_true (by first | (with_reducible assumption) | assumption)
                                obtain ⟨ad445, e445, hx445_0⟩ := Kd.at_int HR1.out (ji19) p445 q445
                                cases e445
                                replace hx445_0 := (HB.out.cell (World.block_lt_of_cell? w _ hx445_0)).trans hx445_0
                                replace p445 := eq_true p445
                                replace q445 := eq_true q445
                                go_wp2
                                go_roundg k3
                                case measure => have := HJ3.out; have := HK2.out; have := HK3.out; omega
                                case rel => exact ⟨(wrap64 (x9_3 + 1)), (x10_3), (ji19), (by first | rfl | (simp; done) | (simp [*]; done)), (by first | rfl | (simp; done) | (simp [*]; done)), (by first | rfl | (simp; done) | (simp only [← hji19] <;> (first | rfl | simp)) | (simp [*]; done)), H', ⟨by have := HJ3.out; have := HK2.out; have := HK3.out; omega⟩, ⟨by repeat (first | (with_reducible first | exact HB.out | apply below_alloc | apply pw_below_drewN | apply below_drew1) | exact HB.out)⟩⟩
                              · rw [if_neg c28] at H
                                have c28b0 : (Op.bytesLess a2.toList ((a0.extract ((rd l1 (ji19)) : Int).toNat a0.size).toList)) = false := by simpa using c28
                                clear c28
                                have H' := Aside0.mk H
                                clear H
                                have p445 : 0 ≤ ((ji19) : Int) := of_decide_eq_true (by first | (with_reducible assumption) | assumption)
                                have q445 : (ji19) < (l1.length : Int) := of_decide_eq_true (by first | (with_reducible assumption) | assumption)
                                obtain ⟨ad445, e445, hx445_0⟩ := Kd.at_int HR1.out (ji19) p445 q445
                                cases e445
                                replace hx445_0 := (HB.out.cell (World.block_lt_of_cell? w _ hx445_0)).trans hx445_0
                                replace p445 := eq_true p445
                                replace q445 := eq_true q445
                                go_wp2
                                go_roundg k3
                                case measure => have := HJ3.out; have := HK2.out; have := HK3.out; omega
                                case rel => exact ⟨(wrap64 (x9_3 + 1)), (wrap64 ((ji19) + 1)), (x14_3), (by first | rfl | (simp; done) | (simp [*]; done)), (by first | rfl | (simp; done) | (simp only [← hji19] <;> (first | rfl | simp)) | (simp [*]; done)), (by first | rfl | (simp; done) | (simp [*]; done)), H', ⟨by have := HJ3.out; have := HK2.out; have := HK3.out; omega⟩, ⟨by repeat (first | (with_reducible first | exact HB.out | apply below_alloc | apply pw_below_drewN | apply below_drew1) | exact HB.out)⟩⟩
                          · rw [if_neg c23] at H
                            exact absurd H (by simp)
                        · rw [if_neg c22] at H
                          exact absurd H (by simp)
                      · rw [if_neg c21] at H
                        exact absurd H (by simp)
                    · rw [if_neg c20] at H
                      exact absurd H (by simp)
                  · rw [if_neg c18] at H
                    have c18b0 : decide (x10_3 < x14_3) = false := decide_eq_false c18
                    clear c18
                    by_cases c29 : 0 ≤ x10_2
                    · rw [if_pos c29] at H
                      have c29b0 := eq_true c29
                      have c29b1 : decide (0 ≤ x10_2) = true := decide_eq_true c29
                      clear c29
                      by_cases c30 : x10_2 ≤ x10_3
                      · rw [if_pos c30] at H
                        have c30b0 := eq_true c30
                        have c30b1 : decide (x10_2 ≤ x10_3) = true := decide_eq_true c30
                        clear c30
                        by_cases c31 : x10_3 ≤ (l1.length : Int)
                        · rw [if_pos c31] at H
                          have c31b0 := eq_true c31
                          have c31b1 : decide (x10_3 ≤ (l1.length : Int)) = true := decide_eq_true c31
                          clear c31
                          have H' := Aside0.mk H
                          clear H
                          obtain ⟨i032, hi032, _, hsz32, _⟩ := info_parts info3
                          obtain ⟨A32, hcut32, hA32, hC32⟩ := print_mid_of (P := Try.prog) (Value.int .i64) 0 22 3 .i64 .i64 Try.underlying22 hi032 hsz32 A1 c1 l1 x10_2 x10_3 (of_decide_eq_true (by first | (with_reducible assumption) | assumption)) (by first | omega | exact of_decide_eq_true (by first | (with_reducible assumption) | assumption)) (of_decide_eq_true (by first | (with_reducible assumption) | assumption)) HC1.out
                          have HR446 := Aside0.mk (Kd.C_of_reads (h1 := fun _ => rfl) (hA32 _ (Kd.reads_of_C HR1.out)))
                          have HC446 := Aside0.mk hC32
                          clear hA32 hC32 hi032 hsz32
                          generalize hseg_ : ((l1.take (x10_3 : Int).toNat).drop (x10_2 : Int).toNat) = seg at HR446 HC446 H' hcut32
                          clear hseg_
                          go_wp2
                          go_loopg [17, 92] k3 (fun kq v17 v92 w' => ∃ (x17_4 : List Int) (x92_4 : Int), v92 = .int .i64 x92_4 ∧ Aside0 (spec_FindIn.l2 kq x9_3 x17_4 seg (seg.length : Int) x92_4 = some (r1, r2, r3)) ∧ Aside0 (kq ≤ k3) ∧ Aside0 (Kd.R (Kd.int .i64) 3 w' w.heap.size (fun _ => True) v17 x17_4) ∧ Aside0 (Below w.heap.size w w'))
                          case atStart => exact ⟨(([] : List Int)), (0), (by first | rfl | (simp; done) | (simp [*]; done)), H', ⟨Nat.le_refl _⟩, ⟨by first | exact Kd.R_nil _ _ _ _ _ | exact Kd.N_nil _ _ _ _ _ | exact Kd.V_nil _ _ _ _ _ | exact Kd.Q_nil _ _ _ _ _ | exact Kd.S_nil _ _ _ _ _⟩, ⟨by repeat (first | (with_reducible first | exact HB.out | apply below_alloc | apply pw_below_drewN | apply below_drew1) | exact HB.out)⟩⟩
                          case round =>
                            clear H'
                            try clear c1
                            try clear c2
                            try clear p2
                            try clear c3
                            try clear c4
                            try clear p4
                            try clear q4
                            try clear hx4
                            try clear c6
                            try clear p6
                            try clear c10
                            try clear c11
                            try clear c11b0
                            try clear c13
                            try clear c13b0
                            try clear c14
                            try clear c14b0
                            try clear c15
                            try clear c15b0
                            try clear c15b1
                            try clear c16
                            try clear c16b0
                            try clear c16b1
                            try clear c17
                            try clear c17b0
                            try clear c18
                            try clear c18b0
                            try clear c20
                            try clear c20b0
                            try clear c21
                            try clear c21b0
                            try clear c22
                            try clear c22b0
                            try clear c22b1
                            try clear c23
                            try clear c23b0
                            try clear c23b1
                            try clear c24
                            try clear c24b0
                            try clear c24b1
                            try clear c25
                            try clear c25b0
                            try clear c25b1
                            try clear c26
                            try clear c26b0
                            try clear c26b1
                            try clear c27
                            try clear c27b0
                            try clear c28
                            try clear c28b0
                            try clear c29
                            try clear c29b0
                            try clear c29b1
                            try clear c30
                            try clear c30b0
                            try clear c30b1
                            try clear c31
                            try clear c31b0
                            try clear c31b1
                            try clear hx444_0
                            try clear hx445_0
                            try clear p2
                            try clear p4
                            try clear p444
                            try clear p445
                            try clear p6
                            try clear q4
                            try clear q444
                            try clear q445
                            obtain ⟨x17_4, x92_4, rfl, HA, HK4, HO_17, HB⟩ := hrel
                            cases gk with
                            | zero => exact absurd HA.out (by simp [spec_FindIn.l2])
                            | succ k4 =>
                              have H := HA.out
                              clear HA
                              simp only [spec_FindIn.l2] at H
                              by_cases c33 : x92_4 < (seg.length : Int)
                              · rw [if_pos c33] at H
                                have c33b0 : decide (x92_4 < (seg.length : Int)) = true := decide_eq_true c33
                                clear c33
                                by_cases c34 : 0 ≤ x92_4
                                · rw [if_pos c34] at H
                                  have c34b0 : decide (0 ≤ x92_4) = true := decide_eq_true c34
                                  clear c34
                                  by_cases c35 : x92_4 < (seg.length : Int)
                                  · rw [if_pos c35] at H
                                    have c35b0 : decide (x92_4 < (seg.length : Int)) = true := decide_eq_true c35
                                    clear c35
                                    have H' := Aside0.mk H
                                    clear H
                                    have p447 : 0 ≤ (x92_4 : Int) := of_decide_eq_true (by first | (with_reducible assumption) | assumption)
                                    have q447 : x92_4 < (seg.length : Int) := of_decide_eq_true (by first | (with_reducible assumption) | assumption)
                                    obtain ⟨ad447, e447, hx447_0⟩ := Kd.at_int HR446.out x92_4 p447 q447
                                    cases e447
                                    replace hx447_0 := (HB.out.cell (World.block_lt_of_cell? w _ hx447_0)).trans hx447_0
                                    replace p447 := eq_true p447
                                    replace q447 := eq_true q447
                                    go_wp2
                                    go_loopg [20] k4 (fun kq v20 w' => ∃ (x20_5 : Int), v20 = .int .i64 x20_5 ∧ Aside0 (spec_FindIn.l3 kq x9_3 x17_4 (rd seg x92_4) x20_5 seg (seg.length : Int) x92_4 = some (r1, r2, r3)) ∧ Aside0 (kq ≤ k4) ∧ Aside0 (Kd.R (Kd.int .i64) 3 w' w.heap.size (fun _ => True) u17 x17_4) ∧ Aside0 (Below w.heap.size w w'))
                                    case atStart => exact ⟨(0), (by first | rfl | (simp; done) | (simp [*]; done)), H', ⟨Nat.le_refl _⟩, ⟨by (with_reducible repeat (first | apply Kd.R_alloc | apply Kd.R_drewN | apply Kd.R_drew)); exact HO_17.out⟩, ⟨by repeat (first | (with_reducible first | exact HB.out | apply below_alloc | apply pw_below_drewN | apply below_drew1) | exact HB.out)⟩⟩
                                    case round =>
                                      clear H'
                                      try clear c1
                                      try clear c2
                                      try clear p2
                                      try clear c3
                                      try clear c4
                                      try clear p4
                                      try clear q4
                                      try clear hx4
                                      try clear c6
                                      try clear p6
                                      try clear c10
                                      try clear c11
                                      try clear c11b0
                                      try clear c13
                                      try clear c13b0
                                      try clear c14
                                      try clear c14b0
                                      try clear c15
                                      try clear c15b0
                                      try clear c15b1
                                      try clear c16
                                      try clear c16b0
                                      try clear c16b1
                                      try clear c17
                                      try clear c17b0
                                      try clear c18
                                      try clear c18b0
                                      try clear c20
                                      try clear c20b0
                                      try clear c21
                                      try clear c21b0
                                      try clear c22
                                      try clear c22b0
                                      try clear c22b1
                                      try clear c23
                                      try clear c23b0
                                      try clear c23b1
                                      try clear c24
                                      try clear c24b0
                                      try clear c24b1
                                      try clear c25
                                      try clear c25b0
                                      try clear c25b1
                                      try clear c26
                                      try clear c26b0
                                      try clear c26b1
                                      try clear c27
                                      try clear c27b0
                                      try clear c28
                                      try clear c28b0
                                      try clear c29
                                      try clear c29b0
                                      try clear c29b1
                                      try clear c30
                                      try clear c30b0
                                      try clear c30b1
                                      try clear c31
                                      try clear c31b0
                                      try clear c31b1
                                      try clear c33
                                      try clear c33b0
                                      try clear c34
                                      try clear c34b0
                                      try clear c35
                                      try clear c35b0
                                      try clear hx444_0
                                      try clear hx445_0
                                      try clear hx447_0
                                      try clear p2
                                      try clear p4
                                      try clear p444
                                      try clear p445
                                      try clear p447
                                      try clear p6
                                      try clear q4
                                      try clear q444
                                      try clear q445
                                      try clear q447
                                      obtain ⟨x20_5, rfl, HA, HK5, HO_17, HB⟩ := hrel
                                      cases gk with
                                      | zero => exact absurd HA.out (by simp [spec_FindIn.l3])
                                      | succ k5 =>
                                        have H := HA.out
                                        clear HA
                                        simp only [spec_FindIn.l3] at H
                                        by_cases c36 : x20_5 < (x17_4.length : Int)
                                        · rw [if_pos c36] at H
                                          have c36b0 : decide (x20_5 < (x17_4.length : Int)) = true := decide_eq_true c36
                                          clear c36
                                          by_cases c37 : 0 ≤ x20_5
                                          · rw [if_pos c37] at H
                                            have c37b0 : decide (0 ≤ x20_5) = true := decide_eq_true c37
                                            clear c37
                                            by_cases c38 : (rd x17_4 x20_5) < (rd seg x92_4)
                                            · rw [if_pos c38] at H
                                              have c38b0 : decide ((rd x17_4 x20_5) < (rd seg x92_4)) = true := decide_eq_true c38
                                              clear c38
                                              have H' := Aside0.mk H
                                              clear H
                                              obtain ⟨Ao39, co39, eo39⟩ := Kd.R_slice HO_17.out
                                              subst eo39
                                              have p448 : 0 ≤ (x20_5 : Int) := of_decide_eq_true (by first | (with_reducible assumption) | assumption)
                                              have q448 : x20_5 < (x17_4.length : Int) := of_decide_eq_true (by first | (with_reducible assumption) | assumption)
                                              obtain ⟨ad448, e448, hx448_0⟩ := Kd.at_int (Kd.R_reads' HO_17.out).2.2 x20_5 p448 q448
                                              cases e448
                                              replace p448 := eq_true p448
                                              replace q448 := eq_true q448
                                              go_wp2
                                              go_roundg k5
                                              case measure => have := HJ3.out; have := HK2.out; have := HK3.out; have := HK4.out; have := HK5.out; omega
                                              case rel => exact ⟨(wrap64 (x20_5 + 1)), (by first | rfl | (simp; done) | (simp [*]; done)), H', ⟨by have := HJ3.out; have := HK2.out; have := HK3.out; have := HK4.out; have := HK5.out; omega⟩, ⟨by (with_reducible repeat (first | apply Kd.R_alloc | apply Kd.R_drewN | apply Kd.R_drew)); exact HO_17.out⟩, ⟨by repeat (first | (with_reducible first | exact HB.out | apply below_alloc | apply pw_below_drewN | apply below_drew1) | exact HB.out)⟩⟩
                                            · rw [if_neg c38] at H
                                              have c38b0 : decide ((rd x17_4 x20_5) < (rd seg x92_4)) = false := decide_eq_false c38
                                              clear c38
                                              have c40b0 := eq_true (of_decide_eq_true (by first | (with_reducible assumption) | assumption) : 0 ≤ x20_5)
                                              by_cases c41 : x20_5 ≤ (x17_4.length : Int)
                                              · rw [if_pos c41] at H
                                                have c41b0 := eq_true c41
                                                have c41b1 : decide (x20_5 ≤ (x17_4.length : Int)) = true := decide_eq_true c41
                                                clear c41
                                                obtain ⟨y449, hy449⟩ : ∃ y_ : List Int, y_ = (x17_4.take (x20_5 : Int).toNat) := ⟨_, rfl⟩
                                                replace H : (if ([] : List Int).length + y449.length < 17592186044416 then ((some (([] : List Int) ++ y449 : List Int)).bind fun y453 => (if y453.length < 17592186044416 then ((some (y453 ++ [(rd seg x92_4)] : List Int)).bind fun y456 => ((some (x17_4.drop (x20_5 : Int).toNat : List Int)).bind fun y459 => (if y456.length + y459.length < 17592186044416 then (spec_FindIn.l2 k5 x9_3 (y456 ++ y459) seg (seg.length : Int) (wrap64 (x92_4 + 1))) else (none)))) else (none))) else (none)) = some (r1, r2, r3) := by first | (rw [hy449]; with_reducible exact H) | (have H2_ := (Option.bind_some _ _).symm.trans H; rw [hy449]; with_reducible exact H2_) | (have H2_ := (Option.bind_some _ _).symm.trans H; with_reducible exact H2_) | with_reducible exact H | (rw [hy449]; exact H) | exact H
                                                have Ny449 := Aside0.mk hy449
                                                clear hy449
                                                by_cases c42 : ([] : List Int).length + y449.length < 17592186044416
                                                · rw [if_pos c42] at H
                                                  have LMc42 := Aside0.mk c42
                                                  clear c42
                                                  obtain ⟨y453, hy453⟩ : ∃ y_ : List Int, y_ = (([] : List Int) ++ y449) := ⟨_, rfl⟩
                                                  replace H : (if y453.length < 17592186044416 then ((some (y453 ++ [(rd seg x92_4)] : List Int)).bind fun y456 => ((some (x17_4.drop (x20_5 : Int).toNat : List Int)).bind fun y459 => (if y456.length + y459.length < 17592186044416 then (spec_FindIn.l2 k5 x9_3 (y456 ++ y459) seg (seg.length : Int) (wrap64 (x92_4 + 1))) else (none)))) else (none)) = some (r1, r2, r3) := by first | (rw [hy453]; with_reducible exact H) | (have H2_ := (Option.bind_some _ _).symm.trans H; rw [hy453]; with_reducible exact H2_) | (have H2_ := (Option.bind_some _ _).symm.trans H; with_reducible exact H2_) | with_reducible exact H | (rw [hy453]; exact H) | exact H
                                                  have Ny453 := Aside0.mk hy453
                                                  clear hy453
                                                  by_cases c43 : y453.length < 17592186044416
                                                  · rw [if_pos c43] at H
                                                    have LMc43 := Aside0.mk c43
                                                    clear c43
                                                    obtain ⟨y456, hy456⟩ : ∃ y_ : List Int, y_ = (y453 ++ [(rd seg x92_4)]) := ⟨_, rfl⟩
                                                    replace H : ((some (x17_4.drop (x20_5 : Int).toNat : List Int)).bind fun y459 => (if y456.length + y459.length < 17592186044416 then (spec_FindIn.l2 k5 x9_3 (y456 ++ y459) seg (seg.length : Int) (wrap64 (x92_4 + 1))) else (none))) = some (r1, r2, r3) := by first | (rw [hy456]; with_reducible exact H) | (have H2_ := (Option.bind_some _ _).symm.trans H; rw [hy456]; with_reducible exact H2_) | (have H2_ := (Option.bind_some _ _).symm.trans H; with_reducible exact H2_) | with_reducible exact H | (rw [hy456]; exact H) | exact H
                                                    have Ny456 := Aside0.mk hy456
                                                    clear hy456
                                                    have c44b0 := eq_true (of_decide_eq_true (by first | (with_reducible assumption) | assumption) : 0 ≤ x20_5)
                                                    have c45b0 := eq_true (of_decide_eq_true (by first | (with_reducible assumption) | assumption) : x20_5 ≤ (x17_4.length : Int))
                                                    obtain ⟨y459, hy459⟩ : ∃ y_ : List Int, y_ = (x17_4.drop (x20_5 : Int).toNat) := ⟨_, rfl⟩
                                                    replace H : (if y456.length + y459.length < 17592186044416 then (spec_FindIn.l2 k5 x9_3 (y456 ++ y459) seg (seg.length : Int) (wrap64 (x92_4 + 1))) else (none)) = some (r1, r2, r3) := by first | (rw [hy459]; with_reducible exact H) | (have H2_ := (Option.bind_some _ _).symm.trans H; rw [hy459]; with_reducible exact H2_) | (have H2_ := (Option.bind_some _ _).symm.trans H; with_reducible exact H2_) | with_reducible exact H | (rw [hy459]; exact H) | exact H
                                                    have Ny459 := Aside0.mk hy459
                                                    clear hy459
                                                    by_cases c46 : y456.length + y459.length < 17592186044416
                                                    · rw [if_pos c46] at H
                                                      have LMc46 := Aside0.mk c46
                                                      clear c46
                                                      obtain ⟨y463, hy463⟩ : ∃ y_ : List Int, y_ = (y456 ++ y459) := ⟨_, rfl⟩
                                                      replace H : (spec_FindIn.l2 k5 x9_3 y463 seg (seg.length : Int) (wrap64 (x92_4 + 1))) = some (r1, r2, r3) := by first | (rw [hy463]; with_reducible exact H) | (have H2_ := (Option.bind_some _ _).symm.trans H; rw [hy463]; with_reducible exact H2_) | (have H2_ := (Option.bind_some _ _).symm.trans H; with_reducible exact H2_) | with_reducible exact H | (rw [hy463]; exact H) | exact H
                                                      have Ny463 := Aside0.mk hy463
                                                      clear hy463
                                                      have H' := Aside0.mk H
                                                      clear H
                                                      obtain ⟨Ao47, co47, eo47⟩ := Kd.R_slice HO_17.out
                                                      subst eo47
                                                      have p448 : 0 ≤ (x20_5 : Int) := of_decide_eq_true (by first | (with_reducible assumption) | assumption)
                                                      have q448 : x20_5 < (x17_4.length : Int) := of_decide_eq_true (by first | (with_reducible assumption) | assumption)
                                                      obtain ⟨ad448, e448, hx448_0⟩ := Kd.at_int (Kd.R_reads' HO_17.out).2.2 x20_5 p448 q448
                                                      cases e448
                                                      replace p448 := eq_true p448
                                                      replace q448 := eq_true q448
                                                      have q48 : (x20_5 : Int) ≤ ((x17_4.length : Int) : Int) := of_decide_eq_true (by first | (with_reducible assumption) | assumption)
                                                      obtain ⟨i048, hi048, _, hsz48, _⟩ := info_parts info3
                                                      have hroom48 : x17_4.length ≤ co47 := (Kd.R_reads' HO_17.out).2.1
                                                      have hC48 : Kd.C (Kd.int .i64) _ (some ad448) x17_4.length x17_4 := (Kd.R_reads' HO_17.out).2.2
                                                      have hcut48 := cut_to (P := Try.prog) 22 3 .i64 Try.underlying22 hi048 (some ad448) x17_4.length co47 x20_5 (of_decide_eq_true (by first | (with_reducible assumption) | assumption)) q48 hroom48
                                                      have hr48 := Kd.C_take (m := (x20_5 : Int).toNat) hC48 (by omega)
                                                      have hy48 : y449.length = (x20_5 : Int).toNat := (by rw [Ny449.out, List.length_take]; omega)
                                                      rw [← Ny449.out] at hr48
                                                      rw [← hy48] at hcut48
                                                      have HR452 := Aside0.mk hr48
                                                      have HC452 := Aside0.mk (show y449.length ≤ co47 from by omega)
                                                      clear hr48 hC48 hroom48 hi048 hsz48
                                                      have KY48 := Aside0.mk hy48
                                                      clear hy48
                                                      have KL48 := Aside0.mk (show (x20_5 : Int).toNat ≤ x17_4.length from by omega)
                                                      replace q48 := eq_true q48
                                                      go_wp2_with (first | ((with_reducible refine gate_builtin (b := .append) (xs := #[.tmp 110, .tmp 113]) rfl ?_); (try (refine gate_guard (by rfl) ?_; dsimp only)); at_builtin; refine Kd.R_append_rows (Kd.int .i64) (w0 := w) w.heap.size rfl (.tmp 110) (.tmp 113) 22 3 (.int .i64 0) 8 rfl Try.underlying22 info3 rfl (by decide) (by omega) (.slice none 0 0) ([] : List Int) y449 _ _ _ (fun k_ => some k_ ≠ (.slice (some ad448) x17_4.length co47 : Value).ownBlock) (fun _ => False) rfl rfl ?aO ?aR (fun _ _ h => h) (fun _ h => h.elim) ?aF ?aB ?aS ?aL ?_; (case aR => repeat (first | exact (by repeat (first | (with_reducible exact HR452.out) | (with_reducible refine Kd.C_alloc ?_ _) | (with_reducible refine Kd.C_drewN ?_ _) | (with_reducible refine Kd.C_drew ?_) | exact HR452.out)) | (with_reducible refine Kd.C_alloc ?_ _) | (with_reducible refine Kd.C_drewN ?_ _) | (with_reducible refine Kd.C_drew ?_))); (case aB => exact (by repeat (first | (with_reducible first | exact HB.out | apply below_alloc | apply pw_below_drewN | apply below_drew1) | exact HB.out))); (case aF => exact (fun k_ hk => Kd.fresh' (Kd.R_lt (by (with_reducible repeat (first | apply Kd.R_alloc | apply Kd.R_drewN | apply Kd.R_drew)); exact HO_17.out)) k_ hk)); (case aO => exact ((Kd.R_nil _ _ _ _ (fun k_ => some k_ ≠ (.slice (some ad448) x17_4.length co47 : Value).ownBlock)))); (case aS => exact (below_size (by repeat (first | (with_reducible first | exact HB.out | apply below_alloc | apply pw_below_drewN | apply below_drew1) | exact HB.out)))); (case aL => have := LMc42.out; omega); intro v454 w49 ho hb hg hat; rw [← Ny453.out] at ho; have n0_ := Aside0.mk (Kd.R_after (Kd.R_apart_nil (by (with_reducible repeat (first | apply Kd.R_alloc | apply Kd.R_drewN | apply Kd.R_drew)); exact HO_17.out)) hg hat); have n1_ := Aside0.mk (hb); have n2_ := Aside0.mk ((show Kd.C (Kd.int .i64) w49 (some ad448) y449.length y449 from by rw [Ny449.out]; exact Kd.C_take (m := (x20_5 : Int).toNat) ((Kd.R_reads' (Kd.R_after (Kd.R_apart_nil (by (with_reducible repeat (first | apply Kd.R_alloc | apply Kd.R_drewN | apply Kd.R_drew)); exact HO_17.out)) hg hat)).2.2) KL48.out)); have n3_ := Aside0.mk (ho); clear HO_17; clear HB; clear HR452; have HO_17 := n0_; have HB := n1_; have HR452 := n2_; have HO455 := n3_; clear n0_ n1_ n2_ n3_; clear ho hb hg hat) | ((with_reducible refine gate_builtin (b := .append) (xs := #[.tmp 115, .tmp 117]) rfl ?_); (try (refine gate_guard (by rfl) ?_; dsimp only)); at_builtin; refine Kd.R_append (Kd.int .i64) (w0 := w) w.heap.size rfl (.tmp 115) (.tmp 117) 22 3 (.int .i64 0) 8 rfl Try.underlying22 info3 rfl (by decide) (by omega) v454 y453 (rd seg x92_4) [.int .i64 (rd seg x92_4)] (fun k_ => some k_ ≠ (.slice (some ad448) x17_4.length co47 : Value).ownBlock) (fun _ => False) rfl rfl ?aP (fun _ hk => hk.elim) ?aF ?aO ?aB ?aS ?aL ?_; (case aP => exact rfl); (case aB => exact (by repeat (first | (with_reducible first | exact HB.out | apply below_alloc | apply pw_below_drewN | apply below_drew1) | exact HB.out))); (case aF => exact (fun k_ hk => Kd.fresh' (Kd.R_lt (by (with_reducible repeat (first | apply Kd.R_alloc | apply Kd.R_drewN | apply Kd.R_drew)); exact HO_17.out)) k_ hk)); (case aO => exact (by (with_reducible repeat (first | apply Kd.R_alloc | apply Kd.R_drewN | apply Kd.R_drew)); exact HO455.out)); (case aS => exact (below_size (by repeat (first | (with_reducible first | exact HB.out | apply below_alloc | apply pw_below_drewN | apply below_drew1) | exact HB.out)))); (case aL => have := LMc43.out; omega); intro v457 w50 ho hb hg hat; rw [← Ny456.out] at ho; have n0_ := Aside0.mk (Kd.R_after (ok := (fun _ => True)) (by (with_reducible repeat (first | apply Kd.R_alloc | apply Kd.R_drewN | apply Kd.R_drew)); exact HO_17.out) hg hat); have n1_ := Aside0.mk (hb); have n2_ := Aside0.mk ((show Kd.C (Kd.int .i64) w50 (some ad448) y449.length y449 from by rw [Ny449.out]; exact Kd.C_take (m := (x20_5 : Int).toNat) ((Kd.R_reads' (Kd.R_after (ok := (fun _ => True)) (by (with_reducible repeat (first | apply Kd.R_alloc | apply Kd.R_drewN | apply Kd.R_drew)); exact HO_17.out) hg hat)).2.2) KL48.out)); have n3_ := Aside0.mk (ho); clear HO_17; clear HB; clear HR452; clear HO455; have HO_17 := n0_; have HB := n1_; have HR452 := n2_; have HO458 := n3_; clear n0_ n1_ n2_ n3_; clear ho hb hg hat; have q51 : (x20_5 : Int) ≤ ((x17_4.length : Int) : Int) := of_decide_eq_true (by first | (with_reducible assumption) | assumption); obtain ⟨i051, hi051, _, hsz51, _⟩ := info_parts info3; have hroom51 : x17_4.length ≤ co47 := (Kd.R_reads' HO_17.out).2.1; have hC51 : Kd.C (Kd.int .i64) _ (some ad448) x17_4.length x17_4 := (Kd.R_reads' HO_17.out).2.2; have q051 : (0 : Int) ≤ (x20_5 : Int) := of_decide_eq_true (by first | (with_reducible assumption) | assumption); have hcut51 := cut_from (P := Try.prog) 22 3 .i64 Try.underlying22 hi051 1 hsz51 (some ad448) x17_4.length co47 x20_5 q051 q51; have hr51 := Kd.C_drop (m := (x20_5 : Int).toNat) (c := co47) hC51 (by omega) hroom51; obtain ⟨A51, hA51⟩ : ∃ A1, A1 = (if co47 = (x20_5 : Int).toNat then (some ad448) else ((some ad448) : Option Addr).map (·.add ((x20_5 : Int).toNat * 1))) := ⟨_, rfl⟩; obtain ⟨c51, hc51⟩ : ∃ c1, c1 = co47 - (x20_5 : Int).toNat := ⟨_, rfl⟩; have hy51 : y459.length = x17_4.length - (x20_5 : Int).toNat := (by rw [Ny459.out, List.length_drop] <;> omega); rw [show (x17_4).drop (x20_5 : Int).toNat = y459 from Ny459.out.symm] at hr51; replace hr51 : Kd.C (Kd.int .i64) _ A51 y459.length y459 := (by rw [hA51]; exact hr51); rw [← hy51, ← hA51, ← hc51] at hcut51; have HR462 := Aside0.mk hr51; have HC462 := Aside0.mk (show y459.length ≤ c51 from by rw [hy51, hc51]; exact Nat.sub_le_sub_right hroom51 _); clear hr51 hC51 hroom51 hi051 hsz51 hc51; have KY51 := Aside0.mk hy51; have KA51 := Aside0.mk hA51; clear hy51 hA51; have KL51 := Aside0.mk (show (x20_5 : Int).toNat ≤ x17_4.length from by omega); replace q51 := eq_true q51) | ((with_reducible refine gate_builtin (b := .append) (xs := #[.tmp 119, .tmp 122]) rfl ?_); (try (refine gate_guard (by rfl) ?_; dsimp only)); at_builtin; refine Kd.R_append_rows (Kd.int .i64) (w0 := w) w.heap.size rfl (.tmp 119) (.tmp 122) 22 3 (.int .i64 0) 8 rfl Try.underlying22 info3 rfl (by decide) (by omega) v457 y456 y459 _ _ _ (fun k_ => some k_ ≠ (.slice (some ad448) x17_4.length co47 : Value).ownBlock) (fun _ => False) rfl rfl ?aO ?aR (fun _ _ h => h) (fun _ h => h.elim) ?aF ?aB ?aS ?aL ?_; (case aR => repeat (first | exact (by repeat (first | (with_reducible exact HR462.out) | (with_reducible refine Kd.C_alloc ?_ _) | (with_reducible refine Kd.C_drewN ?_ _) | (with_reducible refine Kd.C_drew ?_) | exact HR462.out)) | (with_reducible refine Kd.C_alloc ?_ _) | (with_reducible refine Kd.C_drewN ?_ _) | (with_reducible refine Kd.C_drew ?_))); (case aB => exact (by repeat (first | (with_reducible first | exact HB.out | apply below_alloc | apply pw_below_drewN | apply below_drew1) | exact HB.out))); (case aF => exact (fun k_ hk => Kd.fresh' (Kd.R_lt (by (with_reducible repeat (first | apply Kd.R_alloc | apply Kd.R_drewN | apply Kd.R_drew)); exact HO_17.out)) k_ hk)); (case aO => exact (by (with_reducible repeat (first | apply Kd.R_alloc | apply Kd.R_drewN | apply Kd.R_drew)); exact HO458.out)); (case aS => exact (below_size (by repeat (first | (with_reducible first | exact HB.out | apply below_alloc | apply pw_below_drewN | apply below_drew1) | exact HB.out)))); (case aL => have := LMc46.out; omega); intro v464 w52 ho hb hg hat; rw [← Ny463.out] at ho; have n0_ := Aside0.mk (Kd.R_after (ok := (fun _ => True)) (by (with_reducible repeat (first | apply Kd.R_alloc | apply Kd.R_drewN | apply Kd.R_drew)); exact HO_17.out) hg hat); have n1_ := Aside0.mk (hb); have n2_ := Aside0.mk ((show Kd.C (Kd.int .i64) w52 (some ad448) y449.length y449 from by rw [Ny449.out]; exact Kd.C_take (m := (x20_5 : Int).toNat) ((Kd.R_reads' (Kd.R_after (ok := (fun _ => True)) (by (with_reducible repeat (first | apply Kd.R_alloc | apply Kd.R_drewN | apply Kd.R_drew)); exact HO_17.out) hg hat)).2.2) KL48.out)); have n3_ := Aside0.mk ((show Kd.C (Kd.int .i64) w52 A51 y459.length y459 from by rw [Ny459.out, KA51.out]; exact Kd.C_drop (m := (x20_5 : Int).toNat) (c := co47) ((Kd.R_reads' (Kd.R_after (ok := (fun _ => True)) (by (with_reducible repeat (first | apply Kd.R_alloc | apply Kd.R_drewN | apply Kd.R_drew)); exact HO_17.out) hg hat)).2.2) KL51.out ((Kd.R_reads' (Kd.R_after (ok := (fun _ => True)) (by (with_reducible repeat (first | apply Kd.R_alloc | apply Kd.R_drewN | apply Kd.R_drew)); exact HO_17.out) hg hat)).2.1))); have n4_ := Aside0.mk (ho); clear HO_17; clear HB; clear HR452; clear HR462; clear HO458; have HO_17 := n0_; have HB := n1_; have HR452 := n2_; have HR462 := n3_; have HO465 := n4_; clear n0_ n1_ n2_ n3_ n4_; clear ho hb hg hat))
                                                      go_roundg k5
                                                      case measure => have := HJ3.out; have := HK2.out; have := HK3.out; have := HK4.out; have := HK5.out; omega
                                                      case rel => exact ⟨(y463), (wrap64 (x92_4 + 1)), (by first | rfl | (simp; done) | (simp [*]; done)), H', ⟨by have := HJ3.out; have := HK2.out; have := HK3.out; have := HK4.out; have := HK5.out; omega⟩, ⟨by (with_reducible repeat (first | apply Kd.R_alloc | apply Kd.R_drewN | apply Kd.R_drew)); exact Kd.R_mono HO465.out (fun _ hk => trivial)⟩, ⟨by repeat (first | (with_reducible first | exact HB.out | apply below_alloc | apply pw_below_drewN | apply below_drew1) | exact HB.out)⟩⟩
                                                    · rw [if_neg c46] at H
                                                      exact absurd H (by simp)
                                                  · rw [if_neg c43] at H
                                                    exact absurd H (by simp)
                                                · rw [if_neg c42] at H
                                                  exact absurd H (by simp)
                                              · rw [if_neg c41] at H
                                                exact absurd H (by simp)
                                          · rw [if_neg c37] at H
                                            exact absurd H (by simp)
                                        · rw [if_neg c36] at H
                                          have c36b0 : decide (x20_5 < (x17_4.length : Int)) = false := decide_eq_false c36
                                          clear c36
                                          by_cases c53 : 0 ≤ x20_5
                                          · rw [if_pos c53] at H
                                            have c53b0 := eq_true c53
                                            have c53b1 : decide (0 ≤ x20_5) = true := decide_eq_true c53
                                            clear c53
                                            by_cases c54 : x20_5 ≤ (x17_4.length : Int)
                                            · rw [if_pos c54] at H
                                              have c54b0 := eq_true c54
                                              have c54b1 : decide (x20_5 ≤ (x17_4.length : Int)) = true := decide_eq_true c54
                                              clear c54
                                              obtain ⟨y466, hy466⟩ : ∃ y_ : List Int, y_ = (x17_4.take (x20_5 : Int).toNat) := ⟨_, rfl⟩
                                              replace H : (if ([] : List Int).length + y466.length < 17592186044416 then ((some (([] : List Int) ++ y466 : List Int)).bind fun y470 => (if y470.length < 17592186044416 then ((some (y470 ++ [(rd seg x92_4)] : List Int)).bind fun y473 => ((some (x17_4.drop (x20_5 : Int).toNat : List Int)).bind fun y476 => (if y473.length + y476.length < 17592186044416 then (spec_FindIn.l2 k5 x9_3 (y473 ++ y476) seg (seg.length : Int) (wrap64 (x92_4 + 1))) else (none)))) else (none))) else (none)) = some (r1, r2, r3) := by first | (rw [hy466]; with_reducible exact H) | (have H2_ := (Option.bind_some _ _).symm.trans H; rw [hy466]; with_reducible exact H2_) | (have H2_ := (Option.bind_some _ _).symm.trans H; with_reducible exact H2_) | with_reducible exact H | (rw [hy466]; exact H) | exact H
                                              have Ny466 := Aside0.mk hy466
                                              clear hy466
                                              by_cases c55 : ([] : List Int).length + y466.length < 17592186044416
                                              · rw [if_pos c55] at H
                                                have LMc55 := Aside0.mk c55
                                                clear c55
                                                obtain ⟨y470, hy470⟩ : ∃ y_ : List Int, y_ = (([] : List Int) ++ y466) := ⟨_, rfl⟩
                                                replace H : (if y470.length < 17592186044416 then ((some (y470 ++ [(rd seg x92_4)] : List Int)).bind fun y473 => ((some (x17_4.drop (x20_5 : Int).toNat : List Int)).bind fun y476 => (if y473.length + y476.length < 17592186044416 then (spec_FindIn.l2 k5 x9_3 (y473 ++ y476) seg (seg.length : Int) (wrap64 (x92_4 + 1))) else (none)))) else (none)) = some (r1, r2, r3) := by first | (rw [hy470]; with_reducible exact H) | (have H2_ := (Option.bind_some _ _).symm.trans H; rw [hy470]; with_reducible exact H2_) | (have H2_ := (Option.bind_some _ _).symm.trans H; with_reducible exact H2_) | with_reducible exact H | (rw [hy470]; exact H) | exact H
                                                have Ny470 := Aside0.mk hy470
                                                clear hy470
                                                by_cases c56 : y470.length < 17592186044416
                                                · rw [if_pos c56] at H
                                                  have LMc56 := Aside0.mk c56
                                                  clear c56
                                                  obtain ⟨y473, hy473⟩ : ∃ y_ : List Int, y_ = (y470 ++ [(rd seg x92_4)]) := ⟨_, rfl⟩
                                                  replace H : ((some (x17_4.drop (x20_5 : Int).toNat : List Int)).bind fun y476 => (if y473.length + y476.length < 17592186044416 then (spec_FindIn.l2 k5 x9_3 (y473 ++ y476) seg (seg.length : Int) (wrap64 (x92_4 + 1))) else (none))) = some (r1, r2, r3) := by first | (rw [hy473]; with_reducible exact H) | (have H2_ := (Option.bind_some _ _).symm.trans H; rw [hy473]; with_reducible exact H2_) | (have H2_ := (Option.bind_some _ _).symm.trans H; with_reducible exact H2_) | with_reducible exact H | (rw [hy473]; exact H) | exact H
                                                  have Ny473 := Aside0.mk hy473
                                                  clear hy473
                                                  have c57b0 := eq_true (of_decide_eq_true (by first | (with_reducible assumption) | assumption) : 0 ≤ x20_5)
                                                  have c58b0 := eq_true (of_decide_eq_true (by first | (with_reducible assumption) | assumption) : x20_5 ≤ (x17_4.length : Int))
                                                  obtain ⟨y476, hy476⟩ : ∃ y_ : List Int, y_ = (x17_4.drop (x20_5 : Int).toNat) := ⟨_, rfl⟩
                                                  replace H : (if y473.length + y476.length < 17592186044416 then (spec_FindIn.l2 k5 x9_3 (y473 ++ y476) seg (seg.length : Int) (wrap64 (x92_4 + 1))) else (none)) = some (r1, r2, r3) := by first | (rw [hy476]; with_reducible exact H) | (have H2_ := (Option.bind_some _ _).symm.trans H; rw [hy476]; with_reducible exact H2_) | (have H2_ := (Option.bind_some _ _).symm.trans H; with_reducible exact H2_) | with_reducible exact H | (rw [hy476]; exact H) | exact H
                                                  have Ny476 := Aside0.mk hy476
                                                  clear hy476
                                                  by_cases c59 : y473.length + y476.length < 17592186044416
                                                  · rw [if_pos c59] at H
                                                    have LMc59 := Aside0.mk c59
                                                    clear c59
                                                    obtain ⟨y480, hy480⟩ : ∃ y_ : List Int, y_ = (y473 ++ y476) := ⟨_, rfl⟩
                                                    replace H : (spec_FindIn.l2 k5 x9_3 y480 seg (seg.length : Int) (wrap64 (x92_4 + 1))) = some (r1, r2, r3) := by first | (rw [hy480]; with_reducible exact H) | (have H2_ := (Option.bind_some _ _).symm.trans H; rw [hy480]; with_reducible exact H2_) | (have H2_ := (Option.bind_some _ _).symm.trans H; with_reducible exact H2_) | with_reducible exact H | (rw [hy480]; exact H) | exact H
                                                    have Ny480 := Aside0.mk hy480
                                                    clear hy480
                                                    have H' := Aside0.mk H
                                                    clear H
                                                    obtain ⟨Ao60, co60, eo60⟩ := Kd.R_slice HO_17.out
                                                    subst eo60
                                                    have q61 : (x20_5 : Int) ≤ ((x17_4.length : Int) : Int) := of_decide_eq_true (by first | (with_reducible assumption) | assumption)
                                                    obtain ⟨i061, hi061, _, hsz61, _⟩ := info_parts info3
                                                    have hroom61 : x17_4.length ≤ co60 := (Kd.R_reads' HO_17.out).2.1
                                                    have hC61 : Kd.C (Kd.int .i64) _ Ao60 x17_4.length x17_4 := (Kd.R_reads' HO_17.out).2.2
                                                    have hcut61 := cut_to (P := Try.prog) 22 3 .i64 Try.underlying22 hi061 Ao60 x17_4.length co60 x20_5 (of_decide_eq_true (by first | (with_reducible assumption) | assumption)) q61 hroom61
                                                    have hr61 := Kd.C_take (m := (x20_5 : Int).toNat) hC61 (by omega)
                                                    have hy61 : y466.length = (x20_5 : Int).toNat := (by rw [Ny466.out, List.length_take]; omega)
                                                    rw [← Ny466.out] at hr61
                                                    rw [← hy61] at hcut61
                                                    have HR469 := Aside0.mk hr61
                                                    have HC469 := Aside0.mk (show y466.length ≤ co60 from by omega)
                                                    clear hr61 hC61 hroom61 hi061 hsz61
                                                    have KY61 := Aside0.mk hy61
                                                    clear hy61
                                                    have KL61 := Aside0.mk (show (x20_5 : Int).toNat ≤ x17_4.length from by omega)
                                                    replace q61 := eq_true q61
                                                    go_wp2_with (first | ((with_reducible refine gate_builtin (b := .append) (xs := #[.tmp 110, .tmp 113]) rfl ?_); (try (refine gate_guard (by rfl) ?_; dsimp only)); at_builtin; refine Kd.R_append_rows (Kd.int .i64) (w0 := w) w.heap.size rfl (.tmp 110) (.tmp 113) 22 3 (.int .i64 0) 8 rfl Try.underlying22 info3 rfl (by decide) (by omega) (.slice none 0 0) ([] : List Int) y466 _ _ _ (fun k_ => some k_ ≠ (.slice Ao60 x17_4.length co60 : Value).ownBlock) (fun _ => False) rfl rfl ?aO ?aR (fun _ _ h => h) (fun _ h => h.elim) ?aF ?aB ?aS ?aL ?_; (case aR => repeat (first | exact (by repeat (first | (with_reducible exact HR469.out) | (with_reducible refine Kd.C_alloc ?_ _) | (with_reducible refine Kd.C_drewN ?_ _) | (with_reducible refine Kd.C_drew ?_) | exact HR469.out)) | (with_reducible refine Kd.C_alloc ?_ _) | (with_reducible refine Kd.C_drewN ?_ _) | (with_reducible refine Kd.C_drew ?_))); (case aB => exact (by repeat (first | (with_reducible first | exact HB.out | apply below_alloc | apply pw_below_drewN | apply below_drew1) | exact HB.out))); (case aF => exact (fun k_ hk => Kd.fresh' (Kd.R_lt (by (with_reducible repeat (first | apply Kd.R_alloc | apply Kd.R_drewN | apply Kd.R_drew)); exact HO_17.out)) k_ hk)); (case aO => exact ((Kd.R_nil _ _ _ _ (fun k_ => some k_ ≠ (.slice Ao60 x17_4.length co60 : Value).ownBlock)))); (case aS => exact (below_size (by repeat (first | (with_reducible first | exact HB.out | apply below_alloc | apply pw_below_drewN | apply below_drew1) | exact HB.out)))); (case aL => have := LMc55.out; omega); intro v471 w62 ho hb hg hat; rw [← Ny470.out] at ho; have n0_ := Aside0.mk (Kd.R_after (Kd.R_apart_nil (by (with_reducible repeat (first | apply Kd.R_alloc | apply Kd.R_drewN | apply Kd.R_drew)); exact HO_17.out)) hg hat); have n1_ := Aside0.mk (hb); have n2_ := Aside0.mk ((show Kd.C (Kd.int .i64) w62 Ao60 y466.length y466 from by rw [Ny466.out]; exact Kd.C_take (m := (x20_5 : Int).toNat) ((Kd.R_reads' (Kd.R_after (Kd.R_apart_nil (by (with_reducible repeat (first | apply Kd.R_alloc | apply Kd.R_drewN | apply Kd.R_drew)); exact HO_17.out)) hg hat)).2.2) KL61.out)); have n3_ := Aside0.mk (ho); clear HO_17; clear HB; clear HR469; have HO_17 := n0_; have HB := n1_; have HR469 := n2_; have HO472 := n3_; clear n0_ n1_ n2_ n3_; clear ho hb hg hat) | ((with_reducible refine gate_builtin (b := .append) (xs := #[.tmp 115, .tmp 117]) rfl ?_); (try (refine gate_guard (by rfl) ?_; dsimp only)); at_builtin; refine Kd.R_append (Kd.int .i64) (w0 := w) w.heap.size rfl (.tmp 115) (.tmp 117) 22 3 (.int .i64 0) 8 rfl Try.underlying22 info3 rfl (by decide) (by omega) v471 y470 (rd seg x92_4) [.int .i64 (rd seg x92_4)] (fun k_ => some k_ ≠ (.slice Ao60 x17_4.length co60 : Value).ownBlock) (fun _ => False) rfl rfl ?aP (fun _ hk => hk.elim) ?aF ?aO ?aB ?aS ?aL ?_; (case aP => exact rfl); (case aB => exact (by repeat (first | (with_reducible first | exact HB.out | apply below_alloc | apply pw_below_drewN | apply below_drew1) | exact HB.out))); (case aF => exact (fun k_ hk => Kd.fresh' (Kd.R_lt (by (with_reducible repeat (first | apply Kd.R_alloc | apply Kd.R_drewN | apply Kd.R_drew)); exact HO_17.out)) k_ hk)); (case aO => exact (by (with_reducible repeat (first | apply Kd.R_alloc | apply Kd.R_drewN | apply Kd.R_drew)); exact HO472.out)); (case aS => exact (below_size (by repeat (first | (with_reducible first | exact HB.out | apply below_alloc | apply pw_below_drewN | apply below_drew1) | exact HB.out)))); (case aL => have := LMc56.out; omega); intro v474 w63 ho hb hg hat; rw [← Ny473.out] at ho; have n0_ := Aside0.mk (Kd.R_after (ok := (fun _ => True)) (by (with_reducible repeat (first | apply Kd.R_alloc | apply Kd.R_drewN | apply Kd.R_drew)); exact HO_17.out) hg hat); have n1_ := Aside0.mk (hb); have n2_ := Aside0.mk ((show Kd.C (Kd.int .i64) w63 Ao60 y466.length y466 from by rw [Ny466.out]; exact Kd.C_take (m := (x20_5 : Int).toNat) ((Kd.R_reads' (Kd.R_after (ok := (fun _ => True)) (by (with_reducible repeat (first | apply Kd.R_alloc | apply Kd.R_drewN | apply Kd.R_drew)); exact HO_17.out) hg hat)).2.2) KL61.out)); have n3_ := Aside0.mk (ho); clear HO_17; clear HB; clear HR469; clear HO472; have HO_17 := n0_; have HB := n1_; have HR469 := n2_; have HO475 := n3_; clear n0_ n1_ n2_ n3_; clear ho hb hg hat; have q64 : (x20_5 : Int) ≤ ((x17_4.length : Int) : Int) := of_decide_eq_true (by first | (with_reducible assumption) | assumption); obtain ⟨i064, hi064, _, hsz64, _⟩ := info_parts info3; have hroom64 : x17_4.length ≤ co60 := (Kd.R_reads' HO_17.out).2.1; have hC64 : Kd.C (Kd.int .i64) _ Ao60 x17_4.length x17_4 := (Kd.R_reads' HO_17.out).2.2; have q064 : (0 : Int) ≤ (x20_5 : Int) := of_decide_eq_true (by first | (with_reducible assumption) | assumption); have hcut64 := cut_from (P := Try.prog) 22 3 .i64 Try.underlying22 hi064 1 hsz64 Ao60 x17_4.length co60 x20_5 q064 q64; have hr64 := Kd.C_drop (m := (x20_5 : Int).toNat) (c := co60) hC64 (by omega) hroom64; obtain ⟨A64, hA64⟩ : ∃ A1, A1 = (if co60 = (x20_5 : Int).toNat then Ao60 else (Ao60 : Option Addr).map (·.add ((x20_5 : Int).toNat * 1))) := ⟨_, rfl⟩; obtain ⟨c64, hc64⟩ : ∃ c1, c1 = co60 - (x20_5 : Int).toNat := ⟨_, rfl⟩; have hy64 : y476.length = x17_4.length - (x20_5 : Int).toNat := (by rw [Ny476.out, List.length_drop] <;> omega); rw [show (x17_4).drop (x20_5 : Int).toNat = y476 from Ny476.out.symm] at hr64; replace hr64 : Kd.C (Kd.int .i64) _ A64 y476.length y476 := (by rw [hA64]; exact hr64); rw [← hy64, ← hA64, ← hc64] at hcut64; have HR479 := Aside0.mk hr64; have HC479 := Aside0.mk (show y476.length ≤ c64 from by rw [hy64, hc64]; exact Nat.sub_le_sub_right hroom64 _); clear hr64 hC64 hroom64 hi064 hsz64 hc64; have KY64 := Aside0.mk hy64; have KA64 := Aside0.mk hA64; clear hy64 hA64; have KL64 := Aside0.mk (show (x20_5 : Int).toNat ≤ x17_4.length from by omega); replace q64 := eq_true q64) | ((with_reducible refine gate_builtin (b := .append) (xs := #[.tmp 119, .tmp 122]) rfl ?_); (try (refine gate_guard (by rfl) ?_; dsimp only)); at_builtin; refine Kd.R_append_rows (Kd.int .i64) (w0 := w) w.heap.size rfl (.tmp 119) (.tmp 122) 22 3 (.int .i64 0) 8 rfl Try.underlying22 info3 rfl (by decide) (by omega) v474 y473 y476 _ _ _ (fun k_ => some k_ ≠ (.slice Ao60 x17_4.length co60 : Value).ownBlock) (fun _ => False) rfl rfl ?aO ?aR (fun _ _ h => h) (fun _ h => h.elim) ?aF ?aB ?aS ?aL ?_; (case aR => repeat (first | exact (by repeat (first | (with_reducible exact HR479.out) | (with_reducible refine Kd.C_alloc ?_ _) | (with_reducible refine Kd.C_drewN ?_ _) | (with_reducible refine Kd.C_drew ?_) | exact HR479.out)) | (with_reducible refine Kd.C_alloc ?_ _) | (with_reducible refine Kd.C_drewN ?_ _) | (with_reducible refine Kd.C_drew ?_))); (case aB => exact (by repeat (first | (with_reducible first | exact HB.out | apply below_alloc | apply pw_below_drewN | apply below_drew1) | exact HB.out))); (case aF => exact (fun k_ hk => Kd.fresh' (Kd.R_lt (by (with_reducible repeat (first | apply Kd.R_alloc | apply Kd.R_drewN | apply Kd.R_drew)); exact HO_17.out)) k_ hk)); (case aO => exact (by (with_reducible repeat (first | apply Kd.R_alloc | apply Kd.R_drewN | apply Kd.R_drew)); exact HO475.out)); (case aS => exact (below_size (by repeat (first | (with_reducible first | exact HB.out | apply below_alloc | apply pw_below_drewN | apply below_drew1) | exact HB.out)))); (case aL => have := LMc59.out; omega); intro v481 w65 ho hb hg hat; rw [← Ny480.out] at ho; have n0_ := Aside0.mk (Kd.R_after (ok := (fun _ => True)) (by (with_reducible repeat (first | apply Kd.R_alloc | apply Kd.R_drewN | apply Kd.R_drew)); exact HO_17.out) hg hat); have n1_ := Aside0.mk (hb); have n2_ := Aside0.mk ((show Kd.C (Kd.int .i64) w65 Ao60 y466.length y466 from by rw [Ny466.out]; exact Kd.C_take (m := (x20_5 : Int).toNat) ((Kd.R_reads' (Kd.R_after (ok := (fun _ => True)) (by (with_reducible repeat (first | apply Kd.R_alloc | apply Kd.R_drewN | apply Kd.R_drew)); exact HO_17.out) hg hat)).2.2) KL61.out)); have n3_ := Aside0.mk ((show Kd.C (Kd.int .i64) w65 A64 y476.length y476 from by rw [Ny476.out, KA64.out]; exact Kd.C_drop (m := (x20_5 : Int).toNat) (c := co60) ((Kd.R_reads' (Kd.R_after (ok := (fun _ => True)) (by (with_reducible repeat (first | apply Kd.R_alloc | apply Kd.R_drewN | apply Kd.R_drew)); exact HO_17.out) hg hat)).2.2) KL64.out ((Kd.R_reads' (Kd.R_after (ok := (fun _ => True)) (by (with_reducible repeat (first | apply Kd.R_alloc | apply Kd.R_drewN | apply Kd.R_drew)); exact HO_17.out) hg hat)).2.1))); have n4_ := Aside0.mk (ho); clear HO_17; clear HB; clear HR469; clear HR479; clear HO475; have HO_17 := n0_; have HB := n1_; have HR469 := n2_; have HR479 := n3_; have HO482 := n4_; clear n0_ n1_ n2_ n3_ n4_; clear ho hb hg hat))
                                                    go_roundg k5
                                                    case measure => have := HJ3.out; have := HK2.out; have := HK3.out; have := HK4.out; have := HK5.out; omega
                                                    case rel => exact ⟨(y480), (wrap64 (x92_4 + 1)), (by first | rfl | (simp; done) | (simp [*]; done)), H', ⟨by have := HJ3.out; have := HK2.out; have := HK3.out; have := HK4.out; have := HK5.out; omega⟩, ⟨by (with_reducible repeat (first | apply Kd.R_alloc | apply Kd.R_drewN | apply Kd.R_drew)); exact Kd.R_mono HO482.out (fun _ hk => trivial)⟩, ⟨by repeat (first | (with_reducible first | exact HB.out | apply below_alloc | apply pw_below_drewN | apply below_drew1) | exact HB.out)⟩⟩
                                                  · rw [if_neg c59] at H
                                                    exact absurd H (by simp)
                                                · rw [if_neg c56] at H
                                                  exact absurd H (by simp)
                                              · rw [if_neg c55] at H
                                                exact absurd H (by simp)
                                            · rw [if_neg c54] at H
                                              exact absurd H (by simp)
                                          · rw [if_neg c53] at H
                                            exact absurd H (by simp)
                                  · rw [if_neg c35] at H
                                    exact absurd H (by simp)
                                · rw [if_neg c34] at H
                                  exact absurd H (by simp)
                              · rw [if_neg c33] at H
                                have c33b0 : decide (x92_4 < (seg.length : Int)) = false := decide_eq_false c33
                                clear c33
                                simp only [Option.some.injEq, Prod.mk.injEq] at H
                                obtain ⟨rfl, rfl, rfl⟩ := H
                                go_wp2
                                go_ret3
                                exact ⟨_, by first | rfl | (simp [errW_none, errW_some] <;> rfl) | (simp [*, errW_none, errW_some] <;> rfl), by (with_reducible repeat (first | apply Kd.R_alloc | apply Kd.R_drewN | apply Kd.R_drew)); exact HO_17.out, by repeat (first | (with_reducible first | exact HB.out | apply below_alloc | apply pw_below_drewN | apply below_drew1) | exact HB.out)⟩
                        · rw [if_neg c31] at H
                          exact absurd H (by simp)
                      · rw [if_neg c30] at H
                        exact absurd H (by simp)
                    · rw [if_neg c29] at H
                      exact absurd H (by simp)


end Go.Proofs.Ytppmigiknidjhaa.PQ
end
