-- Written by a program of this session (pprint.py) out of the translation's print; Lean checks it.
import Derived.Test.YtppmigiknidjhaaPQx0
import Derived.Test.YtppmigiknidjhaaPQspecl12Suffixes
import Derived.Test.YtppmigiknidjhaaPQspecl12Same
namespace Go.Proofs.Ytppmigiknidjhaa.PQ
open Go.RowKit Go.Proofs.YtppmigiknidjhaaW.PrintWords Go.Proofs.YtppmigiknidjhaaW.PrintLast Go.Proofs.YtppmigiknidjhaaW.PrintMore
attribute [local go_sem] max2_int min2_int max_two min_two max_three min_three max_four min_four   -- for this text's walks alone
set_option linter.unusedVariables false
set_option linter.unusedSimpArgs false

/-! ### spec_l12Is: function 41 -/
def spec_l12Is.f (k : Nat) (a0 : ByteArray) (l1 : List Int) : Option (Bool) := if (a0.size : Int) ≤ 120 then ((spec_l12Suffixes.f k a0).bind fun t216 => ((spec_l12Same.f k l1 t216).bind fun t219 => (some t219))) else (some false)
theorem spec_l12Is.mono : ∀ a0 a1 k, LeO (spec_l12Is.f k a0 a1) (spec_l12Is.f (k + 1) a0 a1) := by
  intro a0 a1 k
  unfold spec_l12Is.f
  repeat' first
      | (with_reducible exact spec_l12Same.mono _ _ _)
      | (with_reducible exact spec_l12Suffixes.mono _ _)
      | (with_reducible exact LeO.refl _)
      | (with_reducible exact LeO.none _)
      | (with_reducible refine LeO.ite ?_ ?_)
      | (with_reducible refine LeO.bind ?_ (fun _ => ?_))
      | exact spec_l12Same.mono _ _ _
      | exact spec_l12Suffixes.mono _ _
      | exact LeO.none _
      | refine LeO.ite ?_ ?_
      | refine LeO.bind ?_ (fun _ => ?_)
set_option maxHeartbeats 8000000 in
set_option maxRecDepth 100000 in
theorem spec_l12Is.calls (k : Nat) (a0 : ByteArray) (A1 : Option Addr) (c1 : Nat) (l1 : List Int) (r : Bool) (w : World) (hr1 : Kd.C (Kd.int .i64) w A1 l1.length l1) (hc1 : l1.length ≤ c1) (h : spec_l12Is.f k a0 l1 = some r) :
    Calls Try.prog 41 #[.string a0, .slice A1 l1.length c1] w fun e w' => e = .returned (.bool r) ∧ Below w.heap.size w w' := by
  have HR1 := Aside0.mk hr1
  have HC1 := Aside0.mk hc1
  clear hr1 hc1
  have HB := Aside0.mk (Below.refl w.heap.size w)
  have H : (if (a0.size : Int) ≤ 120 then ((spec_l12Suffixes.f k a0).bind fun t216 => ((spec_l12Same.f k l1 t216).bind fun t219 => (some t219))) else (some false)) = some r := h
  clear h
  by_cases c3 : (a0.size : Int) ≤ 120
  · rw [if_pos c3] at H
    have c3b0 : decide ((a0.size : Int) ≤ 120) = true := decide_eq_true c3
    have c3b1 : decide (a0.size ≤ 120) = true := decide_eq_true (by omega)
    clear c3
    replace H := Option.bind_eq_some_iff.mp H
    obtain ⟨t216, A40, H⟩ := H
    replace H : ((spec_l12Same.f k l1 t216).bind fun t219 => (some t219)) = some r := H
    have A4 := Aside0.mk A40
    clear A40
    replace H := Option.bind_eq_some_iff.mp H
    obtain ⟨t219, A50, H⟩ := H
    replace H : (some t219) = some r := H
    have A5 := Aside0.mk A50
    clear A50
    obtain rfl := Option.some.inj H
    go_enter Try.func41, Try.ntmps41
    go_wp2_with (first | (go_at_call 37; (try simp only [i64_w]); (with_reducible refine (spec_l12Suffixes.calls k a0 t216 _ A4.out).mono ?_); rintro e w6 ⟨v217, rfl, ho0, hb⟩; have n0_ := Aside0.mk (Kd.R_lower ho0 (below_size (by repeat (first | (with_reducible first | exact HB.out | apply below_alloc | apply pw_below_drewN | apply below_drew1) | exact HB.out)))); have n1_ := Aside0.mk (below_step (by repeat (first | (with_reducible first | exact HB.out | apply below_alloc | apply pw_below_drewN | apply below_drew1) | exact HB.out)) hb); clear HB; have HO218 := n0_; have HB := n1_; clear n0_ n1_; (try clear hb); (try clear hb2); (try clear hk); (try clear hi); (try clear ho0); obtain ⟨Ao7, co7, eo7⟩ := Kd.R_slice HO218.out; subst eo7) | (go_at_call 65; (try simp only [i64_w]); (with_reducible refine (spec_l12Same.calls k _ _ l1 _ _ t216 t219 _ ?side1 ?side2 ?side3 ?side4 A5.out).mono ?_); (case side1 => repeat (first | exact (Kd.C_below HR1.out HB.out) | (with_reducible refine Kd.C_alloc ?_ _) | (with_reducible refine Kd.C_drewN ?_ _) | (with_reducible refine Kd.C_drew ?_))); (case side2 => exact HC1.out); (case side3 => repeat (first | exact (Kd.R_reads' HO218.out).2.2 | (with_reducible refine Kd.C_alloc ?_ _) | (with_reducible refine Kd.C_drewN ?_ _) | (with_reducible refine Kd.C_drew ?_))); (case side4 => exact (Kd.R_reads' HO218.out).2.1); rintro e w' ⟨rfl, ⟨nd, rfl⟩⟩))
    go_ret
    exact ⟨by first | rfl | (simp [errW_none, errW_some] <;> rfl) | (simp [*, errW_none, errW_some] <;> rfl), by repeat (first | (with_reducible first | exact HB.out | apply below_alloc | apply pw_below_drewN | apply below_drew1) | exact HB.out)⟩
  · rw [if_neg c3] at H
    have c3b0 : decide ((a0.size : Int) ≤ 120) = false := decide_eq_false c3
    have c3b1 : decide (a0.size ≤ 120) = false := decide_eq_false (by omega)
    clear c3
    obtain rfl := Option.some.inj H
    go_enter Try.func41, Try.ntmps41
    go_wp2
    go_ret
    exact ⟨by first | rfl | (simp [errW_none, errW_some] <;> rfl) | (simp [*, errW_none, errW_some] <;> rfl), by repeat (first | (with_reducible first | exact HB.out | apply below_alloc | apply pw_below_drewN | apply below_drew1) | exact HB.out)⟩

end Go.Proofs.Ytppmigiknidjhaa.PQ
