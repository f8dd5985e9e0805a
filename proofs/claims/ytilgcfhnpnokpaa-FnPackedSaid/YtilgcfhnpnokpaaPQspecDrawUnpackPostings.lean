-- Written by a program of this session (pprint.py) out of the translation's print; Lean checks it.
import Derived.Test.YtilgcfhnpnokpaaPQx0
import Derived.Test.YtilgcfhnpnokpaaPQspecPackPostings
import Derived.Test.YtilgcfhnpnokpaaPQspecl1Curnext
import Derived.Test.YtilgcfhnpnokpaaPQspecl1Curone
import Derived.Test.YtilgcfhnpnokpaaPQspecl1Curpostings
import Derived.Test.YtilgcfhnpnokpaaPQspecl1Curspoilt
namespace Go.Proofs.Ytilgcfhnpnokpaa.PQ
open Go.RowKit Go.Proofs.YtilgcfhnpnokpaaW.PrintWords Go.Proofs.YtilgcfhnpnokpaaW.PrintLast Go.Proofs.YtilgcfhnpnokpaaW.PrintMore
attribute [local go_sem] max2_int min2_int max_two min_two max_three min_three max_four min_four   -- for this text's walks alone
set_option linter.unusedVariables false
set_option linter.unusedSimpArgs false

--OWNPART spec_DrawUnpackPostings
/-! ### spec_DrawUnpackPostings: function 45, by hand -/
def spec_DrawUnpackPostings.f (k : Nat) (l0 : List Int) : Option (ByteArray) := (spec_l1Cur_postings.f k l0 0 0).bind fun b1 => (spec_PackPostings.f k b1.1).bind fun b2 => (spec_l1Cur_one.f l0 b1.2.1 b1.2.2 3).bind fun b3 => if b3.1 = true then (spec_l1Cur_spoilt.f k l0 b3.2.1 b3.2.2 b2.1 ⟨#[0, 128, 127]⟩).bind fun b4 => some b4.1 else some b2.1
theorem spec_DrawUnpackPostings.mono : ∀ a0 k, LeO (spec_DrawUnpackPostings.f k a0) (spec_DrawUnpackPostings.f (k + 1) a0) := by
  intro a0 k
  unfold spec_DrawUnpackPostings.f
  refine LeO.bind (spec_l1Cur_postings.mono _ _ _ _) (fun _ => LeO.bind (spec_PackPostings.mono _ _) (fun _ => LeO.bind (LeO.refl _) (fun _ => LeO.ite ?_ (LeO.refl _))))
  exact LeO.bind (spec_l1Cur_spoilt.mono _ _ _ _ _ _) (fun _ => LeO.refl _)
set_option maxHeartbeats 1000000 in
set_option maxRecDepth 100000 in
theorem spec_DrawUnpackPostings.calls (k : Nat) (A0 : Option Addr) (c0 : Nat) (l0 : List Int) (r : ByteArray) (w : World) (hr0 : Kd.C (Kd.int .u8) w A0 l0.length l0) (hc0 : l0.length ≤ c0) (h : spec_DrawUnpackPostings.f k l0 = some r) :
    Calls Try.prog 45 #[.slice A0 l0.length c0] w fun e w' => e = .returned (.string r) ∧ Below w.heap.size w w' := by
  unfold spec_DrawUnpackPostings.f at h
  obtain ⟨⟨p1, p2, p3⟩, h1, h⟩ := Option.bind_eq_some_iff.mp h
  obtain ⟨⟨q1, q2⟩, h2, h⟩ := Option.bind_eq_some_iff.mp h
  obtain ⟨⟨o1, o2, o3⟩, h3, h⟩ := Option.bind_eq_some_iff.mp h
  have A1 := Aside0.mk h1
  have A2 := Aside0.mk h2
  have A3 := Aside0.mk h3
  have HN := Aside0.mk (fun W (hB : Below w.heap.size w W) => IsS119.new w W A0 c0 l0 0 0 hB hr0)
  have HA := Aside0.mk (below_alloc (Below.refl w.heap.size w) (.cells #[.slice A0 l0.length c0, .int .i64 0, .int .u64 0] 119))
  clear h1 h2 h3 hr0 hc0
  have H4 := Aside0.mk h
  clear h
  go_enter Try.func45, Try.ntmps45
  go_wp2_with (first | (go_at_call 83; refine (spec_l1Cur_postings.calls k w.heap.size l0 0 0 _ p2 p3 w _ (HN.out w (Below.refl _ _)) HA.out A1.out).mono ?_; rintro e w1 ⟨v0, rfl, hr, hi, hb, _⟩; obtain ⟨Ap, cp, rfl, hcp, hCp⟩ := Kd.R_reads hr; have HB1 := Aside0.mk hb; have HC1 := Aside0.mk hCp; have HI1 := Aside0.mk hi; have HL1 := Aside0.mk hcp; clear hb hr hi hcp hCp) | (go_at_call 20; refine (spec_PackPostings.calls k _ _ p1 q1 q2 _ HC1.out HL1.out A2.out).mono ?_; rintro e w2 ⟨rfl, hb⟩; have HB2 := Aside0.mk (below_step HB1.out hb); have HI2 := Aside0.mk (HI1.out.below hb); clear hb))
  refine (spec_l1Cur_one.calls w.heap.size l0 p2 p3 3 o1 o2 o3 w _ HI2.out HB2.out A3.out).mono ?_
  rintro e w3 ⟨rfl, hi, hb, _⟩
  have HI3 := Aside0.mk hi
  have HB3 := Aside0.mk hb
  clear hi hb
  cases o1 with
  | true =>
    obtain ⟨⟨s1, s2, s3⟩, h4, h5⟩ := Option.bind_eq_some_iff.mp ((if_pos rfl).symm.trans H4.out)
    have e1 : s1 = r := Option.some.inj h5
    subst e1
    have A4 := Aside0.mk h4
    clear h4 h5
    go_wp2_with (go_at_call 85; refine (spec_l1Cur_spoilt.calls k w.heap.size l0 o2 o3 q1 ⟨#[0, 128, 127]⟩ _ s2 s3 w _ HI3.out HB3.out A4.out).mono ?_; rintro e w4 ⟨rfl, _, hb, _⟩; have HB4 := Aside0.mk hb; clear hb)
    go_ret
    exact ⟨rfl, HB4.out⟩
  | false =>
    have e1 : q1 = r := Option.some.inj ((if_neg (by simp)).symm.trans H4.out)
    subst e1
    go_wp2
    go_ret
    exact ⟨rfl, HB3.out⟩

end Go.Proofs.Ytilgcfhnpnokpaa.PQ
