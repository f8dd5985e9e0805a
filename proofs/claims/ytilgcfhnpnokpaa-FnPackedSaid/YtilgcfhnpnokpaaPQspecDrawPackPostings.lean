-- Written by a program of this session (pprint.py) out of the translation's print; Lean checks it.
import Derived.Test.YtilgcfhnpnokpaaPQx0
import Derived.Test.YtilgcfhnpnokpaaPQspecl1Curnext
import Derived.Test.YtilgcfhnpnokpaaPQspecl1Curpostings
namespace Go.Proofs.Ytilgcfhnpnokpaa.PQ
open Go.RowKit Go.Proofs.YtilgcfhnpnokpaaW.PrintWords Go.Proofs.YtilgcfhnpnokpaaW.PrintLast Go.Proofs.YtilgcfhnpnokpaaW.PrintMore
attribute [local go_sem] max2_int min2_int max_two min_two max_three min_three max_four min_four   -- for this text's walks alone
set_option linter.unusedVariables false
set_option linter.unusedSimpArgs false

--OWNPART spec_DrawPackPostings
/-! ### spec_DrawPackPostings: function 43, by hand -/
def spec_DrawPackPostings.f (k : Nat) (l0 : List Int) : Option (List S81) := (spec_l1Cur_postings.f k l0 0 0).bind fun bt1 => some bt1.1
theorem spec_DrawPackPostings.mono : ∀ a0 k, LeO (spec_DrawPackPostings.f k a0) (spec_DrawPackPostings.f (k + 1) a0) := by
  intro a0 k
  unfold spec_DrawPackPostings.f
  exact LeO.bind (spec_l1Cur_postings.mono _ _ _ _) (fun _ => LeO.refl _)
set_option maxHeartbeats 1000000 in
set_option maxRecDepth 100000 in
theorem spec_DrawPackPostings.calls (k : Nat) (A0 : Option Addr) (c0 : Nat) (l0 : List Int) (r : List S81) (w : World) (hr0 : Kd.C (Kd.int .u8) w A0 l0.length l0) (hc0 : l0.length ≤ c0) (h : spec_DrawPackPostings.f k l0 = some r) :
    Calls Try.prog 43 #[.slice A0 l0.length c0] w fun e w' => ∃ v0_ : Value, e = .returned (v0_) ∧ Kd.R k81 81 w' w.heap.size (fun _ => True) v0_ r ∧ Below w.heap.size w w' := by
  unfold spec_DrawPackPostings.f at h
  obtain ⟨⟨t1, t2, t3⟩, h1, h2⟩ := Option.bind_eq_some_iff.mp h
  have e1 : t1 = r := Option.some.inj h2
  subst e1
  have A1 := Aside0.mk h1
  have HN := Aside0.mk (fun W (hB : Below w.heap.size w W) => IsS119.new w W A0 c0 l0 0 0 hB hr0)
  have HA := Aside0.mk (below_alloc (Below.refl w.heap.size w) (.cells #[.slice A0 l0.length c0, .int .i64 0, .int .u64 0] 119))
  clear h h1 h2 hr0 hc0
  go_enter Try.func43, Try.ntmps43
  go_wp2_with (go_at_call 83; refine (spec_l1Cur_postings.calls k w.heap.size l0 0 0 _ t2 t3 w _ (HN.out w (Below.refl _ _)) HA.out A1.out).mono ?_; rintro e w' ⟨v0, rfl, hr, _, hb, _⟩; have HB := Aside0.mk hb; have HR := Aside0.mk (Kd.R_lower hr (below_size HA.out)); clear hb hr)
  go_ret
  exact ⟨_, rfl, HR.out, HB.out⟩

end Go.Proofs.Ytilgcfhnpnokpaa.PQ
