-- Written by a program of this session (pprint.py) out of the translation's print; Lean checks it.
import Derived.Test.YtilgcfhnpnokpaaRows
import Derived.Test.YtilgcfhnpnokpaaOpens
import Derived.Test.YtilgcfhnpnokpaaPQlawsFnExactSumOf
import Derived.Test.YtilgcfhnpnokpaaPureFnExactSumOf
import Derived.WalkKit
import Derived.ProofKit
import Derived.OpenShut
import Derived.ShutString
import Derived.ChangeOld
import Derived.Below
import Derived.SizedLaws
namespace Go.Proofs.Ytilgcfhnpnokpaa.fnExactSumOf
open Go.ChangeShapes Go.WideShapes Go.ChangeAt Go.RowKit Go.Proofs.Ytilgcfhnpnokpaa.PQ Go.Proofs.YtilgcfhnpnokpaaW.PrintWords
open Go.ChangeMaps (open_string shut_string)
set_option linter.unusedVariables false
theorem own : ownKnob Try.prog.godebug = Option.none := by kernel_rfl
theorem laidOut : laidOutB Try.prog = true := by kernel_rfl
theorem opn3 : Opn.Opens Try.prog 3 (Kd.int .i64) (fun x_ => (Lit.int .i64 x_).wf = true) := Opn.opens_int Try.underlying3
theorem opn153 : Opn.Opens Try.prog 153 k153 (fun x_ => ((Lit.int .i64 x_.f0).wf = true ∧ (Lit.int .i64 x_.f1).wf = true)) := by
  have h : Opn.Opens Try.prog 153 (Kd.pair (Kd.int .i64) (Kd.int .i64)) (fun x_ => ((Lit.int .i64 x_.1).wf = true ∧ (Lit.int .i64 x_.2).wf = true)) := by
    refine Opn.opens_struct Try.underlying153 (by kernel_rfl) ?_
    refine Opn.opens_cons (a := (Kd.int .i64)) (b := (Kd.int .i64)) (fa := fun x_ => (Lit.int .i64 x_).wf = true) (fb := fun x_ => (Lit.int .i64 x_).wf = true) ?_ ?_ ?_ ?_
    · rfl
    · kernel_rfl
    · exact opn3
    refine Opn.opens_last ?_ ?_ ?_
    · rfl
    · kernel_rfl
    · exact opn3
  exact Opn.opens_iso (fun x : S153 => (x.f0, x.f1)) (fun y_ => (⟨y_.1, y_.2⟩ : S153)) (fun _ => rfl) h
theorem opn103 : Opn.Opens Try.prog 103 (Kd.slice 153 k153) (fun xs_ => xs_.length ≤ maxLen ∧ ∀ x_ ∈ xs_, ((Lit.int .i64 x_.f0).wf = true ∧ (Lit.int .i64 x_.f1).wf = true)) := Opn.opens_slice Try.underlying103 (by kernel_rfl) opn153
theorem opn105 : Opn.Opens Try.prog 105 k105 (fun x_ => (x_.f0.length ≤ maxLen ∧ ∀ xx_ ∈ x_.f0, ((Lit.int .i64 xx_.f0).wf = true ∧ (Lit.int .i64 xx_.f1).wf = true))) := by
  have h : Opn.Opens Try.prog 105 (Kd.slice 153 k153) (fun x_ => (x_.length ≤ maxLen ∧ ∀ xx_ ∈ x_, ((Lit.int .i64 xx_.f0).wf = true ∧ (Lit.int .i64 xx_.f1).wf = true))) := by
    refine Opn.opens_struct Try.underlying105 (by kernel_rfl) ?_
    refine Opn.opens_last ?_ ?_ ?_
    · rfl
    · kernel_rfl
    · exact opn103
  exact Opn.opens_iso (fun x : S105 => (x.f0)) (fun y_ => (⟨y_⟩ : S105)) (fun _ => rfl) h
theorem opn49 : Opn.Opens Try.prog 49 (Kd.slice 105 k105) (fun xs_ => xs_.length ≤ maxLen ∧ ∀ x_ ∈ xs_, (x_.f0.length ≤ maxLen ∧ ∀ xx_ ∈ x_.f0, ((Lit.int .i64 xx_.f0).wf = true ∧ (Lit.int .i64 xx_.f1).wf = true))) := Opn.opens_slice Try.underlying49 (by kernel_rfl) opn105
set_option maxRecDepth 100000 in
theorem lifted (os : Os) (started : os.Started) (H : Type) (enc : TypeId × Value → H) :
    ReturnsInHanded {} Try.checked os 13 .any (Rows.fnExactSumOfSpec.pre6 enc Try.prog Try.f13 Rows.fnExactSumOfRow.domain false) (Rows.fnExactSumOfSpec.post enc Try.prog Try.f13 false true false false) := by
  refine returnsInHanded_of_change_sized (C := Try.checked) own started (by kernel_rfl) Try.func13
    (ChangeSpec.witness6 (enc := enc) (C := Try.checked) false ⟨#[], #[.slice none 0 0, .int .i64 0], []⟩ 8 (by kernel_rfl) (by kernel_rfl) (by kernel_rfl) (by kernel_rfl)) ?_
  intro W base args ds gs before hval0 hW hcnd hsz0 _
  have hval : ∀ (j : Nat) t v, Try.f13.params[j]? = some t → args[j]? = some v → Value.okWide Try.prog W .any base t v := hval0
  have hW' := hW
  obtain ⟨p, q, hA0, hV, rfl, hfz, hnd⟩ := hW
  have hA : DataW.TrodAll enc Try.prog W 0 (fun _ => true) true Try.f13.params.toList args.toList ds p := hA0
  rw [Try.params13] at hA hval
  obtain ⟨v0, vs0, d0, ds0, p0, q0, hargs, rfl, rfl, h0, r0⟩ := trodAll_cons hA
  obtain ⟨v1, vs1, d1, ds1, p1, q1, rfl, rfl, rfl, h1, r1⟩ := trodAll_cons r0
  obtain ⟨rfl, rfl, rfl⟩ := trodAll_nil r1
  obtain rfl : args = #[v0, v1] := by cases args; simp_all
  obtain ⟨rfl, rfl⟩ := trodVars_none hV
  obtain ⟨a0, len0, cap0, rfl⟩ := okWide_slice Try.underlying49 (hval 0 49 v0 rfl rfl)
  have lt0 : ∀ x ∈ p0, x.block < W.heap.size := by obtain ⟨m, hm⟩ := h0; exact DataW.trod_lt m _ _ _ hm
  obtain ⟨l0, rfl, hc0, hr0, hf0⟩ := Opn.opens_arg_slice opn49 h0
  obtain ⟨a1, rfl, rfl, rfl, w1⟩ := open_int Try.underlying3 (hval 1 3 v1 rfl rfl) h1
  refine (PQ.laws_FnExactSumOf.walk Pure.FnExactSumOf a0 cap0 l0 a1 W hr0 hc0 hf0 w1).mono fun e W' ⟨he, bel⟩ => ?_
  subst he
  exact ⟨_, rfl, _, _, _, [], _, [], hW', trodAll_mk1 (shut_bool Try.underlying4 _), (trodAll_cons_mk (Below.trod laidOut (by kernel_rfl) (of_decide_eq_true (by kernel_rfl)) h0 bel lt0) (trodAll_cons_mk (shut_int Try.underlying3 w1) trodAll_mk0)), rfl, bel.frame _, fun h => by cases h⟩
theorem over : Rows.fnExactSumOfRow.holds Try.pinned (OpenSpec.ofChange Rows.fnExactSumOfSpec) :=
  OpenClaim.holds_of_wide 13 Try.f13 rfl rfl rfl rfl rfl rfl rfl ⟨rfl, rfl, rfl, rfl, rfl⟩ rfl rfl rfl rfl rfl (by kernel_rfl) Try.func13 (by kernel_rfl)
    (of_decide_eq_true (by kernel_rfl)) (by unfold Func.isWrapper; first | (rw [if_pos (by decide +kernel)]; kernel_rfl) | (rw [if_neg (by decide +kernel)]; exact ⟨rfl, rfl⟩))
    (fun os started H enc _ => lifted os started H enc)
theorem proved : Rows.FnExactSumOfSaid := over
#print axioms proved
end Go.Proofs.Ytilgcfhnpnokpaa.fnExactSumOf
namespace Go.Proofs.Ytilgcfhnpnokpaa
/-- The row, under a short name, for the claim. -/
theorem fnExactSumOf_holds : Rows.FnExactSumOfSaid := fnExactSumOf.proved
end Go.Proofs.Ytilgcfhnpnokpaa
