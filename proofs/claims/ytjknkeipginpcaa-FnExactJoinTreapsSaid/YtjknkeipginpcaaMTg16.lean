/- Several texts in one: what the claim's last text rests on. No conditions. -/
import Derived.Test.YtjknkeipginpcaaRows
import Derived.Test.YtjknkeipginpcaaMTg4
import Derived.Test.YtjknkeipginpcaaMTg15
import Derived.WalkKit
import Derived.ProofKit
import Derived.OpenShut
import Derived.ShutString
import Derived.ChangeOld
import Derived.Below
import Derived.SizedLaws
section
-- Written by a program of this session (pprint.py) out of the translation's print; Lean checks it.
namespace Go.Proofs.Ytjknkeipginpcaa.fnExactJoinTreaps
open Go.ChangeShapes Go.WideShapes Go.ChangeAt Go.RowKit Go.Proofs.Ytjknkeipginpcaa.PQ Go.Proofs.YtjknkeipginpcaaW.PrintWords
open Go.ChangeMaps (open_string shut_string)
set_option linter.unusedVariables false
theorem own : ownKnob Try.prog.godebug = Option.none := by kernel_rfl
theorem laidOut : laidOutB Try.prog = true := by kernel_rfl
theorem opn9 : Opn.Opens Try.prog 9 Kd.string (fun x_ => x_.size ≤ maxLen) := Opn.opens_string Try.underlying9
theorem opn3 : Opn.Opens Try.prog 3 (Kd.int .i64) (fun x_ => (Lit.int .i64 x_).wf = true) := Opn.opens_int Try.underlying3
theorem opn99 : Opn.Opens Try.prog 99 k99 (fun x_ => (x_.f0.size ≤ maxLen ∧ (x_.f1.size ≤ maxLen ∧ ((Lit.int .i64 x_.f2).wf = true ∧ (Lit.int .i64 x_.f3).wf = true)))) := by
  have h : Opn.Opens Try.prog 99 (Kd.pair Kd.string (Kd.pair Kd.string (Kd.pair (Kd.int .i64) (Kd.int .i64)))) (fun x_ => (x_.1.size ≤ maxLen ∧ (x_.2.1.size ≤ maxLen ∧ ((Lit.int .i64 x_.2.2.1).wf = true ∧ (Lit.int .i64 x_.2.2.2).wf = true)))) := by
    refine Opn.opens_struct Try.underlying99 (by kernel_rfl) ?_
    refine Opn.opens_cons (a := Kd.string) (b := (Kd.pair Kd.string (Kd.pair (Kd.int .i64) (Kd.int .i64)))) (fa := fun x_ => x_.size ≤ maxLen) (fb := fun x_ => (x_.1.size ≤ maxLen ∧ ((Lit.int .i64 x_.2.1).wf = true ∧ (Lit.int .i64 x_.2.2).wf = true))) ?_ ?_ ?_ ?_
    · rfl
    · kernel_rfl
    · exact opn9
    refine Opn.opens_cons (a := Kd.string) (b := (Kd.pair (Kd.int .i64) (Kd.int .i64))) (fa := fun x_ => x_.size ≤ maxLen) (fb := fun x_ => ((Lit.int .i64 x_.1).wf = true ∧ (Lit.int .i64 x_.2).wf = true)) ?_ ?_ ?_ ?_
    · rfl
    · kernel_rfl
    · exact opn9
    refine Opn.opens_cons (a := (Kd.int .i64)) (b := (Kd.int .i64)) (fa := fun x_ => (Lit.int .i64 x_).wf = true) (fb := fun x_ => (Lit.int .i64 x_).wf = true) ?_ ?_ ?_ ?_
    · rfl
    · kernel_rfl
    · exact opn3
    refine Opn.opens_last ?_ ?_ ?_
    · rfl
    · kernel_rfl
    · exact opn3
  exact Opn.opens_iso (fun x : S99 => (x.f0, x.f1, x.f2, x.f3)) (fun y_ => (⟨y_.1, y_.2.1, y_.2.2.1, y_.2.2.2⟩ : S99)) (fun _ => rfl) h
theorem opn22 : Opn.Opens Try.prog 22 (Kd.slice 99 k99) (fun xs_ => xs_.length ≤ maxLen ∧ ∀ x_ ∈ xs_, (x_.f0.size ≤ maxLen ∧ (x_.f1.size ≤ maxLen ∧ ((Lit.int .i64 x_.f2).wf = true ∧ (Lit.int .i64 x_.f3).wf = true)))) := Opn.opens_slice Try.underlying22 (by kernel_rfl) opn99
theorem ag0 : Opn.Opens Try.prog 24 (Kd.slice 99 k99) (fun x_ => (x_.length ≤ maxLen ∧ ∀ xx_ ∈ x_, (xx_.f0.size ≤ maxLen ∧ (xx_.f1.size ≤ maxLen ∧ ((Lit.int .i64 xx_.f2).wf = true ∧ (Lit.int .i64 xx_.f3).wf = true))))) := by
  refine Opn.opens_struct Try.underlying24 (by kernel_rfl) ?_
  refine Opn.opens_last ?_ ?_ ?_
  · rfl
  · kernel_rfl
  · exact opn22
theorem ag1 : Opn.Opens Try.prog 24 (Kd.slice 99 k99) (fun x_ => (x_.length ≤ maxLen ∧ ∀ xx_ ∈ x_, (xx_.f0.size ≤ maxLen ∧ (xx_.f1.size ≤ maxLen ∧ ((Lit.int .i64 xx_.f2).wf = true ∧ (Lit.int .i64 xx_.f3).wf = true))))) := by
  refine Opn.opens_struct Try.underlying24 (by kernel_rfl) ?_
  refine Opn.opens_last ?_ ?_ ?_
  · rfl
  · kernel_rfl
  · exact opn22
set_option maxRecDepth 100000 in
theorem lifted (os : Os) (started : os.Started) (H : Type) (enc : TypeId × Value → H) :
    ReturnsInHanded {} Try.checked os 7 .any (Rows.fnExactJoinTreapsSpec.pre6 enc Try.prog Try.f7 Rows.fnExactJoinTreapsRow.domain false) (Rows.fnExactJoinTreapsSpec.post enc Try.prog Try.f7 false true false false) := by
  refine returnsInHanded_of_change_sized (C := Try.checked) own started (by kernel_rfl) Try.func7
    (ChangeSpec.witness6 (enc := enc) (C := Try.checked) false ⟨#[], #[.agg #[.slice none 0 0], .agg #[.slice none 0 0]], []⟩ 8 (by kernel_rfl) (by kernel_rfl) (by kernel_rfl) (by kernel_rfl)) ?_
  intro W base args ds gs before hval0 hW hcnd hsz0 _
  have hval : ∀ (j : Nat) t v, Try.f7.params[j]? = some t → args[j]? = some v → Value.okWide Try.prog W .any base t v := hval0
  have hW' := hW
  obtain ⟨p, q, hA0, hV, rfl, hfz, hnd⟩ := hW
  have hA : DataW.TrodAll enc Try.prog W 0 (fun _ => true) true Try.f7.params.toList args.toList ds p := hA0
  rw [Try.params7] at hA hval
  obtain ⟨v0, vs0, d0, ds0, p0, q0, hargs, rfl, rfl, h0, r0⟩ := trodAll_cons hA
  obtain ⟨v1, vs1, d1, ds1, p1, q1, rfl, rfl, rfl, h1, r1⟩ := trodAll_cons r0
  obtain ⟨rfl, rfl, rfl⟩ := trodAll_nil r1
  obtain rfl : args = #[v0, v1] := by cases args; simp_all
  obtain ⟨rfl, rfl⟩ := trodVars_none hV
  obtain ⟨cs0, rfl, _⟩ := okWide_struct Try.underlying24 (hval 0 24 v0 rfl rfl)
  have lt0 : ∀ x ∈ p0, x.block < W.heap.size := by obtain ⟨m, hm⟩ := h0; exact DataW.trod_lt m _ _ _ hm
  obtain ⟨x0, hK0, hf0⟩ := Opn.opens_arg_agg ag0 h0
  obtain ⟨A0_0, c0_0, E0_0, hc0_0, hr0_0⟩ := hK0
  obtain rfl : cs0 = #[.slice A0_0 x0.length c0_0] := by
    apply Array.ext'
    simp_all
  obtain ⟨cs1, rfl, _⟩ := okWide_struct Try.underlying24 (hval 1 24 v1 rfl rfl)
  have lt1 : ∀ x ∈ p1, x.block < W.heap.size := by obtain ⟨m, hm⟩ := h1; exact DataW.trod_lt m _ _ _ hm
  obtain ⟨x1, hK1, hf1⟩ := Opn.opens_arg_agg ag1 h1
  obtain ⟨A1_0, c1_0, E1_0, hc1_0, hr1_0⟩ := hK1
  obtain rfl : cs1 = #[.slice A1_0 x1.length c1_0] := by
    apply Array.ext'
    simp_all
  refine (PQ.laws_FnExactJoinTreaps.walk Pure.FnExactJoinTreaps A0_0 c0_0 x0 A1_0 c1_0 x1 W hr0_0 hc0_0 hf0 hr1_0 hc1_0 hf1).mono fun e W' ⟨he, bel⟩ => ?_
  subst he
  exact ⟨_, rfl, _, _, _, [], _, [], hW', trodAll_mk1 (shut_bool Try.underlying4 _), (trodAll_cons_mk (Below.trod laidOut (by kernel_rfl) (of_decide_eq_true (by kernel_rfl)) h0 bel lt0) (trodAll_cons_mk (Below.trod laidOut (by kernel_rfl) (of_decide_eq_true (by kernel_rfl)) h1 bel lt1) trodAll_mk0)), rfl, bel.frame _, fun h => by cases h⟩
theorem over : Rows.fnExactJoinTreapsRow.holds Try.pinned (OpenSpec.ofChange Rows.fnExactJoinTreapsSpec) :=
  OpenClaim.holds_of_wide 7 Try.f7 rfl rfl rfl rfl rfl rfl rfl ⟨rfl, rfl, rfl, rfl, rfl⟩ rfl rfl rfl rfl rfl (by kernel_rfl) Try.func7 (by kernel_rfl)
    (of_decide_eq_true (by kernel_rfl)) (by unfold Func.isWrapper; first | (rw [if_pos (by decide +kernel)]; kernel_rfl) | (rw [if_neg (by decide +kernel)]; exact ⟨rfl, rfl⟩))
    (fun os started H enc _ => lifted os started H enc)
theorem proved : Rows.FnExactJoinTreapsSaid := over
#print axioms proved
end Go.Proofs.Ytjknkeipginpcaa.fnExactJoinTreaps
namespace Go.Proofs.Ytjknkeipginpcaa
/-- The row, under a short name, for the claim. -/
theorem fnExactJoinTreaps_holds : Rows.FnExactJoinTreapsSaid := fnExactJoinTreaps.proved
end Go.Proofs.Ytjknkeipginpcaa
end
