/- Several texts in one: what the claim's last text rests on. No conditions. -/
import Derived.Test.YtcngebfcpobnnaaRows
import Derived.Test.YtcngebfcpobnnaaMRh6
import Derived.Test.YtcngebfcpobnnaaMRh21
import Derived.WalkKit
import Derived.ProofKit
import Derived.OpenShut
import Derived.ShutString
import Derived.ChangeOld
import Derived.Below
import Derived.SizedLaws
section
-- Written by a program of this session (pprint.py) out of the translation's print; Lean checks it.
namespace Go.Proofs.Ytcngebfcpobnnaa.fnExactCutName
open Go.ChangeShapes Go.WideShapes Go.ChangeAt Go.RowKit Go.Proofs.Ytcngebfcpobnnaa.PQ Go.Proofs.YtcngebfcpobnnaaW.PrintWords
open Go.ChangeMaps (open_string shut_string)
set_option linter.unusedVariables false
theorem own : ownKnob Try.prog.godebug = Option.none := by kernel_rfl
theorem laidOut : laidOutB Try.prog = true := by kernel_rfl
theorem opn9 : Opn.Opens Try.prog 9 Kd.string (fun x_ => x_.size ≤ maxLen) := Opn.opens_string Try.underlying9
theorem opn4 : Opn.Opens Try.prog 4 Kd.bool (fun _ => True) := Opn.opens_bool Try.underlying4
theorem opn3 : Opn.Opens Try.prog 3 (Kd.int .i64) (fun x_ => (Lit.int .i64 x_).wf = true) := Opn.opens_int Try.underlying3
theorem opn80 : Opn.Opens Try.prog 80 k80 (fun x_ => (x_.f0.size ≤ maxLen ∧ (True ∧ (Lit.int .i64 x_.f2).wf = true))) := by
  have h : Opn.Opens Try.prog 80 (Kd.pair Kd.string (Kd.pair Kd.bool (Kd.int .i64))) (fun x_ => (x_.1.size ≤ maxLen ∧ (True ∧ (Lit.int .i64 x_.2.2).wf = true))) := by
    refine Opn.opens_struct Try.underlying80 (by kernel_rfl) ?_
    refine Opn.opens_cons (a := Kd.string) (b := (Kd.pair Kd.bool (Kd.int .i64))) (fa := fun x_ => x_.size ≤ maxLen) (fb := fun x_ => (True ∧ (Lit.int .i64 x_.2).wf = true)) ?_ ?_ ?_ ?_
    · rfl
    · kernel_rfl
    · exact opn9
    refine Opn.opens_cons (a := Kd.bool) (b := (Kd.int .i64)) (fa := fun x_ => True) (fb := fun x_ => (Lit.int .i64 x_).wf = true) ?_ ?_ ?_ ?_
    · rfl
    · kernel_rfl
    · exact opn4
    refine Opn.opens_last ?_ ?_ ?_
    · rfl
    · kernel_rfl
    · exact opn3
  exact Opn.opens_iso (fun x : S80 => (x.f0, x.f1, x.f2)) (fun y_ => (⟨y_.1, y_.2.1, y_.2.2⟩ : S80)) (fun _ => rfl) h
theorem opn34 : Opn.Opens Try.prog 34 (Kd.slice 80 k80) (fun xs_ => xs_.length ≤ maxLen ∧ ∀ x_ ∈ xs_, (x_.f0.size ≤ maxLen ∧ (True ∧ (Lit.int .i64 x_.f2).wf = true))) := Opn.opens_slice Try.underlying34 (by kernel_rfl) opn80
theorem ag0 : Opn.Opens Try.prog 36 (Kd.slice 80 k80) (fun x_ => (x_.length ≤ maxLen ∧ ∀ xx_ ∈ x_, (xx_.f0.size ≤ maxLen ∧ (True ∧ (Lit.int .i64 xx_.f2).wf = true)))) := by
  refine Opn.opens_struct Try.underlying36 (by kernel_rfl) ?_
  refine Opn.opens_last ?_ ?_ ?_
  · rfl
  · kernel_rfl
  · exact opn34
set_option maxRecDepth 100000 in
theorem lifted (os : Os) (started : os.Started) (H : Type) (enc : TypeId × Value → H) :
    ReturnsInHanded {} Try.checked os 9 .any (Rows.fnExactCutNameSpec.pre6 enc Try.prog Try.f9 Rows.fnExactCutNameRow.domain false) (Rows.fnExactCutNameSpec.post enc Try.prog Try.f9 false true false false) := by
  refine returnsInHanded_of_change_sized (C := Try.checked) own started (by kernel_rfl) Try.func9
    (ChangeSpec.witness6 (enc := enc) (C := Try.checked) false ⟨#[], #[.agg #[.slice none 0 0], .string ByteArray.empty], []⟩ 8 (by kernel_rfl) (by kernel_rfl) (by kernel_rfl) (by kernel_rfl)) ?_
  intro W base args ds gs before hval0 hW hcnd hsz0 _
  have hval : ∀ (j : Nat) t v, Try.f9.params[j]? = some t → args[j]? = some v → Value.okWide Try.prog W .any base t v := hval0
  have hW' := hW
  obtain ⟨p, q, hA0, hV, rfl, hfz, hnd⟩ := hW
  have hA : DataW.TrodAll enc Try.prog W 0 (fun _ => true) true Try.f9.params.toList args.toList ds p := hA0
  rw [Try.params9] at hA hval
  obtain ⟨v0, vs0, d0, ds0, p0, q0, hargs, rfl, rfl, h0, r0⟩ := trodAll_cons hA
  obtain ⟨v1, vs1, d1, ds1, p1, q1, rfl, rfl, rfl, h1, r1⟩ := trodAll_cons r0
  obtain ⟨rfl, rfl, rfl⟩ := trodAll_nil r1
  obtain rfl : args = #[v0, v1] := by cases args; simp_all
  obtain ⟨rfl, rfl⟩ := trodVars_none hV
  obtain ⟨cs0, rfl, _⟩ := okWide_struct Try.underlying36 (hval 0 36 v0 rfl rfl)
  have lt0 : ∀ x ∈ p0, x.block < W.heap.size := by obtain ⟨m, hm⟩ := h0; exact DataW.trod_lt m _ _ _ hm
  obtain ⟨x0, hK0, hf0⟩ := Opn.opens_arg_agg ag0 h0
  obtain ⟨A0_0, c0_0, E0_0, hc0_0, hr0_0⟩ := hK0
  obtain rfl : cs0 = #[.slice A0_0 x0.length c0_0] := by
    apply Array.ext'
    simp_all
  obtain ⟨a1, rfl, rfl, rfl, y1⟩ := open_string Try.underlying9 (hval 1 9 v1 rfl rfl) h1
  refine (PQ.laws_FnExactCutName.walk Pure.FnExactCutName A0_0 c0_0 x0 a1 W hr0_0 hc0_0 hf0 y1).mono fun e W' ⟨he, bel⟩ => ?_
  subst he
  exact ⟨_, rfl, _, _, _, [], _, [], hW', trodAll_mk1 (shut_bool Try.underlying4 _), (trodAll_cons_mk (Below.trod laidOut (by kernel_rfl) (of_decide_eq_true (by kernel_rfl)) h0 bel lt0) (trodAll_cons_mk (shut_string Try.underlying9 y1) trodAll_mk0)), rfl, bel.frame _, fun h => by cases h⟩
theorem over : Rows.fnExactCutNameRow.holds Try.pinned (OpenSpec.ofChange Rows.fnExactCutNameSpec) :=
  OpenClaim.holds_of_wide 9 Try.f9 rfl rfl rfl rfl rfl rfl rfl ⟨rfl, rfl, rfl, rfl, rfl⟩ rfl rfl rfl rfl rfl (by kernel_rfl) Try.func9 (by kernel_rfl)
    (of_decide_eq_true (by kernel_rfl)) (by unfold Func.isWrapper; first | (rw [if_pos (by decide +kernel)]; kernel_rfl) | (rw [if_neg (by decide +kernel)]; exact ⟨rfl, rfl⟩))
    (fun os started H enc _ => lifted os started H enc)
theorem proved : Rows.FnExactCutNameSaid := over
#print axioms proved
end Go.Proofs.Ytcngebfcpobnnaa.fnExactCutName
namespace Go.Proofs.Ytcngebfcpobnnaa
/-- The row, under a short name, for the claim. -/
theorem fnExactCutName_holds : Rows.FnExactCutNameSaid := fnExactCutName.proved
end Go.Proofs.Ytcngebfcpobnnaa
end
