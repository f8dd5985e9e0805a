-- Written by a program of this session (pprint.py) out of the translation's print; Lean checks it.
import Derived.Test.YtdlkmnohmdnogaaRows
import Derived.Test.YtdlkmnohmdnogaaOpens
import Derived.Test.YtdlkmnohmdnogaaPQlawsFnExactPathText
import Derived.Test.YtdlkmnohmdnogaaPureFnExactPathText
import Derived.WalkKit
import Derived.ProofKit
import Derived.OpenShut
import Derived.ShutString
import Derived.ChangeOld
import Derived.Below
import Derived.SizedLaws
namespace Go.Proofs.Ytdlkmnohmdnogaa.fnExactPathText
open Go.ChangeShapes Go.WideShapes Go.ChangeAt Go.RowKit Go.Proofs.Ytdlkmnohmdnogaa.PQ Go.Proofs.YtdlkmnohmdnogaaW.PrintWords
open Go.ChangeMaps (open_string shut_string)
set_option linter.unusedVariables false
theorem own : ownKnob Try.prog.godebug = Option.none := by kernel_rfl
theorem laidOut : laidOutB Try.prog = true := by kernel_rfl
theorem opn9 : Opn.Opens Try.prog 9 Kd.string (fun x_ => x_.size ≤ maxLen) := Opn.opens_string Try.underlying9
theorem opn22 : Opn.Opens Try.prog 22 (Kd.slice 9 Kd.string) (fun xs_ => xs_.length ≤ maxLen ∧ ∀ x_ ∈ xs_, x_.size ≤ maxLen) := Opn.opens_slice Try.underlying22 (by kernel_rfl) opn9
set_option maxRecDepth 100000 in
theorem lifted (os : Os) (started : os.Started) (H : Type) (enc : TypeId × Value → H) :
    ReturnsInHanded {} Try.checked os 3 .any (Rows.fnExactPathTextSpec.pre6 enc Try.prog Try.f3 Rows.fnExactPathTextRow.domain false) (Rows.fnExactPathTextSpec.post enc Try.prog Try.f3 false true false false) := by
  refine returnsInHanded_of_change_sized (C := Try.checked) own started (by kernel_rfl) Try.func3
    (ChangeSpec.witness6 (enc := enc) (C := Try.checked) false ⟨#[], #[.slice none 0 0], []⟩ 8 (by kernel_rfl) (by kernel_rfl) (by kernel_rfl) (by kernel_rfl)) ?_
  intro W base args ds gs before hval0 hW hcnd hsz0 _
  have hval : ∀ (j : Nat) t v, Try.f3.params[j]? = some t → args[j]? = some v → Value.okWide Try.prog W .any base t v := hval0
  have hW' := hW
  obtain ⟨p, q, hA0, hV, rfl, hfz, hnd⟩ := hW
  have hA : DataW.TrodAll enc Try.prog W 0 (fun _ => true) true Try.f3.params.toList args.toList ds p := hA0
  rw [Try.params3] at hA hval
  obtain ⟨v0, vs0, d0, ds0, p0, q0, hargs, rfl, rfl, h0, r0⟩ := trodAll_cons hA
  obtain ⟨rfl, rfl, rfl⟩ := trodAll_nil r0
  obtain rfl : args = #[v0] := by cases args; simp_all
  obtain ⟨rfl, rfl⟩ := trodVars_none hV
  obtain ⟨a0, len0, cap0, rfl⟩ := okWide_slice Try.underlying22 (hval 0 22 v0 rfl rfl)
  have lt0 : ∀ x ∈ p0, x.block < W.heap.size := by obtain ⟨m, hm⟩ := h0; exact DataW.trod_lt m _ _ _ hm
  obtain ⟨l0, rfl, hc0, hr0, hf0⟩ := Opn.opens_arg_slice opn22 h0
  refine (PQ.laws_FnExactPathText.walk Pure.FnExactPathText a0 cap0 l0 W hr0 hc0 hf0).mono fun e W' ⟨he, bel⟩ => ?_
  subst he
  exact ⟨_, rfl, _, _, _, [], _, [], hW', trodAll_mk1 (shut_bool Try.underlying4 _), (trodAll_cons_mk (Below.trod laidOut (by kernel_rfl) (of_decide_eq_true (by kernel_rfl)) h0 bel lt0) trodAll_mk0), rfl, bel.frame _, fun h => by cases h⟩
theorem over : Rows.fnExactPathTextRow.holds Try.pinned (OpenSpec.ofChange Rows.fnExactPathTextSpec) :=
  OpenClaim.holds_of_wide 3 Try.f3 rfl rfl rfl rfl rfl rfl rfl ⟨rfl, rfl, rfl, rfl, rfl⟩ rfl rfl rfl rfl rfl (by kernel_rfl) Try.func3 (by kernel_rfl)
    (of_decide_eq_true (by kernel_rfl)) (by unfold Func.isWrapper; first | (rw [if_pos (by decide +kernel)]; kernel_rfl) | (rw [if_neg (by decide +kernel)]; exact ⟨rfl, rfl⟩))
    (fun os started H enc _ => lifted os started H enc)
theorem proved : Rows.FnExactPathTextSaid := over
#print axioms proved
end Go.Proofs.Ytdlkmnohmdnogaa.fnExactPathText
namespace Go.Proofs.Ytdlkmnohmdnogaa
/-- The row, under a short name, for the claim. -/
theorem fnExactPathText_holds : Rows.FnExactPathTextSaid := fnExactPathText.proved
end Go.Proofs.Ytdlkmnohmdnogaa
