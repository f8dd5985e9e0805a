/- Several texts in one: what the claim's last text rests on. No conditions. -/
import Derived.Test.YtaomjndfjmfelaaRows
import Derived.Test.YtaomjndfjmfelaaMTb5
import Derived.Test.YtaomjndfjmfelaaMTb12
import Derived.WalkKit
import Derived.ProofKit
import Derived.OpenShut
import Derived.ShutString
import Derived.ChangeOld
import Derived.Below
import Derived.SizedLaws
section
-- Written by a program of this session (pprint.py) out of the translation's print; Lean checks it.
namespace Go.Proofs.Ytaomjndfjmfelaa.fnExactTopBest
open Go.ChangeShapes Go.WideShapes Go.ChangeAt Go.RowKit Go.Proofs.Ytaomjndfjmfelaa.PQ Go.Proofs.YtaomjndfjmfelaaW.PrintWords
open Go.ChangeMaps (open_string shut_string)
set_option linter.unusedVariables false
theorem own : ownKnob Try.prog.godebug = Option.none := by kernel_rfl
theorem laidOut : laidOutB Try.prog = true := by kernel_rfl
theorem opn3 : Opn.Opens Try.prog 3 (Kd.int .i64) (fun x_ => (Lit.int .i64 x_).wf = true) := Opn.opens_int Try.underlying3
theorem opn174 : Opn.Opens Try.prog 174 k174 (fun x_ => ((Lit.int .i64 x_.f0).wf = true ∧ (Lit.int .i64 x_.f1).wf = true)) := by
  have h : Opn.Opens Try.prog 174 (Kd.pair (Kd.int .i64) (Kd.int .i64)) (fun x_ => ((Lit.int .i64 x_.1).wf = true ∧ (Lit.int .i64 x_.2).wf = true)) := by
    refine Opn.opens_struct Try.underlying174 (by kernel_rfl) ?_
    refine Opn.opens_cons (a := (Kd.int .i64)) (b := (Kd.int .i64)) (fa := fun x_ => (Lit.int .i64 x_).wf = true) (fb := fun x_ => (Lit.int .i64 x_).wf = true) ?_ ?_ ?_ ?_
    · rfl
    · kernel_rfl
    · exact opn3
    refine Opn.opens_last ?_ ?_ ?_
    · rfl
    · kernel_rfl
    · exact opn3
  exact Opn.opens_iso (fun x : S174 => (x.f0, x.f1)) (fun y_ => (⟨y_.1, y_.2⟩ : S174)) (fun _ => rfl) h
theorem opn117 : Opn.Opens Try.prog 117 (Kd.slice 174 k174) (fun xs_ => xs_.length ≤ maxLen ∧ ∀ x_ ∈ xs_, ((Lit.int .i64 x_.f0).wf = true ∧ (Lit.int .i64 x_.f1).wf = true)) := Opn.opens_slice Try.underlying117 (by kernel_rfl) opn174
theorem opn119 : Opn.Opens Try.prog 119 k119 (fun x_ => (x_.f0.length ≤ maxLen ∧ ∀ xx_ ∈ x_.f0, ((Lit.int .i64 xx_.f0).wf = true ∧ (Lit.int .i64 xx_.f1).wf = true))) := by
  have h : Opn.Opens Try.prog 119 (Kd.slice 174 k174) (fun x_ => (x_.length ≤ maxLen ∧ ∀ xx_ ∈ x_, ((Lit.int .i64 xx_.f0).wf = true ∧ (Lit.int .i64 xx_.f1).wf = true))) := by
    refine Opn.opens_struct Try.underlying119 (by kernel_rfl) ?_
    refine Opn.opens_last ?_ ?_ ?_
    · rfl
    · kernel_rfl
    · exact opn117
  exact Opn.opens_iso (fun x : S119 => (x.f0)) (fun y_ => (⟨y_⟩ : S119)) (fun _ => rfl) h
theorem opn59 : Opn.Opens Try.prog 59 (Kd.slice 119 k119) (fun xs_ => xs_.length ≤ maxLen ∧ ∀ x_ ∈ xs_, (x_.f0.length ≤ maxLen ∧ ∀ xx_ ∈ x_.f0, ((Lit.int .i64 xx_.f0).wf = true ∧ (Lit.int .i64 xx_.f1).wf = true))) := Opn.opens_slice Try.underlying59 (by kernel_rfl) opn119
set_option maxRecDepth 100000 in
theorem lifted (os : Os) (started : os.Started) (H : Type) (enc : TypeId × Value → H) :
    ReturnsInHanded {} Try.checked os 9 .any (Rows.fnExactTopBestSpec.pre6 enc Try.prog Try.f9 Rows.fnExactTopBestRow.domain false) (Rows.fnExactTopBestSpec.post enc Try.prog Try.f9 false true false false) := by
  refine returnsInHanded_of_change_sized (C := Try.checked) own started (by kernel_rfl) Try.func9
    (ChangeSpec.witness6 (enc := enc) (C := Try.checked) false ⟨#[], #[.slice none 0 0, .int .i64 0], []⟩ 8 (by kernel_rfl) (by kernel_rfl) (by kernel_rfl) (by kernel_rfl)) ?_
  intro W base args ds gs before hval0 hW hcnd hsz0 _
  have hval : ∀ (j : Nat) t v, Try.f9.params[j]? = some t → args[j]? = some v → Value.okWide Try.prog W .any base t v := hval0
  have hW' := hW
  obtain ⟨p, q, hA0, hV, rfl, hfz, hnd⟩ := hW
  have hA : DataW.TrodAll enc Try.prog W 0 (fun _ => true) true Try.f9.params.toList args.toList ds p := hA0
  rw [Try.params9] at hA hval
  obtain ⟨v0, vs0, d0, ds0, p0, q0, hargs, rfl, rfl, h0, r0⟩ := trodAll_cons hA
  obtain ⟨v1, vs1, d1, ds1, p1, q1, rfl, rfl, rfl, h1, r1⟩ := trodAll_cons r0
  obtain ⟨rfl, rfl, rfl⟩ := trodAll_nil r1
  obtain rfl : args = #[v0, v1] := by cases args; simp_all
  obtain ⟨rfl, rfl⟩ := trodVars_none hV
  obtain ⟨a0, len0, cap0, rfl⟩ := okWide_slice Try.underlying59 (hval 0 59 v0 rfl rfl)
  have lt0 : ∀ x ∈ p0, x.block < W.heap.size := by obtain ⟨m, hm⟩ := h0; exact DataW.trod_lt m _ _ _ hm
  obtain ⟨l0, rfl, hc0, hr0, hf0⟩ := Opn.opens_arg_slice opn59 h0
  obtain ⟨a1, rfl, rfl, rfl, w1⟩ := open_int Try.underlying3 (hval 1 3 v1 rfl rfl) h1
  refine (PQ.laws_FnExactTopBest.walk Pure.FnExactTopBest a0 cap0 l0 a1 W hr0 hc0 hf0 w1).mono fun e W' ⟨he, bel⟩ => ?_
  subst he
  exact ⟨_, rfl, _, _, _, [], _, [], hW', trodAll_mk1 (shut_bool Try.underlying4 _), (trodAll_cons_mk (Below.trod laidOut (by kernel_rfl) (of_decide_eq_true (by kernel_rfl)) h0 bel lt0) (trodAll_cons_mk (shut_int Try.underlying3 w1) trodAll_mk0)), rfl, bel.frame _, fun h => by cases h⟩
theorem over : Rows.fnExactTopBestRow.holds Try.pinned (OpenSpec.ofChange Rows.fnExactTopBestSpec) :=
  OpenClaim.holds_of_wide 9 Try.f9 rfl rfl rfl rfl rfl rfl rfl ⟨rfl, rfl, rfl, rfl, rfl⟩ rfl rfl rfl rfl rfl (by kernel_rfl) Try.func9 (by kernel_rfl)
    (of_decide_eq_true (by kernel_rfl)) (by unfold Func.isWrapper; first | (rw [if_pos (by decide +kernel)]; kernel_rfl) | (rw [if_neg (by decide +kernel)]; exact ⟨rfl, rfl⟩))
    (fun os started H enc _ => lifted os started H enc)
theorem proved : Rows.FnExactTopBestSaid := over
#print axioms proved
end Go.Proofs.Ytaomjndfjmfelaa.fnExactTopBest
namespace Go.Proofs.Ytaomjndfjmfelaa
/-- The row, under a short name, for the claim. -/
theorem fnExactTopBest_holds : Rows.FnExactTopBestSaid := fnExactTopBest.proved
end Go.Proofs.Ytaomjndfjmfelaa
end
