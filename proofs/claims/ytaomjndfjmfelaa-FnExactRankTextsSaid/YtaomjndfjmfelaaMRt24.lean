/- Several texts in one: what the claim's last text rests on. No conditions. -/
import Derived.Test.YtaomjndfjmfelaaRows
import Derived.Test.YtaomjndfjmfelaaMRt5
import Derived.Test.YtaomjndfjmfelaaMRt23
import Derived.WalkKit
import Derived.ProofKit
import Derived.OpenShut
import Derived.ShutString
import Derived.ChangeOld
import Derived.Below
import Derived.SizedLaws
section
-- Written by a program of this session (pprint.py) out of the translation's print; Lean checks it.
namespace Go.Proofs.Ytaomjndfjmfelaa.fnExactRankTexts
open Go.ChangeShapes Go.WideShapes Go.ChangeAt Go.RowKit Go.Proofs.Ytaomjndfjmfelaa.PQ Go.Proofs.YtaomjndfjmfelaaW.PrintWords
open Go.ChangeMaps (open_string shut_string)
set_option linter.unusedVariables false
theorem own : ownKnob Try.prog.godebug = Option.none := by kernel_rfl
theorem laidOut : laidOutB Try.prog = true := by kernel_rfl
theorem opn3 : Opn.Opens Try.prog 3 (Kd.int .i64) (fun x_ => (Lit.int .i64 x_).wf = true) := Opn.opens_int Try.underlying3
theorem opn9 : Opn.Opens Try.prog 9 Kd.string (fun x_ => x_.size ≤ maxLen) := Opn.opens_string Try.underlying9
theorem opn182 : Opn.Opens Try.prog 182 k182 (fun x_ => ((Lit.int .i64 x_.f0).wf = true ∧ (Lit.int .i64 x_.f1).wf = true)) := by
  have h : Opn.Opens Try.prog 182 (Kd.pair (Kd.int .i64) (Kd.int .i64)) (fun x_ => ((Lit.int .i64 x_.1).wf = true ∧ (Lit.int .i64 x_.2).wf = true)) := by
    refine Opn.opens_struct Try.underlying182 (by kernel_rfl) ?_
    refine Opn.opens_cons (a := (Kd.int .i64)) (b := (Kd.int .i64)) (fa := fun x_ => (Lit.int .i64 x_).wf = true) (fb := fun x_ => (Lit.int .i64 x_).wf = true) ?_ ?_ ?_ ?_
    · rfl
    · kernel_rfl
    · exact opn3
    refine Opn.opens_last ?_ ?_ ?_
    · rfl
    · kernel_rfl
    · exact opn3
  exact Opn.opens_iso (fun x : S182 => (x.f0, x.f1)) (fun y_ => (⟨y_.1, y_.2⟩ : S182)) (fun _ => rfl) h
theorem opn138 : Opn.Opens Try.prog 138 (Kd.slice 182 k182) (fun xs_ => xs_.length ≤ maxLen ∧ ∀ x_ ∈ xs_, ((Lit.int .i64 x_.f0).wf = true ∧ (Lit.int .i64 x_.f1).wf = true)) := Opn.opens_slice Try.underlying138 (by kernel_rfl) opn182
theorem opn140 : Opn.Opens Try.prog 140 k140 (fun x_ => (x_.f0.size ≤ maxLen ∧ (x_.f1.length ≤ maxLen ∧ ∀ xx_ ∈ x_.f1, ((Lit.int .i64 xx_.f0).wf = true ∧ (Lit.int .i64 xx_.f1).wf = true)))) := by
  have h : Opn.Opens Try.prog 140 (Kd.pair Kd.string (Kd.slice 182 k182)) (fun x_ => (x_.1.size ≤ maxLen ∧ (x_.2.length ≤ maxLen ∧ ∀ xx_ ∈ x_.2, ((Lit.int .i64 xx_.f0).wf = true ∧ (Lit.int .i64 xx_.f1).wf = true)))) := by
    refine Opn.opens_struct Try.underlying140 (by kernel_rfl) ?_
    refine Opn.opens_cons (a := Kd.string) (b := (Kd.slice 182 k182)) (fa := fun x_ => x_.size ≤ maxLen) (fb := fun x_ => (x_.length ≤ maxLen ∧ ∀ xx_ ∈ x_, ((Lit.int .i64 xx_.f0).wf = true ∧ (Lit.int .i64 xx_.f1).wf = true))) ?_ ?_ ?_ ?_
    · rfl
    · kernel_rfl
    · exact opn9
    refine Opn.opens_last ?_ ?_ ?_
    · rfl
    · kernel_rfl
    · exact opn138
  exact Opn.opens_iso (fun x : S140 => (x.f0, x.f1)) (fun y_ => (⟨y_.1, y_.2⟩ : S140)) (fun _ => rfl) h
theorem opn22 : Opn.Opens Try.prog 22 (Kd.slice 140 k140) (fun xs_ => xs_.length ≤ maxLen ∧ ∀ x_ ∈ xs_, (x_.f0.size ≤ maxLen ∧ (x_.f1.length ≤ maxLen ∧ ∀ xx_ ∈ x_.f1, ((Lit.int .i64 xx_.f0).wf = true ∧ (Lit.int .i64 xx_.f1).wf = true)))) := Opn.opens_slice Try.underlying22 (by kernel_rfl) opn140
theorem ag0 : Opn.Opens Try.prog 24 (Kd.pair (Kd.int .i64) (Kd.slice 140 k140)) (fun x_ => ((Lit.int .i64 x_.1).wf = true ∧ (x_.2.length ≤ maxLen ∧ ∀ xx_ ∈ x_.2, (xx_.f0.size ≤ maxLen ∧ (xx_.f1.length ≤ maxLen ∧ ∀ xxx_ ∈ xx_.f1, ((Lit.int .i64 xxx_.f0).wf = true ∧ (Lit.int .i64 xxx_.f1).wf = true)))))) := by
  refine Opn.opens_struct Try.underlying24 (by kernel_rfl) ?_
  refine Opn.opens_cons (a := (Kd.int .i64)) (b := (Kd.slice 140 k140)) (fa := fun x_ => (Lit.int .i64 x_).wf = true) (fb := fun x_ => (x_.length ≤ maxLen ∧ ∀ xx_ ∈ x_, (xx_.f0.size ≤ maxLen ∧ (xx_.f1.length ≤ maxLen ∧ ∀ xxx_ ∈ xx_.f1, ((Lit.int .i64 xxx_.f0).wf = true ∧ (Lit.int .i64 xxx_.f1).wf = true))))) ?_ ?_ ?_ ?_
  · rfl
  · kernel_rfl
  · exact opn3
  refine Opn.opens_last ?_ ?_ ?_
  · rfl
  · kernel_rfl
  · exact opn22
theorem opn25 : Opn.Opens Try.prog 25 (Kd.slice 9 Kd.string) (fun xs_ => xs_.length ≤ maxLen ∧ ∀ x_ ∈ xs_, x_.size ≤ maxLen) := Opn.opens_slice Try.underlying25 (by kernel_rfl) opn9
set_option maxRecDepth 100000 in
theorem lifted (os : Os) (started : os.Started) (H : Type) (enc : TypeId × Value → H) :
    ReturnsInHanded {} Try.checked os 13 .any (Rows.fnExactRankTextsSpec.pre6 enc Try.prog Try.f13 Rows.fnExactRankTextsRow.domain false) (Rows.fnExactRankTextsSpec.post enc Try.prog Try.f13 false true false false) := by
  refine returnsInHanded_of_change_sized (C := Try.checked) own started (by kernel_rfl) Try.func13
    (ChangeSpec.witness6 (enc := enc) (C := Try.checked) false ⟨#[], #[.agg #[.int .i64 0, .slice none 0 0], .slice none 0 0, .int .i64 0], []⟩ 8 (by kernel_rfl) (by kernel_rfl) (by kernel_rfl) (by kernel_rfl)) ?_
  intro W base args ds gs before hval0 hW hcnd hsz0 _
  have hval : ∀ (j : Nat) t v, Try.f13.params[j]? = some t → args[j]? = some v → Value.okWide Try.prog W .any base t v := hval0
  have hW' := hW
  obtain ⟨p, q, hA0, hV, rfl, hfz, hnd⟩ := hW
  have hA : DataW.TrodAll enc Try.prog W 0 (fun _ => true) true Try.f13.params.toList args.toList ds p := hA0
  rw [Try.params13] at hA hval
  obtain ⟨v0, vs0, d0, ds0, p0, q0, hargs, rfl, rfl, h0, r0⟩ := trodAll_cons hA
  obtain ⟨v1, vs1, d1, ds1, p1, q1, rfl, rfl, rfl, h1, r1⟩ := trodAll_cons r0
  obtain ⟨v2, vs2, d2, ds2, p2, q2, rfl, rfl, rfl, h2, r2⟩ := trodAll_cons r1
  obtain ⟨rfl, rfl, rfl⟩ := trodAll_nil r2
  obtain rfl : args = #[v0, v1, v2] := by cases args; simp_all
  obtain ⟨rfl, rfl⟩ := trodVars_none hV
  obtain ⟨cs0, rfl, _⟩ := okWide_struct Try.underlying24 (hval 0 24 v0 rfl rfl)
  have lt0 : ∀ x ∈ p0, x.block < W.heap.size := by obtain ⟨m, hm⟩ := h0; exact DataW.trod_lt m _ _ _ hm
  obtain ⟨x0, hK0, hf0⟩ := Opn.opens_arg_agg ag0 h0
  obtain ⟨c0_0_, d0_0_, e0_0_, g0_0, t0_0_⟩ := hK0
  have E0_0 : c0_0_ = [.int .i64 x0.1] := g0_0
  obtain ⟨A0_1, c0_1, E0_1, hc0_1, hr0_1⟩ := t0_0_
  obtain rfl : cs0 = #[.int .i64 x0.1, .slice A0_1 x0.2.length c0_1] := by
    apply Array.ext'
    simp_all
  obtain ⟨a1, len1, cap1, rfl⟩ := okWide_slice Try.underlying25 (hval 1 25 v1 rfl rfl)
  have lt1 : ∀ x ∈ p1, x.block < W.heap.size := by obtain ⟨m, hm⟩ := h1; exact DataW.trod_lt m _ _ _ hm
  obtain ⟨l1, rfl, hc1, hr1, hf1⟩ := Opn.opens_arg_slice opn25 h1
  obtain ⟨a2, rfl, rfl, rfl, w2⟩ := open_int Try.underlying3 (hval 2 3 v2 rfl rfl) h2
  refine (PQ.laws_FnExactRankTexts.walk Pure.FnExactRankTexts x0.1 A0_1 c0_1 x0.2 a1 cap1 l1 a2 W hf0.1 hr0_1 hc0_1 hf0.2 hr1 hc1 hf1 w2).mono fun e W' ⟨he, bel⟩ => ?_
  subst he
  exact ⟨_, rfl, _, _, _, [], _, [], hW', trodAll_mk1 (shut_bool Try.underlying4 _), (trodAll_cons_mk (Below.trod laidOut (by kernel_rfl) (of_decide_eq_true (by kernel_rfl)) h0 bel lt0) (trodAll_cons_mk (Below.trod laidOut (by kernel_rfl) (of_decide_eq_true (by kernel_rfl)) h1 bel lt1) (trodAll_cons_mk (shut_int Try.underlying3 w2) trodAll_mk0))), rfl, bel.frame _, fun h => by cases h⟩
theorem over : Rows.fnExactRankTextsRow.holds Try.pinned (OpenSpec.ofChange Rows.fnExactRankTextsSpec) :=
  OpenClaim.holds_of_wide 13 Try.f13 rfl rfl rfl rfl rfl rfl rfl ⟨rfl, rfl, rfl, rfl, rfl⟩ rfl rfl rfl rfl rfl (by kernel_rfl) Try.func13 (by kernel_rfl)
    (of_decide_eq_true (by kernel_rfl)) (by unfold Func.isWrapper; first | (rw [if_pos (by decide +kernel)]; kernel_rfl) | (rw [if_neg (by decide +kernel)]; exact ⟨rfl, rfl⟩))
    (fun os started H enc _ => lifted os started H enc)
theorem proved : Rows.FnExactRankTextsSaid := over
#print axioms proved
end Go.Proofs.Ytaomjndfjmfelaa.fnExactRankTexts
namespace Go.Proofs.Ytaomjndfjmfelaa
/-- The row, under a short name, for the claim. -/
theorem fnExactRankTexts_holds : Rows.FnExactRankTextsSaid := fnExactRankTexts.proved
end Go.Proofs.Ytaomjndfjmfelaa
end
