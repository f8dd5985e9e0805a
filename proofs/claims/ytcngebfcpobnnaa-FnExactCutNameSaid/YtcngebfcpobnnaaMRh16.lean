/- Several texts in one: what the claim's last text rests on. No conditions. -/
import Derived.Test.YtcngebfcpobnnaaMRh5
import Derived.Test.YtcngebfcpobnnaaMRh3
import Derived.Lib.OwnBridge
section
namespace Go.Proofs.Ytcngebfcpobnnaa.Rws
set_option linter.unusedVariables false
set_option linter.unusedSimpArgs false
set_option linter.unusedSectionVars false
open Go.RowKit Go.Sort Go.Lib Go.Proofs.YtcngebfcpobnnaaW.PrintWords
theorem cell_plain {w : World} {a : Addr} {v : Value} (h : w.cell? a = some v) : ∃ b off, a = ⟨b, off, none⟩ := by
 obtain ⟨b, off, p⟩ := a
 cases p with
 | none => exact ⟨b, off, rfl⟩
 | some p =>
  unfold World.cell? at h
  split at h
  ·
   simp at h
  ·
   cases h
theorem add_plain' (b off j : Nat) : (⟨b, off, none⟩ : Addr).add j = ⟨b, off + j, none⟩ := by
 unfold Addr.add
 split <;> simp_all
/-- A row of scalars that is read and not empty: its address and its cells. -/
theorem C_cells {α : Type} {enc : α → Value} {h1 : ∀ x, (enc x).oneCell' = true} {w : World} {A : Option Addr} {n : Nat} {xs : List α} (d : α) (h : (Kd.scalar enc h1).C w A n xs) (hn : 0 < n) :
  ∃ b off, A = some ⟨b, off, none⟩ ∧ ∀ j, j < xs.length → w.cell? ⟨b, off + j, none⟩ = some (enc (xs.getD j d)) := by
 have hr := Kd.reads_of_C (d := d) h
 obtain ⟨hl, _, hc⟩ := hr
 obtain ⟨ad, rfl, hcell⟩ := hc hn
 obtain ⟨b0, off0, e0⟩ := cell_plain (hcell 0 hn)
 obtain ⟨b, off, p⟩ := ad
 have hp : p = none := by
  cases p with
  | none => rfl
  | some p =>
   have h0 := hcell 0 hn
   unfold Addr.add at e0
   simp at e0
 subst hp
 refine ⟨b, off, rfl, fun j hj => ?_⟩
 have := hcell j (by omega)
 rw [add_plain'] at this
 exact this
theorem clone_str (A0 : Option Addr) (c0 : Nat) (l0 : List ByteArray) (w : World) (hr0 : Kd.C Kd.string w A0 l0.length l0) (hl : l0.length ≤ 1048576) :
  Calls Try.prog 43 #[.slice A0 l0.length c0] w fun e w' => ∃ v0_ : Value, e = .returned (v0_) ∧ Kd.R Kd.string 9 w' w.heap.size (fun _ => True) v0_ l0 ∧ Below w.heap.size w w' := by
 rcases Nat.eq_zero_or_pos l0.length with hz | hp
 ·
  obtain rfl : l0 = [] := List.eq_nil_of_length_eq_zero hz
  cases A0 with
  | none =>
   refine (Try.slices_Clone_string_nil_f43 0 c0 w).mono ?_
   rintro e w' ⟨rfl, rfl⟩
   exact ⟨_, rfl, Kd.R_nil _ _ _ _ _, Below.refl _ _⟩
  | some a =>
   refine (Try.slices_Clone_string_zero_f43 a c0 w).mono ?_
   rintro e w' ⟨v', rfl, ho, _, hb⟩
   exact ⟨v', rfl, Kd.R_of_own (h1 := fun _ => rfl) ho (fun _ _ => trivial), hb⟩
 ·
  obtain ⟨b, off, rfl, hc⟩ := C_cells ByteArray.empty hr0 hp
  refine (Try.slices_Clone_string_f43 b off l0.length c0 l0 w (Nat.le_refl _) (by omega) hc).mono ?_
  rintro e w' ⟨v', rfl, ho, _, hb⟩
  rw [List.take_length] at ho
  exact ⟨v', rfl, Kd.R_of_own (h1 := fun _ => rfl) ho (fun _ _ => trivial), hb⟩
end Go.Proofs.Ytcngebfcpobnnaa.Rws
end
