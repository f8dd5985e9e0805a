/- Several texts in one: what the claim's last text rests on. No conditions. -/
import Derived.Deep.Slices
import Derived.ChangeArms
import Derived.DataReads
import Derived.Test.YtaomjndfjmfelaaMWo1
section
namespace Go.Proofs.Ytaomjndfjmfelaa.Opn
open Go.ChangeShapes Go.WideShapes Go.Deep
open Go.Proofs.YtaomjndfjmfelaaW.PrintWords
/-- Whatever reads as data of type t is a value of the kind d, and fits. -/
structure Opens (P : Program) (t : TypeId) {α : Type} (d : Kd α) (fit : α → Prop) : Prop where
 out : ∀ {H : Type} (enc : TypeId × Value → H) (w : World) (base : Nat) (spare : Nat → Bool) (held : Bool) (n : Nat) (cs : List Value) (x : DataW H × List MemPlace),
  DataW.trod enc P w base spare held n t cs = some x → ∃ a : α, d.K w a cs ∧ fit a

/-- Some fields of a struct, from a cell on. -/
structure OpensFs (P : Program) (fs : List Field) (off : Nat) {α : Type} (d : Kd α) (fit : α → Prop) : Prop where
 out : ∀ {H : Type} (enc : TypeId × Value → H) (w : World) (base : Nat) (spare : Nat → Bool) (held : Bool) (n : Nat) (cs : List Value),
  cs.length = off + d.sz → (∀ f ∈ fs, ∃ x, DataW.trod enc P w base spare held n f.type ((cs.drop f.offset).take (P.cellsOf f.type)) = some x) → ∃ a : α, d.K w a (cs.drop off) ∧ fit a

variable {P : Program}
theorem opens_int {t : TypeId} {k : IntKind} (ht : P.underlying t = some (.int k)) : Opens P t (Kd.int k) (fun n => (Lit.int k n).wf = true) := by
 refine ⟨fun {H} enc w base spare held n cs => ?_⟩
 intro x h
 obtain ⟨m, rfl, _, hw⟩ := DataW.trod_int ht h
 exact ⟨m, rfl, hw⟩
theorem opens_slice {t e : TypeId} {α : Type} {d : Kd α} {fit : α → Prop} (ht : P.underlying t = some (.slice e)) (he : P.cellsOf e = d.sz) (h0 : Opens P e d fit) : Opens P t (Kd.slice e d) (fun xs => xs.length ≤ maxLen ∧ ∀ x ∈ xs, fit x) := by
 refine ⟨fun {H} enc w base spare held n cs => ?_⟩
 intro x h
 rcases open_slice ht h with ⟨rfl, _⟩ | ⟨a, len, cap, m, n', D, Pl, rfl, hb, hl, hm, hmm, hx, hi⟩
 ·refine ⟨[], ⟨none, 0, rfl, Nat.le_refl _, ⟨rfl, by simp, fun h => absurd h (by simp)⟩⟩, by simp, by simp⟩
 ·have hlm : len ≤ m := by rw [hmm]; split <;> omega
  have key : ∀ i : Fin len, ∃ y : α, ∃ c : List Value, w.cells? base (a.add (i.1 * d.sz)) d.sz = some c ∧ d.K w y c ∧ fit y := by
   intro i
   obtain ⟨c, hc, ht'⟩ := hi i.1 (by omega)
   obtain ⟨y, hK, hf⟩ := h0.out enc w base spare held n' c _ ht'
   exact ⟨y, c, by rw [← he]; exact hc, hK, hf⟩
  let g : Fin len → α := fun i => Classical.choose (key i)
  have hg : ∀ i : Fin len, ∃ c : List Value, w.cells? base (a.add (i.1 * d.sz)) d.sz = some c ∧ d.K w (g i) c ∧ fit (g i) := fun i => Classical.choose_spec (key i)
  refine ⟨List.ofFn g, ⟨some a, cap, by rw [List.length_ofFn], by rw [List.length_ofFn]; exact hl, ?_⟩, by rw [List.length_ofFn]; omega, ?_⟩
  ·refine ⟨rfl, by rw [List.length_ofFn]; unfold maxLen at hm; omega, fun _ => ⟨a, rfl, fun j p hj => ?_⟩⟩
   obtain ⟨hjl, hjp⟩ := List.getElem?_eq_some_iff.1 hj
   rw [List.length_ofFn] at hjl
   rw [List.getElem_ofFn] at hjp
   obtain ⟨c, hc, hK, _⟩ := hg ⟨j, hjl⟩
   obtain ⟨_, hcl, hat⟩ := World.cells?_some hc
   refine ⟨c, hcl, by rw [← hjp]; exact hK, fun i u hu => ?_⟩
   have hil : i < d.sz := by have := (List.getElem?_eq_some_iff.1 hu).1; omega
   have h1 := hat i hil
   rw [hu] at h1
   rw [← h1, ← Go.Deep.add_add]
  ·intro x hx
   obtain ⟨i, rfl⟩ := List.mem_ofFn.1 hx
   obtain ⟨c, _, _, hf⟩ := hg i
   exact hf
/-- A parameter that is a slice. -/
theorem opens_arg_slice {t e : TypeId} {α : Type} {d : Kd α} {fit : List α → Prop} (h0 : Opens P t (Kd.slice e d) fit) {H : Type} {enc : TypeId × Value → H} {w : World} {base : Nat} {spare : Nat → Bool} {held : Bool} {A : Option Addr} {n c : Nat} {dd : DataW H} {ps : List MemPlace}
  (h : DataW.Trod enc P w base spare held t (.slice A n c) dd ps) : ∃ xs : List α, n = xs.length ∧ xs.length ≤ c ∧ Kd.C d w A xs.length xs ∧ fit xs := by
 obtain ⟨fuel, hf⟩ := h
 obtain ⟨xs, ⟨A', c', he, hl, hC⟩, hfit⟩ := h0.out enc w base spare held fuel _ _ hf
 have he' : ([.slice A n c] : List Value) = [.slice A' xs.length c'] := he
 injection he' with he'
 injection he' with e1 e2 e3
 subst e1 e2 e3
 exact ⟨xs, rfl, hl, hC, hfit⟩
end Go.Proofs.Ytaomjndfjmfelaa.Opn
end
