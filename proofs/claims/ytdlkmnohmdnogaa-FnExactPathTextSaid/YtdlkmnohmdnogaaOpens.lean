/- What reads as data is, cell by cell, a value of a kind: for whole numbers, bools, texts, structs and slices of these. No conditions. -/
import Derived.Deep.Slices
import Derived.ChangeArms
import Derived.DataReads
import Derived.Test.YtdlkmnohmdnogaaWWords
namespace Go.Proofs.Ytdlkmnohmdnogaa.Opn
open Go.ChangeShapes Go.WideShapes Go.Deep
open Go.Proofs.YtdlkmnohmdnogaaW.PrintWords

/-- Whatever reads as data of type t is a value of the kind d, and fits. -/
structure Opens (P : Program) (t : TypeId) {α : Type} (d : Kd α) (fit : α → Prop) : Prop where
  out : ∀ {H : Type} (enc : TypeId × Value → H) (w : World) (base : Nat) (spare : Nat → Bool) (held : Bool) (n : Nat) (cs : List Value) (x : DataW H × List MemPlace),
    DataW.trod enc P w base spare held n t cs = some x → ∃ a : α, d.K w a cs ∧ fit a

/-- Some fields of a struct, from a cell on. -/
structure OpensFs (P : Program) (fs : List Field) (off : Nat) {α : Type} (d : Kd α) (fit : α → Prop) : Prop where
  out : ∀ {H : Type} (enc : TypeId × Value → H) (w : World) (base : Nat) (spare : Nat → Bool) (held : Bool) (n : Nat) (cs : List Value),
    cs.length = off + d.sz → (∀ f ∈ fs, ∃ x, DataW.trod enc P w base spare held n f.type ((cs.drop f.offset).take (P.cellsOf f.type)) = some x) → ∃ a : α, d.K w a (cs.drop off) ∧ fit a

variable {P : Program}
theorem opens_int {t : TypeId} {k : IntKind} (ht : P.underlying t = some (.int k)) : Opens P t (Kd.int k) (fun n => (Lit.int k n).wf = true) := by
  refine ⟨fun {H} enc w base spare held n cs => ?_⟩
  intro x h
  obtain ⟨m, rfl, _, hw⟩ := DataW.trod_int ht h
  exact ⟨m, rfl, hw⟩
theorem opens_bool {t : TypeId} (ht : P.underlying t = some .bool) : Opens P t Kd.bool (fun _ => True) := by
  refine ⟨fun {H} enc w base spare held n cs => ?_⟩
  intro x h
  obtain ⟨b, rfl, _⟩ := DataW.trod_bool ht h
  exact ⟨b, rfl, trivial⟩
theorem opens_string {t : TypeId} (ht : P.underlying t = some .string) : Opens P t Kd.string (fun s => s.size ≤ maxLen) := by
  refine ⟨fun {H} enc w base spare held n cs => ?_⟩
  intro x h
  obtain ⟨s, rfl, _, hs⟩ := DataW.trod_string ht h
  exact ⟨s, rfl, hs⟩
theorem opens_slice {t e : TypeId} {α : Type} {d : Kd α} {fit : α → Prop} (ht : P.underlying t = some (.slice e)) (he : P.cellsOf e = d.sz) (h0 : Opens P e d fit) : Opens P t (Kd.slice e d) (fun xs => xs.length ≤ maxLen ∧ ∀ x ∈ xs, fit x) := by
  refine ⟨fun {H} enc w base spare held n cs => ?_⟩
  intro x h
  rcases open_slice ht h with ⟨rfl, _⟩ | ⟨a, len, cap, m, n', D, Pl, rfl, hb, hl, hm, hmm, hx, hi⟩
  · refine ⟨[], ⟨none, 0, rfl, Nat.le_refl _, ⟨rfl, by simp, fun h => absurd h (by simp)⟩⟩, by simp, by simp⟩
  · have hlm : len ≤ m := by rw [hmm]; split <;> omega
    have key : ∀ i : Fin len, ∃ y : α, ∃ c : List Value, w.cells? base (a.add (i.1 * d.sz)) d.sz = some c ∧ d.K w y c ∧ fit y := by
      intro i
      obtain ⟨c, hc, ht'⟩ := hi i.1 (by omega)
      obtain ⟨y, hK, hf⟩ := h0.out enc w base spare held n' c _ ht'
      exact ⟨y, c, by rw [← he]; exact hc, hK, hf⟩
    let g : Fin len → α := fun i => Classical.choose (key i)
    have hg : ∀ i : Fin len, ∃ c : List Value, w.cells? base (a.add (i.1 * d.sz)) d.sz = some c ∧ d.K w (g i) c ∧ fit (g i) := fun i => Classical.choose_spec (key i)
    refine ⟨List.ofFn g, ⟨some a, cap, by rw [List.length_ofFn], by rw [List.length_ofFn]; exact hl, ?_⟩, by rw [List.length_ofFn]; omega, ?_⟩
    · refine ⟨rfl, by rw [List.length_ofFn]; unfold maxLen at hm; omega, fun _ => ⟨a, rfl, fun j p hj => ?_⟩⟩
      obtain ⟨hjl, hjp⟩ := List.getElem?_eq_some_iff.1 hj
      rw [List.length_ofFn] at hjl
      rw [List.getElem_ofFn] at hjp
      obtain ⟨c, hc, hK, _⟩ := hg ⟨j, hjl⟩
      obtain ⟨_, hcl, hat⟩ := World.cells?_some hc
      refine ⟨c, hcl, by rw [← hjp]; exact hK, fun i u hu => ?_⟩
      have hil : i < d.sz := by have := (List.getElem?_eq_some_iff.1 hu).1; omega
      have h1 := hat i hil
      rw [hu] at h1
      rw [← h1, ← Go.Deep.add_add]
    · intro x hx
      obtain ⟨i, rfl⟩ := List.mem_ofFn.1 hx
      obtain ⟨c, _, _, hf⟩ := hg i
      exact hf
theorem opens_last {f : Field} {off : Nat} {α : Type} {d : Kd α} {fit : α → Prop} (ho : f.offset = off) (hs : P.cellsOf f.type = d.sz) (h0 : Opens P f.type d fit) : OpensFs P [f] off d fit := by
  refine ⟨fun {H} enc w base spare held n cs => ?_⟩
  intro hl h
  obtain ⟨x, hx⟩ := h f (by simp)
  obtain ⟨a, hK, hf⟩ := h0.out enc w base spare held n _ x hx
  refine ⟨a, ?_, hf⟩
  rw [ho, hs, List.take_of_length_le (by rw [List.length_drop]; omega)] at hK
  exact hK
theorem opens_cons {f : Field} {fs : List Field} {off : Nat} {α β : Type} {a : Kd α} {b : Kd β} {fa : α → Prop} {fb : β → Prop} (ho : f.offset = off) (hs : P.cellsOf f.type = a.sz) (h0 : Opens P f.type a fa) (h1 : OpensFs P fs (off + a.sz) b fb) :
    OpensFs P (f :: fs) off (Kd.pair a b) (fun x => fa x.1 ∧ fb x.2) := by
  refine ⟨fun {H} enc w base spare held n cs => ?_⟩
  intro hl h
  have hl' : cs.length = off + (a.sz + b.sz) := hl
  obtain ⟨x, hx⟩ := h f (by simp)
  obtain ⟨y, hK, hf⟩ := h0.out enc w base spare held n _ x hx
  obtain ⟨z, hK2, hf2⟩ := h1.out enc w base spare held n cs (by omega) (fun f' hf' => h f' (List.mem_cons_of_mem _ hf'))
  rw [ho, hs] at hK
  refine ⟨(y, z), ⟨(cs.drop off).take a.sz, cs.drop (off + a.sz), ?_, hK, hK2⟩, hf, hf2⟩
  rw [← List.drop_drop, List.take_append_drop]
theorem opens_struct {t : TypeId} {fs : Array Field} {α : Type} {d : Kd α} {fit : α → Prop} (ht : P.underlying t = some (.struct fs)) (hs : P.cellsOf t = d.sz) (h0 : OpensFs P fs.toList 0 d fit) : Opens P t d fit := by
  refine ⟨fun {H} enc w base spare held n cs => ?_⟩
  intro x h
  obtain ⟨xs, n', _, _, hl, hxl, hf⟩ := DataW.trod_struct ht h
  obtain ⟨a, hK, hfit⟩ := h0.out enc w base spare held n' cs (by omega) (fun f hm => by
    obtain ⟨i, hi, rfl⟩ := List.mem_iff_getElem.1 hm
    have hi' : i < fs.size := by simpa using hi
    refine ⟨xs[i]'(by omega), ?_⟩
    have h1 := hf i fs[i] (Array.getElem?_eq_getElem hi')
    rw [Array.getElem_toList, h1]
    exact List.getElem?_eq_getElem (by omega))
  exact ⟨a, hK, hfit⟩
theorem opens_iso {t : TypeId} {α β : Type} {d : Kd α} {fit : α → Prop} (f : β → α) (g : α → β) (hg : ∀ y, f (g y) = y) (h0 : Opens P t d fit) : Opens P t (Kd.iso d f) (fun x => fit (f x)) := by
  refine ⟨fun {H} enc w base spare held n cs => ?_⟩
  intro x h
  obtain ⟨a, hK, hfit⟩ := h0.out enc w base spare held n cs x h
  exact ⟨g a, by show d.K w (f (g a)) cs; rw [hg]; exact hK, by show fit (f (g a)); rw [hg]; exact hfit⟩

/-- A parameter that is a slice. -/
theorem opens_arg_slice {t e : TypeId} {α : Type} {d : Kd α} {fit : List α → Prop} (h0 : Opens P t (Kd.slice e d) fit) {H : Type} {enc : TypeId × Value → H} {w : World} {base : Nat} {spare : Nat → Bool} {held : Bool} {A : Option Addr} {n c : Nat} {dd : DataW H} {ps : List MemPlace}
    (h : DataW.Trod enc P w base spare held t (.slice A n c) dd ps) : ∃ xs : List α, n = xs.length ∧ xs.length ≤ c ∧ Kd.C d w A xs.length xs ∧ fit xs := by
  obtain ⟨fuel, hf⟩ := h
  obtain ⟨xs, ⟨A', c', he, hl, hC⟩, hfit⟩ := h0.out enc w base spare held fuel _ _ hf
  have he' : ([.slice A n c] : List Value) = [.slice A' xs.length c'] := he
  injection he' with he'
  injection he' with e1 e2 e3
  subst e1 e2 e3
  exact ⟨xs, rfl, hl, hC, hfit⟩
/-- A parameter that is a struct. -/
theorem opens_arg_agg {t : TypeId} {α : Type} {d : Kd α} {fit : α → Prop} (h0 : Opens P t d fit) {H : Type} {enc : TypeId × Value → H} {w : World} {base : Nat} {spare : Nat → Bool} {held : Bool} {cs : Array Value} {dd : DataW H} {ps : List MemPlace}
    (h : DataW.Trod enc P w base spare held t (.agg cs) dd ps) : ∃ x : α, d.K w x cs.toList ∧ fit x := by
  obtain ⟨fuel, hf⟩ := h
  exact h0.out enc w base spare held fuel _ _ hf
end Go.Proofs.Ytdlkmnohmdnogaa.Opn
