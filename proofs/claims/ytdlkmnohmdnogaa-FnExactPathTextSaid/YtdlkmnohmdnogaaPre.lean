/- Small facts on functions with rounds, on numbers and on lists. No conditions. -/
import Derived.Test.YtdlkmnohmdnogaaWMore
namespace Go.Proofs.Ytdlkmnohmdnogaa.Pre
open Go.RowKit Go.Proofs.YtdlkmnohmdnogaaW.PrintWords

/-- With enough rounds the answer is r. -/
def Evt {α : Type} (g : Nat → Option α) (r : α) : Prop := ∃ K, ∀ k, K ≤ k → g k = some r
section
variable {α β : Type}
theorem Evt.const (r : α) : Evt (fun _ => some r) r := ⟨0, fun _ _ => rfl⟩
theorem Evt.of {g : Nat → Option α} {r : α} (h : ∀ k, g k = some r) : Evt g r := ⟨0, fun k _ => h k⟩
theorem Evt.ex {g : Nat → Option α} {r : α} (h : Evt g r) : ∃ k, g k = some r := by
  obtain ⟨K, h⟩ := h
  exact ⟨K, h K (Nat.le_refl _)⟩
theorem Evt.bind {g : Nat → Option α} {h : Nat → α → Option β} {a : α} {r : β} (hg : Evt g a) (hh : Evt (fun k => h k a) r) : Evt (fun k => (g k).bind (h k)) r := by
  obtain ⟨K, hg⟩ := hg
  obtain ⟨M, hh⟩ := hh
  refine ⟨K + M, fun k hk => ?_⟩
  show (g k).bind (h k) = some r
  rw [hg k (by omega)]
  exact hh k (by omega)
theorem Evt.step {g h : Nat → Option α} {r : α} (e : ∀ k, g (k + 1) = h k) (hh : Evt h r) : Evt g r := by
  obtain ⟨M, hh⟩ := hh
  refine ⟨M + 1, fun k hk => ?_⟩
  obtain ⟨k, rfl⟩ : ∃ m, k = m + 1 := ⟨k - 1, by omega⟩
  rw [e]
  exact hh k (by omega)
theorem Evt.congr {g h : Nat → Option α} {r : α} (e : ∀ k, g k = h k) (hh : Evt h r) : Evt g r := by
  obtain ⟨M, hh⟩ := hh
  exact ⟨M, fun k hk => by rw [e]; exact hh k hk⟩
theorem Evt.uniq {g : Nat → Option α} {a b : α} (ha : Evt g a) (hb : Evt g b) : a = b := by
  obtain ⟨K, ha⟩ := ha
  obtain ⟨M, hb⟩ := hb
  have h1 := ha (K + M) (by omega)
  rw [hb (K + M) (by omega)] at h1
  exact (Option.some.inj h1).symm
theorem Evt.pos {c : Prop} [Decidable c] {g h : Nat → Option α} {r : α} (hc : c) (hg : Evt g r) : Evt (fun k => if c then g k else h k) r := hg.congr (fun _ => if_pos hc)
theorem Evt.neg {c : Prop} [Decidable c] {g h : Nat → Option α} {r : α} (hc : ¬ c) (hh : Evt h r) : Evt (fun k => if c then g k else h k) r := hh.congr (fun _ => if_neg hc)
theorem Evt.bsome {h : Nat → α → Option β} {a : α} {r : β} (hh : Evt (fun k => h k a) r) : Evt (fun k => (some a).bind (h k)) r := hh
theorem Evt.eq {g : Nat → Option α} {a b : α} (h : Evt g a) (e : a = b) : Evt g b := e ▸ h
end

theorem w64 {n : Int} (h0 : -9223372036854775808 ≤ n) (h1 : n ≤ 9223372036854775807) : wrap64 n = n := by
  unfold wrap64
  omega
theorem wf64 {n : Int} (h : (Lit.int .i64 n).wf = true) : -9223372036854775808 ≤ n ∧ n ≤ 9223372036854775807 := by
  have h2 : (decide (IntKind.i64.min ≤ n) && decide (n ≤ IntKind.i64.max)) = true := h
  have e1 : IntKind.i64.min = -9223372036854775808 := by decide
  have e2 : IntKind.i64.max = 9223372036854775807 := by decide
  rw [e1, e2] at h2
  simpa using h2

theorem bne_nil (l : List UInt8) : (l != []) = !l.isEmpty := by cases l <;> rfl
/-- A loop that fills a list, place by place. -/
theorem fill {β : Type} {L : Nat → List β → Int → Option (List β)} {f : Nat → β} {n : Nat} (hend : ∀ acc, acc.length = n → Evt (fun k => L k acc n) acc)
    (hstep : ∀ (acc : List β) (i : Nat) (r : List β), i < n → acc.length = n → Evt (fun k => L k (acc.set i (f i)) ((i + 1 : Nat) : Int)) r → Evt (fun k => L k acc (i : Int)) r) :
    ∀ acc : List β, acc.length = n → Evt (fun k => L k acc 0) ((List.range n).map f) := by
  have key : ∀ (m i : Nat) (acc : List β), i + m = n → acc.length = n → (∀ j, j < i → acc[j]? = some (f j)) → Evt (fun k => L k acc (i : Int)) ((List.range n).map f) := by
    intro m
    induction m with
    | zero =>
      intro i acc him hl hj
      have hin : i = n := by omega
      subst hin
      refine (hend acc hl).eq ?_
      apply List.ext_getElem?
      intro j
      by_cases hlt : j < i
      · rw [hj j hlt]
        simp [hlt]
      · rw [List.getElem?_eq_none (by omega), List.getElem?_eq_none (by simp; omega)]
    | succ m ih =>
      intro i acc him hl hj
      refine hstep acc i _ (by omega) hl (ih (i + 1) _ (by omega) (by simpa using hl) (fun j hlt => ?_))
      by_cases hji : j = i
      · subst hji
        exact List.getElem?_set_self (by omega)
      · rw [List.getElem?_set_ne (by omega)]
        exact hj j (by omega)
  intro acc hl
  exact key n 0 acc (by omega) hl (fun j h => by omega)
theorem fillFrom {β : Type} {L : Nat → List β → Int → Option (List β)} {f : Nat → β} {n : Nat} (i0 : Nat) (h0 : i0 ≤ n) (hend : ∀ acc, acc.length = n → Evt (fun k => L k acc n) acc)
    (hstep : ∀ (acc : List β) (i : Nat) (r : List β), i0 ≤ i → i < n → acc.length = n → Evt (fun k => L k (acc.set i (f i)) ((i + 1 : Nat) : Int)) r → Evt (fun k => L k acc (i : Int)) r) :
    ∀ acc : List β, acc.length = n → (∀ j, j < i0 → acc[j]? = some (f j)) → Evt (fun k => L k acc (i0 : Int)) ((List.range n).map f) := by
  have key : ∀ (m i : Nat) (acc : List β), i + m = n → i0 ≤ i → acc.length = n → (∀ j, j < i → acc[j]? = some (f j)) → Evt (fun k => L k acc (i : Int)) ((List.range n).map f) := by
    intro m
    induction m with
    | zero =>
      intro i acc him h1 hl hj
      have hin : i = n := by omega
      subst hin
      refine (hend acc hl).eq ?_
      apply List.ext_getElem?
      intro j
      by_cases hlt : j < i
      · rw [hj j hlt]
        simp [hlt]
      · rw [List.getElem?_eq_none (by omega), List.getElem?_eq_none (by simp; omega)]
    | succ m ih =>
      intro i acc him h1 hl hj
      refine hstep acc i _ h1 (by omega) hl (ih (i + 1) _ (by omega) (by omega) (by simpa using hl) (fun j hlt => ?_))
      by_cases hji : j = i
      · subst hji
        exact List.getElem?_set_self (by omega)
      · rw [List.getElem?_set_ne (by omega)]
        exact hj j (by omega)
  intro acc hl hj
  exact key (n - i0) i0 acc (by omega) (Nat.le_refl _) hl hj
theorem map_range {α β : Type} (l : List α) (z : α) (g : α → β) : (List.range l.length).map (fun i => g (l.getD i z)) = l.map g := by
  apply List.ext_getElem?
  intro j
  by_cases hlt : j < l.length
  · simp [hlt]
  · rw [List.getElem?_eq_none (by simp; omega), List.getElem?_eq_none (by simp; omega)]
end Go.Proofs.Ytdlkmnohmdnogaa.Pre
