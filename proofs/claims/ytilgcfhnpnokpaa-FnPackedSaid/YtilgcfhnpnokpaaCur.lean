/- The reader of choices: what it reads, it always reads something. No conditions. -/
import Derived.Test.YtilgcfhnpnokpaaPre
import Derived.Test.YtilgcfhnpnokpaaPQspecl1Curpick
import Derived.Test.YtilgcfhnpnokpaaPQspecl1Curone
import Derived.Test.YtilgcfhnpnokpaaPQspecl1Curamong
namespace Go.Proofs.Ytilgcfhnpnokpaa.Cur
set_option linter.unusedVariables false
open Go.RowKit Go.Proofs.Ytilgcfhnpnokpaa.PQ Go.Proofs.YtilgcfhnpnokpaaW.PrintWords Go.Proofs.YtilgcfhnpnokpaaW.PrintLast Go.Proofs.Ytilgcfhnpnokpaa.Pre

/-- The bytes of the choices are bytes. -/
def Bytes (l : List Int) : Prop := ∀ x ∈ l, 0 ≤ x ∧ x ≤ 255
theorem bytes_wf {l : List Int} (h : ∀ x ∈ l, (Lit.int .u8 x).wf = true) : Bytes l := by
  intro x hx
  have h2 : (decide (IntKind.u8.min ≤ x) && decide (x ≤ IntKind.u8.max)) = true := h x hx
  have e1 : IntKind.u8.min = 0 := by decide
  have e2 : IntKind.u8.max = 255 := by decide
  rw [e1, e2] at h2
  simpa using h2
theorem rd_bytes {l : List Int} (h : Bytes l) (i : Int) : 0 ≤ rd l i ∧ rd l i ≤ 255 := by
  unfold rd
  by_cases hi : i.toNat < l.length
  · have := h _ (List.getElem_mem hi)
    simpa [hi] using this
  · rw [List.getD_eq_getElem?_getD, List.getElem?_eq_none (by omega)]
    simp
theorem and255 (a : Int) : 0 ≤ wrap64 (Go.bits .and .u64 a 255) ∧ wrap64 (Go.bits .and .u64 a 255) ≤ 255 := by
  have h1 : ((BitVec.ofInt 64 a) &&& (BitVec.ofInt 64 255)).toNat ≤ 255 := by
    rw [BitVec.toNat_and]
    have : (BitVec.ofInt 64 255).toNat = 255 := by decide
    rw [this]
    exact Nat.and_le_right
  have h2 : Go.bits .and .u64 a 255 = ((((BitVec.ofInt 64 a) &&& (BitVec.ofInt 64 255)).toNat : Nat) : Int) := by
    show IntKind.u64.wrap _ = _
    show (((((BitVec.ofInt 64 a) &&& (BitVec.ofInt 64 255)).toNat : Nat) : Int)) % 18446744073709551616 = _
    omega
  rw [h2, w64 (by omega) (by omega)]
  omega
theorem next_ev {l : List Int} (h : Bytes l) (at_ : Int) (s : Int) (h0 : 0 ≤ at_) (h1 : at_ ≤ 4611686018427387904) :
    ∃ x s', spec_l1Cur_next.f l at_ s = some (x, at_ + 1, s') ∧ 0 ≤ x ∧ x ≤ 255 := by
  unfold spec_l1Cur_next.f
  rw [w64 (n := at_ + 1) (by omega) (by omega)]
  have hr := rd_bytes h at_
  by_cases hlt : at_ < (l.length : Int)
  · rw [if_pos hlt, if_pos h0]
    by_cases h2 : at_ + 1 ≤ (l.length : Int)
    · rw [if_pos h2, w64 (n := rd l at_) (by omega) (by omega)]
      exact ⟨_, _, rfl, hr.1, hr.2⟩
    · rw [if_neg h2]
      exact ⟨_, _, rfl, (and255 _).1, (and255 _).2⟩
  · rw [if_neg hlt]
    by_cases h2 : at_ + 1 ≤ (l.length : Int)
    · rw [if_pos h2]
      exact ⟨_, _, rfl, by omega, by omega⟩
    · rw [if_neg h2]
      exact ⟨_, _, rfl, (and255 _).1, (and255 _).2⟩
theorem tmod_lt (x n : Int) (h0 : 0 ≤ x) (hn : 0 < n) : 0 ≤ Int.tmod x n ∧ Int.tmod x n < n := by
  rw [Int.tmod_eq_emod_of_nonneg h0]
  exact ⟨Int.emod_nonneg _ (by omega), Int.emod_lt_of_pos _ hn⟩
theorem pick_ev {l : List Int} (h : Bytes l) (at_ : Int) (s n : Int) (h0 : 0 ≤ at_) (h1 : at_ ≤ 4611686018427387900) :
    ∃ x a' s', spec_l1Cur_pick.f l at_ s n = some (x, a', s') ∧ 0 ≤ x ∧ (x < n ∨ x = 0) ∧ at_ ≤ a' ∧ a' ≤ at_ + 2 := by
  unfold spec_l1Cur_pick.f
  by_cases hn : n ≤ 1
  · rw [if_pos hn]
    exact ⟨_, _, _, rfl, by omega, .inr rfl, by omega, by omega⟩
  · rw [if_neg hn]
    obtain ⟨x, s1, e1, hx0, hx1⟩ := next_ev h at_ s h0 (by omega)
    rw [e1]
    by_cases h2 : n > 200
    · obtain ⟨y, s2, e2, hy0, hy1⟩ := next_ev h (at_ + 1) s1 (by omega) (by omega)
      refine ⟨Int.tmod (wrap64 ((wrap64 (x * 256)) + y)) n, at_ + 1 + 1, s2, ?_, ?_, ?_, by omega, by omega⟩
      · show (if n > 200 then _ else _) = _
        rw [if_pos h2]
        show (spec_l1Cur_next.f l (at_ + 1) s1).bind _ = _
        rw [e2]
        show (if n = 0 then _ else _) = _
        rw [if_neg (by omega)]
      · rw [w64 (n := x * 256) (by omega) (by omega), w64 (by omega) (by omega)]
        exact (tmod_lt _ _ (by omega) (by omega)).1
      · left
        rw [w64 (n := x * 256) (by omega) (by omega), w64 (by omega) (by omega)]
        exact (tmod_lt _ _ (by omega) (by omega)).2
    · refine ⟨Int.tmod x n, at_ + 1, s1, ?_, (tmod_lt _ _ hx0 (by omega)).1, .inl (tmod_lt _ _ hx0 (by omega)).2, by omega, by omega⟩
      show (if n > 200 then _ else _) = _
      rw [if_neg h2]
      show (if n = 0 then _ else _) = _
      rw [if_neg (by omega)]
theorem one_ev {l : List Int} (h : Bytes l) (at_ : Int) (s n : Int) (h0 : 0 ≤ at_) (h1 : at_ ≤ 4611686018427387900) :
    ∃ b a' s', spec_l1Cur_one.f l at_ s n = some (b, a', s') ∧ at_ ≤ a' ∧ a' ≤ at_ + 2 := by
  unfold spec_l1Cur_one.f
  obtain ⟨x, a', s', e, _, _, ha, hb⟩ := pick_ev h at_ s n h0 h1
  rw [e]
  exact ⟨_, _, _, rfl, ha, hb⟩
theorem among_ev {l : List Int} (h : Bytes l) (at_ : Int) (s : Int) (xs : List Int) (hx : xs ≠ []) (h0 : 0 ≤ at_) (h1 : at_ ≤ 4611686018427387900) :
    ∃ t a' s', spec_l1Cur_among.f l at_ s xs = some (t, a', s') ∧ t ∈ xs ∧ at_ ≤ a' ∧ a' ≤ at_ + 2 := by
  unfold spec_l1Cur_among.f
  have hl : 0 < xs.length := List.length_pos_iff.2 hx
  obtain ⟨x, a', s', e, hx0, hx1, ha, hb⟩ := pick_ev h at_ s (xs.length : Int) h0 h1
  rw [e]
  refine ⟨rd xs x, a', s', ?_, ?_, ha, hb⟩
  · show (if 0 ≤ x then _ else _) = _
    rw [if_pos hx0, if_pos (by omega)]
  · have hi : x.toNat < xs.length := by omega
    have e2 : rd xs x = xs[x.toNat] := by
      unfold rd
      simp [hi]
    rw [e2]
    exact List.getElem_mem hi
end Go.Proofs.Ytilgcfhnpnokpaa.Cur
