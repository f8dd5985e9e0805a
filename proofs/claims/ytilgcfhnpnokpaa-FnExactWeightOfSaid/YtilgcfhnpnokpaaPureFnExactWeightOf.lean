/- The law FnExactWeightOf returns true at every text: the program's weight is the reference's. No conditions. -/
import Derived.Test.YtilgcfhnpnokpaaPFnExactWeightOfx1
namespace Go.Proofs.Ytilgcfhnpnokpaa.Pure
open Go.RowKit Go.Proofs.Ytilgcfhnpnokpaa.PFnExactWeightOf Go.Proofs.YtilgcfhnpnokpaaW.PrintWords Go.Proofs.YtilgcfhnpnokpaaW.PrintLast

theorem wo_wrap {i : Int} {n : Nat} (h0 : 0 ≤ i) (h : i < (n : Int)) (hn : n ≤ 140737488351232) : wrap64 (i + 1) = i + 1 := by
  unfold wrap64
  omega

theorem wo_same (s : ByteArray) (hn : s.size ≤ 140737488351232) : ∀ (k : Nat) (h i : Int), 0 ≤ i → i ≤ s.size → (s.size : Int) - i < k →
    ∃ r, spec_WeightOf.l0 k s h i = some r ∧ impl_WeightOf.l0 k s h (s.size : Int) i = some r := by
  intro k
  induction k with
  | zero => intro h i h0 h1 hk; omega
  | succ k ih =>
    intro h i h0 h1 hk
    by_cases hlt : i < (s.size : Int)
    · obtain ⟨r, h2, h3⟩ := ih (Int.tmod (Go.bits .xor .i64 (wrap64 (33 * h)) (wrap64 (bt s i))) 1000003) (i + 1) (by omega) (by omega) (by omega)
      refine ⟨r, ?_, ?_⟩
      · simp only [spec_WeightOf.l0]
        rw [if_pos hlt, if_pos h0, wo_wrap h0 hlt hn]
        exact h2
      · simp only [impl_WeightOf.l0]
        rw [if_pos hlt, if_pos h0, if_pos hlt, wo_wrap h0 hlt hn]
        exact h3
    · refine ⟨Int.tmod (wrap64 (h * 7919)) 1000003, ?_, ?_⟩
      · simp only [spec_WeightOf.l0]
        rw [if_neg hlt]
      · simp only [impl_WeightOf.l0]
        rw [if_neg hlt]

theorem FnExactWeightOf : laws_FnExactWeightOf.Pure := by
  intro s hn
  obtain ⟨r, h1, h2⟩ := wo_same s hn (s.size + 1) 5381 0 (by omega) (by omega) (by omega)
  refine ⟨s.size + 1, ?_⟩
  unfold laws_FnExactWeightOf.f spec_WeightOf.f impl_WeightOf.f
  rw [h1, h2]
  simp

end Go.Proofs.Ytilgcfhnpnokpaa.Pure
