/- The law FnExactAboveKey returns true at every text. No conditions. -/
import Derived.Test.YtilgcfhnpnokpaaAbove
import Derived.Test.YtilgcfhnpnokpaaPQlawsFnExactAboveKey
namespace Go.Proofs.Ytilgcfhnpnokpaa.Pure
open Go.RowKit Go.Proofs.Ytilgcfhnpnokpaa.PQ Go.Proofs.YtilgcfhnpnokpaaW.PrintWords Go.Proofs.YtilgcfhnpnokpaaW.PrintLast Go.Proofs.Ytilgcfhnpnokpaa.Pre Go.Proofs.Ytilgcfhnpnokpaa.Abv

theorem spec_above (s : ByteArray) (hs : s.size ≤ 1000) : ∀ n : Nat, n ≤ s.size → Evt (fun k => spec_l2Above.l0 k s ((n : Int) - 1)) (abvS s (strip s n))
  | 0, _ => Evt.step (fun k => spec_l2Above.l0.eq_2 _ _ k) (Evt.neg (by omega) (Evt.const _))
  | n + 1, hn => by
    have ih := spec_above s hs n (by omega)
    rw [show ((n + 1 : Nat) : Int) - 1 = (n : Int) by omega]
    refine Evt.step (fun k => spec_l2Above.l0.eq_2 _ _ k) (Evt.pos (by omega) (Evt.pos (by omega) (Evt.pos (by omega) ?_)))
    by_cases h : bt s (n : Int) = 255
    · rw [strip_eq s n h, w64 (n := (n : Int) - 1) (by omega) (by omega)]
      exact Evt.pos h ih
    · have hr := bt_range s (n : Int)
      rw [strip_ne s n h, abv_succ, show (bt s (n : Int) + 1) % 256 = bt s (n : Int) + 1 by omega, Int.toNat_natCast]
      refine Evt.neg h (Evt.pos (by omega) (Evt.bsome (Evt.pos ?_ (Evt.const _))))
      have hz : (strOfNums [bt s (n : Int) + 1]).size = 1 := by
        show (strOfNums [bt s (n : Int) + 1]).data.size = 1
        rw [← Array.length_toList, strOfNums_data]
        rfl
      rw [hz, ByteArray.size_extract]
      omega
theorem abv_ne (s : ByteArray) (n : Nat) : ((abvS s n).toList != ([] : List UInt8)) = decide (n ≠ 0) := by
  cases n with
  | zero =>
    have : (abvS s 0).toList = [] := (Byt.toList_nil_iff _).2 rfl
    rw [this]
    rfl
  | succ n =>
    have hz : (strOfNums [bt s (n : Int) + 1]).size = 1 := by
      show (strOfNums [bt s (n : Int) + 1]).data.size = 1
      rw [← Array.length_toList, strOfNums_data]
      rfl
    have : ¬ (abvS s (n + 1)).toList = [] := by
      rw [Byt.toList_nil_iff, abv_succ, ByteArray.size_append, hz]
      omega
    rw [bne_iff_ne.mpr this]
    simp

theorem FnExactAboveKey : laws_FnExactAboveKey.Pure := by
  intro a0 hw
  refine Evt.ex (r := true) ?_
  unfold laws_FnExactAboveKey.f
  by_cases hbig : (a0.size : Int) > 1048576
  · exact Evt.pos hbig (Evt.const _)
  · refine Evt.neg hbig ?_
    unfold spec_AboveKey.f impl_AboveKey.f
    by_cases h1 : (a0.size : Int) > 1000
    · rw [if_pos h1]
      refine Evt.bind (Evt.pos h1 (Evt.const _)) (Evt.bsome (Evt.pos rfl (Evt.neg (by simp) (Evt.const _))))
    · rw [if_neg h1]
      have hsp := spec_above a0 (by omega) a0.size (Nat.le_refl _)
      refine Evt.bind (a := (abvS a0 (strip a0 a0.size), decide (strip a0 a0.size ≠ 0))) (Evt.neg h1 (Evt.bind (a := abvS a0 (strip a0 a0.size)) ?_ ?_)) ?_
      · unfold spec_l2Above.f
        rw [w64 (n := (a0.size : Int) - 1) (by omega) (by omega)]
        exact hsp
      · rw [abv_ne]
        exact Evt.const _
      · unfold impl_above.f
        rw [if_pos (by omega)]
        refine Evt.bsome (Evt.bsome (Evt.pos rfl (Evt.neg (by simp) (Evt.const _))))
end Go.Proofs.Ytilgcfhnpnokpaa.Pure
