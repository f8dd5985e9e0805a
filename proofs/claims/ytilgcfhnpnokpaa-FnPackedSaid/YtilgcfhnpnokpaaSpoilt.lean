/- (*l1Cur).spoilt always answers; and (*l1Cur).postings. No conditions. -/
import Derived.Test.YtilgcfhnpnokpaaCur
import Derived.Test.YtilgcfhnpnokpaaPQspecl1Curspoilt
namespace Go.Proofs.Ytilgcfhnpnokpaa.Cur
set_option linter.unusedVariables false
open Go.RowKit Go.Proofs.Ytilgcfhnpnokpaa.PQ Go.Proofs.YtilgcfhnpnokpaaW.PrintWords Go.Proofs.YtilgcfhnpnokpaaW.PrintLast Go.Proofs.Ytilgcfhnpnokpaa.Pre

theorem str1 (c : Int) : (strOfNums [c]).size = 1 := by
  show (strOfNums [c]).data.size = 1
  rw [← Array.length_toList, strOfNums_data]
  rfl
theorem spoilt_l0 {l : List Int} (h : Bytes l) (x2 : ByteArray) (h2 : 0 < x2.size) : ∀ (m : Nat) (x1 : ByteArray) (a s : Int), x1.size + m ≤ 4194304 → 0 ≤ a → a + 6 * m ≤ 4611686018427387000 →
    ∃ t a' s', Evt (fun k => spec_l1Cur_spoilt.l0 k x1 x2 (m : Int) l a s) (t, a', s') ∧ t.size ≤ x1.size + m
  | 0, x1, a, s, hx, h0, h1 => ⟨x1, a, s, Evt.step (fun k => spec_l1Cur_spoilt.l0.eq_2 _ _ _ _ _ _ k) (Evt.neg (by omega) (Evt.step (fun k => spec_l1Cur_spoilt.j1.eq_2 _ _ _ _ _ _ _ k) (Evt.neg (by simp) (Evt.const _)))), by omega⟩
  | m + 1, x1, a, s, hx, h0, h1 => by
    by_cases hp : (x1.size : Int) > 0
    · obtain ⟨x, a1, s1, e1, hx0, hx1, ha0, ha1⟩ := pick_ev h a s (x1.size : Int) h0 (by omega)
      obtain ⟨y, a2, s2, e2, hy0, hy1, hb0, hb1⟩ := pick_ev h a1 s1 (x2.size : Int) (by omega) (by omega)
      obtain ⟨z, a3, s3, e3, hz0, hz1, hc0, hc1⟩ := pick_ev h a2 s2 3 (by omega) (by omega)
      have hxs : x < (x1.size : Int) := by omega
      have hys : y < (x2.size : Int) := by omega
      have hw : wrap64 (((m + 1 : Nat) : Int) - 1) = (m : Int) := by
        rw [w64 (by omega) (by omega)]
        omega
      have hx1w : wrap64 (x + 1) = x + 1 := w64 (by omega) (by omega)
      have g1 : (x1.extract 0 x.toNat).size = x.toNat := by rw [ByteArray.size_extract]; omega
      have g2 : (x1.extract x.toNat x1.size).size = x1.size - x.toNat := by rw [ByteArray.size_extract]; omega
      have g3 : (x1.extract (x + 1).toNat x1.size).size = x1.size - (x.toNat + 1) := by rw [ByteArray.size_extract]; omega
      have fin : ∀ (x3 : ByteArray), x3.size ≤ x1.size + 1 → ∃ t a' s', Evt (fun k => spec_l1Cur_spoilt.l0 k x3 x2 (m : Int) l a3 s3) (t, a', s') ∧ t.size ≤ x1.size + (m + 1) := fun x3 h3 => by
        obtain ⟨t, a', s', ht, hs⟩ := spoilt_l0 h x2 h2 m x3 a3 s3 (by omega) (by omega) (by omega)
        exact ⟨t, a', s', ht, by omega⟩
      have start : ∀ r, Evt (fun k => spec_l1Cur_spoilt.j1 k x1 x2 ((m + 1 : Nat) : Int) true l a s) r → Evt (fun k => spec_l1Cur_spoilt.l0 k x1 x2 ((m + 1 : Nat) : Int) l a s) r := fun r hr => by
        refine Evt.step (fun k => spec_l1Cur_spoilt.l0.eq_2 _ _ _ _ _ _ k) (Evt.pos (by omega) ?_)
        rw [decide_eq_true hp]
        exact hr
      by_cases hz : z = 0
      · obtain ⟨t, a', s', ht, hs⟩ := fin ((x1.extract 0 x.toNat ++ strOfNums [bt x2 y]) ++ x1.extract x.toNat x1.size) (by rw [ByteArray.size_append, ByteArray.size_append, g1, g2, str1]; omega)
        refine ⟨t, a', s', start _ (Evt.step (fun k => spec_l1Cur_spoilt.j1.eq_2 _ _ _ _ _ _ _ k) (Evt.pos rfl ?_)), hs⟩
        rw [e1]
        refine Evt.bsome ?_
        rw [e2]
        refine Evt.bsome (Evt.pos hy0 (Evt.pos hys (Evt.bsome ?_)))
        rw [e3, hw]
        refine Evt.bsome (Evt.pos hz (Evt.pos hx0 (Evt.pos (by omega) (Evt.pos ?_ (Evt.pos ?_ ht)))))
        · rw [g1, str1]; omega
        · rw [ByteArray.size_append, g1, g2, str1]; omega
      · by_cases hz2 : z = 1
        · obtain ⟨t, a', s', ht, hs⟩ := fin ((x1.extract 0 x.toNat ++ strOfNums [bt x2 y]) ++ x1.extract (x + 1).toNat x1.size) (by rw [ByteArray.size_append, ByteArray.size_append, g1, g3, str1]; omega)
          refine ⟨t, a', s', start _ (Evt.step (fun k => spec_l1Cur_spoilt.j1.eq_2 _ _ _ _ _ _ _ k) (Evt.pos rfl ?_)), hs⟩
          rw [e1]
          refine Evt.bsome ?_
          rw [e2]
          refine Evt.bsome (Evt.pos hy0 (Evt.pos hys (Evt.bsome ?_)))
          rw [e3, hw, hx1w]
          refine Evt.bsome (Evt.neg hz (Evt.pos hz2 (Evt.pos hx0 (Evt.pos (by omega) (Evt.pos ?_ (Evt.pos (by omega) (Evt.pos (by omega) (Evt.pos ?_ ht))))))))
          · rw [g1, str1]; omega
          · rw [ByteArray.size_append, g1, g3, str1]; omega
        · obtain ⟨t, a', s', ht, hs⟩ := fin (x1.extract 0 x.toNat ++ x1.extract (x + 1).toNat x1.size) (by rw [ByteArray.size_append, g1, g3]; omega)
          refine ⟨t, a', s', start _ (Evt.step (fun k => spec_l1Cur_spoilt.j1.eq_2 _ _ _ _ _ _ _ k) (Evt.pos rfl ?_)), hs⟩
          rw [e1]
          refine Evt.bsome ?_
          rw [e2]
          refine Evt.bsome (Evt.pos hy0 (Evt.pos hys (Evt.bsome ?_)))
          rw [e3, hw, hx1w]
          refine Evt.bsome (Evt.neg hz (Evt.neg hz2 (Evt.pos hx0 (Evt.pos (by omega) (Evt.pos (by omega) (Evt.pos (by omega) (Evt.pos ?_ ht)))))))
          rw [g1, g3]; omega
    · refine ⟨x1, a, s, Evt.step (fun k => spec_l1Cur_spoilt.l0.eq_2 _ _ _ _ _ _ k) (Evt.pos (by omega) ?_), by omega⟩
      rw [decide_eq_false hp]
      exact Evt.step (fun k => spec_l1Cur_spoilt.j1.eq_2 _ _ _ _ _ _ _ k) (Evt.neg (by simp) (Evt.const _))
theorem spoilt_ev {l : List Int} (h : Bytes l) (x1 x2 : ByteArray) (h2 : 0 < x2.size) (a s : Int) (hx : x1.size ≤ 4194000) (h0 : 0 ≤ a) (h1 : a ≤ 4611686018427380000) :
    ∃ t a' s', Evt (fun k => spec_l1Cur_spoilt.f k l a s x1 x2) (t, a', s') ∧ t.size ≤ x1.size + 2 := by
  unfold spec_l1Cur_spoilt.f
  obtain ⟨x, a1, s1, e1, hx0, hx1, ha0, ha1⟩ := pick_ev h a s 3 h0 (by omega)
  obtain ⟨t, a', s', ht, hs⟩ := spoilt_l0 h x2 h2 x.toNat x1 a1 s1 (by omega) (by omega) (by omega)
  refine ⟨t, a', s', ?_, by omega⟩
  rw [e1]
  refine Evt.bsome ?_
  rw [show ((x.toNat : Nat) : Int) = x by omega] at ht
  exact ht
end Go.Proofs.Ytilgcfhnpnokpaa.Cur
