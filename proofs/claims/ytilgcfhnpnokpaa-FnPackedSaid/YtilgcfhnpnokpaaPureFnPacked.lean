/- The law FnPacked returns true at all choices. No conditions. -/
import Derived.Test.YtilgcfhnpnokpaaPostD
import Derived.Test.YtilgcfhnpnokpaaPQlawsFnPacked
namespace Go.Proofs.Ytilgcfhnpnokpaa.Pure
open Go.RowKit Go.Proofs.Ytilgcfhnpnokpaa.PQ Go.Proofs.YtilgcfhnpnokpaaW.PrintWords Go.Proofs.YtilgcfhnpnokpaaW.PrintLast Go.Proofs.Ytilgcfhnpnokpaa.Pre Go.Proofs.Ytilgcfhnpnokpaa.Posts

theorem same_self (l : List Po) (hl : l.length ≤ 1048576) : Evt (fun k => laws_samePostings.f k l l) true := by
  unfold laws_samePostings.f
  refine Evt.pos rfl ?_
  have key : ∀ (m i : Nat), i + m = l.length → Evt (fun k => laws_samePostings.l0 k l l (l.length : Int) (i : Int)) true := by
    intro m
    induction m with
    | zero => intro i hi; exact Evt.step (fun k => laws_samePostings.l0.eq_2 _ _ _ _ k) (Evt.neg (by omega) (Evt.const _))
    | succ m ih =>
      intro i hi
      refine Evt.step (fun k => laws_samePostings.l0.eq_2 _ _ _ _ k) (Evt.pos (by omega) (Evt.pos (by omega) (Evt.pos (by omega) (Evt.pos (by omega) (Evt.neg (by simp) ?_)))))
      rw [w64 (n := (i : Int) + 1) (by omega) (by omega)]
      exact ih (i + 1) (by omega)
  exact key l.length 0 (by omega)
theorem packed_j2 (t : ByteArray) (m : List Po) (b : Bool) (hm : m.length ≤ 200) (h1 : b = true → packed m = (t, true)) (h2 : b = false → m = []) : Evt (fun k => laws_FnPacked.j2 k t m b false) true := by
  refine Evt.step (fun k => laws_FnPacked.j2.eq_2 _ _ _ _ k) (Evt.neg (by simp) ?_)
  cases b with
  | true =>
    refine Evt.pos rfl (Evt.bind (impl_pack m (by omega)) ?_)
    rw [h1 rfl]
    exact Evt.pos rfl ((Evt.const _).eq (by simp))
  | false =>
    rw [h2 rfl]
    exact Evt.neg (by simp) (Evt.const _)
theorem packed_j1 (l1 : List Int) (h : Cur.Bytes l1) : Evt (fun k => laws_FnPacked.j1 k l1) true := by
  obtain ⟨t, ht, hz⟩ := drawUnpack h
  obtain ⟨m, b, hs, hi, q1, q2, hm⟩ := Unp.both t (by omega)
  refine Evt.step (fun k => laws_FnPacked.j1.eq_2 _ k) (Evt.bind ht (Evt.bind hi (Evt.bind hs (Evt.neg (by simp) (Evt.bind (same_self m (by omega)) ?_)))))
  exact packed_j2 t m b hm q1 q2
theorem FnPacked : laws_FnPacked.Pure := by
  intro l0 l1 _ _ w0 _ _ w1
  refine Evt.ex (r := true) ?_
  unfold laws_FnPacked.f
  by_cases hbig : (wrap64 ((l0.length : Int) + (l1.length : Int))) > 1048576
  · exact Evt.pos hbig (Evt.const _)
  · have hb0 := Cur.bytes_wf w0
    have hb1 := Cur.bytes_wf w1
    have hj1 := packed_j1 l1 hb1
    obtain ⟨t, ht, hz⟩ := drawPack hb0
    have h1 := impl_pack t (by omega)
    have h2 := spec_pack t (by omega)
    refine Evt.neg hbig (Evt.bind ht (Evt.bind h1 (Evt.bind h2 (Evt.neg (by simp) ?_))))
    refine Evt.step (fun k => laws_FnPacked.j0.eq_2 _ _ _ _ _ k) (Evt.neg (by simp) ?_)
    by_cases hk : okFrom 10000 (-1) t = true ∧ t.length ≤ 200
    · have hp : packed t = (strOfNums (bytesFrom (-1) t), true) := by unfold packed; rw [if_pos hk]
      have hc := Unp.impl_complete (strOfNums (bytesFrom (-1) t)) t [] (-1) (by simp; omega) (by omega) (by omega) hk.1 hp
      rw [hp]
      refine Evt.pos rfl (Evt.bind hc (Evt.pos rfl (Evt.bind (same_self t (by omega)) (Evt.pos rfl (Evt.neg ?_ hj1)))))
      have h3 := bytesFrom_two t (-1)
      have e : (strOfNums (bytesFrom (-1) t)).size = (bytesFrom (-1) t).length := by
        show (strOfNums (bytesFrom (-1) t)).data.size = _
        rw [← Array.length_toList, strOfNums_data, List.length_map]
      show ¬ (((strOfNums (bytesFrom (-1) t)).size : Int) < wrap64 (2 * (t.length : Int)))
      rw [w64 (by omega) (by omega), e]
      omega
    · have hp : packed t = (⟨#[]⟩, false) := by unfold packed; rw [if_neg hk]
      rw [hp]
      exact Evt.neg (by simp) hj1
end Go.Proofs.Ytilgcfhnpnokpaa.Pure
