/- Drawn postings: the draw always answers. No conditions. -/
import Derived.Test.YtilgcfhnpnokpaaSpoilt
import Derived.Test.YtilgcfhnpnokpaaUnp
import Derived.Test.YtilgcfhnpnokpaaPQspecDrawPackPostings
import Derived.Test.YtilgcfhnpnokpaaPQspecDrawUnpackPostings
namespace Go.Proofs.Ytilgcfhnpnokpaa.Posts
set_option linter.unusedVariables false
open Go.RowKit Go.Proofs.Ytilgcfhnpnokpaa.PQ Go.Proofs.YtilgcfhnpnokpaaW.PrintWords Go.Proofs.YtilgcfhnpnokpaaW.PrintLast Go.Proofs.Ytilgcfhnpnokpaa.Pre Go.Proofs.Ytilgcfhnpnokpaa.Cur

theorem postings_l0 {l : List Int} (h : Bytes l) : ∀ (m : Nat) (x : List Po) (at_ a s : Int), x.length + m ≤ 1000 → 0 ≤ a → a + 6 * m + 6 ≤ 4611686018427387000 →
    ∃ t a' s', Evt (fun k => spec_l1Cur_postings.l0 k x at_ (m : Int) l a s) (t, a', s') ∧ t.length ≤ x.length + m ∧ 0 ≤ a' ∧ a' ≤ a + 6 * m + 6
  | 0, x, at_, a, s, hx, h0, h1 => by
    by_cases hp : (x.length : Int) > 0
    · obtain ⟨b, a1, s1, e1, ha0, ha1⟩ := one_ev h a s 20 h0 (by omega)
      cases b with
      | true =>
        obtain ⟨y, a2, s2, e2, _, hb0, hb1⟩ := among_ev h a1 s1 [0, 100, 101] (by simp) (by omega) (by omega)
        refine ⟨x.set (0 : Int).toNat ⟨(rd_T81 x 0).f0, y⟩, a2, s2, Evt.step (fun k => spec_l1Cur_postings.l0.eq_2 _ _ _ _ _ _ k) (Evt.neg (by omega) (Evt.pos hp ?_)), ?_, by omega, by omega⟩
        · rw [e1]
          refine Evt.bsome (Evt.pos rfl ?_)
          rw [e2]
          exact Evt.bsome (Evt.pos (by omega) (Evt.const _))
        · simp
      | false =>
        refine ⟨x, a1, s1, Evt.step (fun k => spec_l1Cur_postings.l0.eq_2 _ _ _ _ _ _ k) (Evt.neg (by omega) (Evt.pos hp ?_)), by omega, by omega, by omega⟩
        rw [e1]
        exact Evt.bsome (Evt.neg (by simp) (Evt.const _))
    · exact ⟨x, a, s, Evt.step (fun k => spec_l1Cur_postings.l0.eq_2 _ _ _ _ _ _ k) (Evt.neg (by omega) (Evt.neg hp (Evt.const _))), by omega, by omega, by omega⟩
  | m + 1, x, at_, a, s, hx, h0, h1 => by
    obtain ⟨y, a1, s1, e1, _, ha0, ha1⟩ := among_ev h a s [0, 0, 1, 5, 126, 127, 128, 2000] (by simp) h0 (by omega)
    obtain ⟨z, a2, s2, e2, _, _, hb0, hb1⟩ := pick_ev h a1 s1 100 (by omega) (by omega)
    obtain ⟨t, a', s', ht, q1, q2, q3⟩ := postings_l0 h m (x ++ [⟨wrap64 (at_ + wrap64 (1 + y)), wrap64 (1 + z)⟩]) (wrap64 (at_ + wrap64 (1 + y))) a2 s2 (by simp; omega) (by omega) (by omega)
    refine ⟨t, a', s', Evt.step (fun k => spec_l1Cur_postings.l0.eq_2 _ _ _ _ _ _ k) (Evt.pos (by omega) ?_), by simp at q1; omega, q2, by omega⟩
    rw [e1]
    refine Evt.bsome ?_
    rw [e2]
    refine Evt.bsome (Evt.pos (by omega) ?_)
    rw [show wrap64 (((m + 1 : Nat) : Int) - 1) = (m : Int) by rw [w64 (by omega) (by omega)]; omega]
    exact ht
theorem postings_ev {l : List Int} (h : Bytes l) : ∃ t a' s', Evt (fun k => spec_l1Cur_postings.f k l 0 0) (t, a', s') ∧ t.length ≤ 7 ∧ 0 ≤ a' ∧ a' ≤ 100 := by
  unfold spec_l1Cur_postings.f
  obtain ⟨x, a1, s1, e1, hx0, hx1, ha0, ha1⟩ := pick_ev h 0 0 7 (by omega) (by omega)
  obtain ⟨t, a', s', ht, q1, q2, q3⟩ := postings_l0 h x.toNat [] (-1) a1 s1 (by simp; omega) (by omega) (by omega)
  refine ⟨t, a', s', ?_, by simp at q1; omega, q2, by omega⟩
  rw [e1]
  refine Evt.bsome ?_
  rw [show ((x.toNat : Nat) : Int) = x by omega] at ht
  exact ht
theorem drawPack {l : List Int} (h : Bytes l) : ∃ t, Evt (fun k => spec_DrawPackPostings.f k l) t ∧ t.length ≤ 7 := by
  obtain ⟨t, a, s, ht, hl, _, _⟩ := postings_ev h
  exact ⟨t, Evt.bind ht (Evt.const _), hl⟩
theorem packed_size (l : List Po) (hl : l.length ≤ 200) : (packed l).1.size ≤ 1000 := by
  unfold packed
  split
  · rename_i h
    have := bytesFrom_len l (-1) (by omega) h.1
    show (strOfNums (bytesFrom (-1) l)).size ≤ 1000
    have e : (strOfNums (bytesFrom (-1) l)).size = (bytesFrom (-1) l).length := by
      show (strOfNums (bytesFrom (-1) l)).data.size = _
      rw [← Array.length_toList, strOfNums_data, List.length_map]
    omega
  · show (0 : Nat) ≤ 1000
    omega
theorem drawUnpack {l : List Int} (h : Bytes l) : ∃ t, Evt (fun k => spec_DrawUnpackPostings.f k l) t ∧ t.size ≤ 2000 := by
  obtain ⟨t, a, s, ht, hl, ha0, ha1⟩ := postings_ev h
  have hp := spec_pack t (by omega)
  have hz := packed_size t (by omega)
  generalize packed t = q at *
  obtain ⟨q1, q2⟩ := q
  replace hz : q1.size ≤ 1000 := hz
  obtain ⟨b, a1, s1, e1, hb0, hb1⟩ := one_ev h a s 3 ha0 (by omega)
  cases b with
  | true =>
    obtain ⟨u, a2, s2, hu, hus⟩ := spoilt_ev h q1 ⟨#[0, 128, 127]⟩ (by decide) a1 s1 (by omega) (by omega) (by omega)
    refine ⟨u, Evt.bind ht (Evt.bind hp ?_), by omega⟩
    show Evt (fun k => (spec_l1Cur_one.f l a s 3).bind _) u
    rw [e1]
    exact Evt.bsome (Evt.pos rfl (Evt.bind hu (Evt.const _)))
  | false =>
    refine ⟨q1, Evt.bind ht (Evt.bind hp ?_), by omega⟩
    show Evt (fun k => (spec_l1Cur_one.f l a s 3).bind _) q1
    rw [e1]
    exact Evt.bsome (Evt.neg (by simp) (Evt.const _))
theorem bytesFrom_two (l : List Po) : ∀ last : Int, 2 * l.length ≤ (bytesFrom last l).length := by
  induction l with
  | nil => intro last; simp [bytesFrom]
  | cons p l ih =>
    intro last
    have h1 := Unp.packN_pos (p.f0 - last - 1).toNat
    have h2 := Unp.packN_pos p.f1.toNat
    have h3 := ih p.f0
    simp only [bytesFrom, List.length_append, List.length_cons]
    omega
end Go.Proofs.Ytilgcfhnpnokpaa.Posts
