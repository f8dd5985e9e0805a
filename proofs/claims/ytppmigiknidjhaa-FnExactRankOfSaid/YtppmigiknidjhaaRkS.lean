/- The reference's ranks are the program's. No conditions. -/
import Derived.Test.YtppmigiknidjhaaRkW
import Derived.Test.YtppmigiknidjhaaBytes
import Derived.Test.YtppmigiknidjhaaIntM
import Derived.Test.YtppmigiknidjhaaPQspecRankOf
namespace Go.Proofs.Ytppmigiknidjhaa.Rk
set_option linter.unusedVariables false
open Go.RowKit Go.Sort Go.Lib Go.Proofs.Ytppmigiknidjhaa.PQ Go.Proofs.YtppmigiknidjhaaW.PrintWords Go.Proofs.YtppmigiknidjhaaW.PrintLast Go.Proofs.Ytppmigiknidjhaa.Pre Go.Proofs.Ytppmigiknidjhaa.Srt Go.Proofs.Ytppmigiknidjhaa.Suf

theorem in_f (a lo hi : Int) : spec_l1In.f a lo hi = some (decide (lo ≤ a ∧ a ≤ hi)) := by
  unfold spec_l1In.f
  by_cases h : a ≥ lo
  · rw [if_pos h]
    simp [h]
  · rw [if_neg h]
    simp
    omega
theorem ext_part (s : ByteArray) (Z i : Nat) : (suf s i).extract 0 Z = part s Z i := by
  apply Byt.toList_inj
  show _ = partL s Z i
  rw [part_eq, ByteArray.toList_eq, ByteArray.toList_eq, ByteArray.data_extract, Array.toList_extract, List.extract_eq_take_drop]
  simp
theorem suf_part (s : ByteArray) (Z i : Nat) (hi : i ≤ s.size) (h : s.size - i ≤ Z) : suf s i = part s Z i := by
  apply Byt.toList_inj
  show _ = partL s Z i
  rw [part_eq, List.take_of_length_le]
  rw [ByteArray.toList_eq]
  show (suf s i).size ≤ Z
  rw [suf_size s i hi]
  exact h
theorem getD_sufs (s : ByteArray) (j : Nat) (hj : j < s.size) : ∃ i : Nat, (sufs s).getD j 0 = (i : Int) ∧ i < s.size ∧ rd (sufs s) (j : Int) = (i : Int) := by
  have hl : j < (sufs s).length := by rw [sufs_len]; exact hj
  obtain ⟨i, e, hi⟩ := sufs_mem s _ (List.getElem_mem hl)
  refine ⟨i, ?_, hi, ?_⟩
  · rw [← e]
    simp [hl]
  · rw [← e]
    exact Ints.rd_get _ j hl
theorem rank_end (s : ByteArray) (rk : Nat → Nat) (out : List Int) (hl : out.length = s.size) (h : ∀ t, t < s.size → out[((sufs s).getD t 0).toNat]? = some ((rk ((sufs s).getD t 0).toNat : Nat) : Int)) : out = (List.range s.size).map (fun i => ((rk i : Nat) : Int)) := by
  apply List.ext_getElem?
  intro i
  by_cases hi : i < s.size
  · have hm : (i : Int) ∈ sufs s := (sufs_perm s).mem_iff.2 (by unfold upTo; exact List.mem_map.2 ⟨i, List.mem_range.2 hi, rfl⟩)
    obtain ⟨t, ht, e⟩ := List.mem_iff_getElem.1 hm
    have ht2 : t < s.size := by rw [← sufs_len s]; exact ht
    have := h t ht2
    rw [List.getD_eq_getElem?_getD, List.getElem?_eq_getElem ht, Option.getD_some, e, Int.toNat_natCast] at this
    rw [this]
    simp [hi]
  · rw [List.getElem?_eq_none (by omega), List.getElem?_eq_none (by simp; omega)]
set_option maxHeartbeats 1000000 in
theorem rank_loop (s : ByteArray) (Z : Nat) (hs : s.size ≤ 120) (hZ : Z ≤ 240) (L : List Int) (hL : L.length = s.size) (hm : ∀ j, j < s.size → ∃ i : Nat, L.getD j 0 = (i : Int) ∧ i < s.size ∧ rd L (j : Int) = (i : Int)) (rk cn : Nat → Nat) (HE : ∀ out : List Int, out.length = s.size → (∀ t, t < s.size → out[(L.getD t 0).toNat]? = some ((rk (L.getD t 0).toNat : Nat) : Int)) → out = (List.range s.size).map (fun i => ((rk i : Nat) : Int))) (H1 : ∀ j, j < s.size → 0 < cn (j + 1) ∧ rk (L.getD j 0).toNat = cn (j + 1) - 1)
    (H2 : ∀ j, j + 1 < s.size → cn (j + 2) = if part s Z (L.getD (j + 1) 0).toNat = part s Z (L.getD j 0).toNat then cn (j + 1) else cn (j + 1) + 1) (H3 : cn 1 = 1) (H4 : ∀ m, cn m ≤ m) : ∀ (m j : Nat) (x8 : List Int) (last : ByteArray) (n : Int) (out : List Int), j + m = s.size → x8.length = j → (j = 0 → n = -1) → (0 < j → n = (cn j : Int) - 1 ∧ last = part s Z (L.getD (j - 1) 0).toNat) → out.length = s.size →
    (∀ t, t < j → out[(L.getD t 0).toNat]? = some ((rk (L.getD t 0).toNat : Nat) : Int)) →
    Evt (fun k => spec_RankOf.l0 k s (Z : Int) x8 last n out L (L.length : Int) (j : Int)) ((List.range s.size).map (fun i => ((rk i : Nat) : Int)), true) := by
  intro m
  induction m with
  | zero =>
    intro j x8 last n out hj hx h0 h1 hl ho
    refine Evt.step (fun k => spec_RankOf.l0.eq_2 _ _ _ _ _ _ _ _ _ k) (Evt.neg (by omega) ((Evt.const _).eq ?_))
    rw [HE out hl (fun t ht => ho t (by omega))]
    have : (x8.length : Int) = (s.size : Int) := by omega
    rw [this]
    simp
  | succ m ih =>
    intro j x8 last n out hj hx h0 h1 hl ho
    obtain ⟨i, ei, hi, er⟩ := hm j (by omega)
    obtain ⟨hc0, hra⟩ := H1 j (by omega)
    rw [ei, Int.toNat_natCast] at hra
    have hcl := H4 (j + 1)
    have fin : ∀ n' : Int, n' = (cn (j + 1) : Int) - 1 → Evt (fun k => spec_RankOf.l0 k s (Z : Int) (x8 ++ [n']) (part s Z i) n' (out.set ((i : Int)).toNat n') L (L.length : Int) ((j + 1 : Nat) : Int)) ((List.range s.size).map (fun i => ((rk i : Nat) : Int)), true) := by
      intro n' hn
      have hn2 : n' = ((rk i : Nat) : Int) := by rw [hn, hra]; omega
      refine ih (j + 1) _ _ _ _ (by omega) (by simp; omega) (by omega) (fun _ => ⟨hn, by rw [Nat.add_sub_cancel, ei, Int.toNat_natCast]⟩) (by simp; omega) ?_
      intro t ht
      rw [Int.toNat_natCast]
      by_cases htj : t = j
      · subst htj
        rw [ei, Int.toNat_natCast, List.getElem?_set_self (by omega), hn2]
      · obtain ⟨i2, ei2, hi2, _⟩ := hm t (by omega)
        by_cases hii : i2 = i
        · subst hii
          rw [ei2, Int.toNat_natCast, List.getElem?_set_self (by omega), hn2]
        · have := ho t (by omega)
          rw [ei2, Int.toNat_natCast] at this ⊢
          rw [List.getElem?_set_ne (by omega)]
          exact this
    refine Evt.step (fun k => spec_RankOf.l0.eq_2 _ _ _ _ _ _ _ _ _ k) (Evt.pos (by omega) (Evt.pos (by omega) (Evt.pos (by omega) ?_)))
    rw [er]
    clear er
    refine Evt.pos (by omega) (Evt.pos (by omega) ?_)
    rw [show s.extract ((i : Int)).toNat s.size = suf s i by rw [Int.toNat_natCast]; rfl, w64 (n := (j : Int) + 1) (by omega) (by omega), show (j : Int) + 1 = ((j + 1 : Nat) : Int) by omega]
    have hnb : -1 ≤ n ∧ n ≤ 200 := by
      by_cases hj0 : j = 0
      · have := h0 hj0
        omega
      · have h2 := (h1 (by omega)).1
        have := H4 j
        omega
    rw [w64 (n := n + 1) (by omega) (by omega)]
    by_cases hz : Z < s.size - i
    case' pos =>
      refine Evt.pos (by rw [suf_size s i (by omega)]; omega) (Evt.pos (by omega) (Evt.pos (by rw [suf_size s i (by omega)]; omega) ?_))
      rw [Int.toNat_natCast Z, ext_part]
    case' neg =>
      refine Evt.neg (by rw [suf_size s i (by omega)]; omega) ?_
      rw [suf_part s Z i (by omega) (by omega)]
    all_goals
      by_cases hj0 : j = 0
      · subst hj0
        have e1 := H3
        have hn := h0 rfl
        exact Evt.pos (by omega) (Evt.pos (by omega) (Evt.pos (by omega) (fin (n + 1) (by omega))))
      · obtain ⟨a1, a2⟩ := h1 (by omega)
        have hc := (H1 (j - 1) (by omega)).1
        rw [show j - 1 + 1 = j by omega] at hc
        have hs1 := H2 (j - 1) (by omega)
        rw [show j - 1 + 1 = j by omega, show j - 1 + 2 = j + 1 by omega, ei, Int.toNat_natCast, ← a2] at hs1
        refine Evt.neg (by omega) ?_
        by_cases he : part s Z i = last
        · rw [if_pos he] at hs1
          exact Evt.pos (by rw [he]) (Evt.pos (by omega) (Evt.pos (by omega) (fin n (by omega))))
        · rw [if_neg he] at hs1
          exact Evt.neg (fun h => he (Byt.toList_inj h)) (Evt.pos (by omega) (Evt.pos (by omega) (fin (n + 1) (by omega))))
theorem specRank_ev (s : ByteArray) (a d : Int) (ha : (Lit.int .i64 a).wf = true) : Evt (fun k => spec_RankOf.f k s a d) (ansRank s a d) := by
  unfold spec_RankOf.f ansRank
  have bad : Evt (fun k => spec_RankOf.j0 k s a d true) (([] : List Int), false) := Evt.step (fun k => spec_RankOf.j0.eq_2 _ _ _ _ k) (Evt.pos rfl (Evt.const _))
  by_cases hs : s.size ≤ 120
  · refine Evt.neg (by omega) ?_
    rw [in_f, in_f]
    by_cases ha2 : 1 ≤ a ∧ a ≤ 120
    · refine Evt.bsome (Evt.pos (by simpa using ha2) (Evt.bsome ?_))
      by_cases hd : 0 ≤ d ∧ d ≤ 1
      · rw [if_pos ⟨hs, ha2.1, ha2.2, hd.1, hd.2⟩]
        rw [decide_eq_true hd]
        have main : ∀ Z : Nat, Z ≤ 240 → Evt (fun k => spec_RankOf.j1 k s (Z : Int)) (ranks s Z, true) := by
          intro Z hZ
          refine Evt.step (fun k => spec_RankOf.j1.eq_2 _ _ k) (Evt.pos (by omega) (Evt.pos (by omega) (Evt.bind (spec_suffixes s (by omega)) ?_)))
          exact rank_loop s Z hs hZ (sufs s) (sufs_len s) (getD_sufs s) (rank s Z) (cnt s Z) (rank_end s (rank s Z)) (rank_at s Z) (cnt_succ s Z) (cnt_one s Z) (cnt_le s Z) s.size 0 [] _ (-1) _ (by omega) rfl (fun _ => rfl) (fun h => absurd h (by omega)) (by simp) (fun t ht => absurd ht (by omega))
        refine Evt.step (fun k => spec_RankOf.j0.eq_2 _ _ _ _ k) (Evt.neg (by simp) ?_)
        by_cases hd1 : d = 1
        · rw [if_pos hd1]
          refine Evt.pos hd1 ?_
          have := main (a * 2).toNat (by omega)
          rw [w64 (by omega) (by omega)]
          rw [show (((a * 2).toNat : Nat) : Int) = a * 2 by omega] at this
          exact this
        · rw [if_neg hd1]
          refine Evt.neg hd1 ?_
          have := main a.toNat (by omega)
          rw [show ((a.toNat : Nat) : Int) = a by omega] at this
          exact this
      · rw [if_neg (fun h => hd ⟨h.2.2.2.1, h.2.2.2.2⟩), decide_eq_false hd]
        exact bad
    · rw [if_neg (fun h => ha2 ⟨h.2.1, h.2.2.1⟩)]
      exact Evt.bsome (Evt.neg (by simpa using ha2) bad)
  · rw [if_neg (fun h => hs h.1)]
    exact Evt.pos (by omega) bad
theorem ansRank_len (s : ByteArray) (a d : Int) : (ansRank s a d).1.length ≤ 120 := by
  unfold ansRank
  split
  · rename_i h
    simp [ranks]
    omega
  · simp
end Go.Proofs.Ytppmigiknidjhaa.Rk
