/- The reference's view of rankings is the program's. No conditions. -/
import Derived.Test.YtilgcfhnpnokpaaRankG
import Derived.Test.YtilgcfhnpnokpaaPQspecGoodRankings
namespace Go.Proofs.Ytilgcfhnpnokpaa.RankP
set_option linter.unusedVariables false
set_option linter.unusedSimpArgs false
open Go.RowKit Go.Proofs.Ytilgcfhnpnokpaa.PQ Go.Proofs.YtilgcfhnpnokpaaW.PrintWords Go.Proofs.YtilgcfhnpnokpaaW.PrintLast Go.Proofs.Ytilgcfhnpnokpaa.Pre Go.Proofs.Ytilgcfhnpnokpaa.Rank Go.Proofs.Ytilgcfhnpnokpaa.RankG

theorem rd_at (l : List Sc) (i : Nat) (h : i < l.length) : rd_T110 l (i : Int) = l[i] := by
  unfold rd_T110
  rw [Int.toNat_natCast, List.getD_eq_getElem?_getD, List.getElem?_eq_getElem h]
  rfl
theorem rd_atR (l : List Rk) (i : Nat) (h : i < l.length) : rd_T108 l (i : Int) = l[i] := by
  unfold rd_T108
  rw [Int.toNat_natCast, List.getD_eq_getElem?_getD, List.getElem?_eq_getElem h]
  rfl
theorem in_ev (a b c : Int) : spec_l1In.f a b c = some (decide (b ≤ a ∧ a ≤ c)) := by
  unfold spec_l1In.f
  by_cases h1 : a ≥ b
  · rw [if_pos h1]
    congr 1
    by_cases h2 : a ≤ c
    · rw [decide_eq_true h2, decide_eq_true ⟨h1, h2⟩]
    · rw [decide_eq_false h2, decide_eq_false (fun e => h2 e.2)]
  · rw [if_neg h1, decide_eq_false (fun e => h1 e.1)]
theorem less_ev (y x : Sc) : spec_l11Less.f y.f0 y.f1 x.f0 x.f1 = some (Rank.ahead y x) := by
  unfold spec_l11Less.f Rank.ahead
  by_cases h1 : y.f1 > x.f1
  · rw [if_pos h1]
    simp [show x.f1 < y.f1 from h1]
  · rw [if_neg h1]
    by_cases h2 : y.f1 = x.f1
    · rw [if_pos h2]
      simp [h2]
    · rw [if_neg h2]
      have h3 : ¬ x.f1 < y.f1 := h1
      have h4 : ¬ x.f1 = y.f1 := fun e => h2 e.symm
      simp [h3, h4]
theorem l2_ev (x0 x9 : List Rk) (x10 x11 : Int) (x16 : List Sc) (x17 x18 : Int) (ys l : List Sc) (id sc : Int) (hl : ys.length ≤ 1048576) (r : Bool)
    (hn : (∀ y ∈ ys, y.f0 ≠ id) → Evt (fun k => spec_GoodRankings.l1 k x0 x9 x10 x11 x16 x17 (wrap64 (x18 + 1)) l) r) (hr : (∃ y ∈ ys, y.f0 = id) → r = false) :
    ∀ n i : Nat, i + n = ys.length → (∀ y ∈ ys.take i, y.f0 ≠ id) → Evt (fun k => spec_GoodRankings.l2 k x0 x9 x10 x11 x16 x17 x18 ys (ys.length : Int) (i : Int) l id sc) r := by
  intro n
  induction n with
  | zero =>
    intro i hi h
    refine Evt.step (fun k => spec_GoodRankings.l2.eq_2 _ _ _ _ _ _ _ _ _ _ _ _ _ k) (Evt.neg (by omega) (hn ?_))
    rwa [List.take_of_length_le (by omega)] at h
  | succ n ih =>
    intro i hi h
    refine Evt.step (fun k => spec_GoodRankings.l2.eq_2 _ _ _ _ _ _ _ _ _ _ _ _ _ k) (Evt.pos (by omega) (Evt.pos (by omega) (Evt.pos (by omega) ?_)))
    rw [rd_at ys i (by omega)]
    by_cases he : ys[i].f0 = id
    · exact Evt.pos he ((Evt.const _).eq (hr ⟨ys[i], List.getElem_mem _, he⟩).symm)
    · refine Evt.neg he ?_
      rw [w64 (n := (i : Int) + 1) (by omega) (by omega)]
      refine ih (i + 1) (by omega) (fun y hy => ?_)
      rw [List.take_succ_eq_append_getElem (by omega), List.mem_append, List.mem_singleton] at hy
      rcases hy with hy | rfl
      · exact h y hy
      · exact he
theorem mem_map (l : List Sc) (i : Nat) (id : Int) : id ∈ (l.take i).map (·.f0) ↔ ∃ y ∈ l.take i, y.f0 = id := by
  rw [List.mem_map]
theorem j3_ev (x0 x9 : List Rk) (x10 x11 : Int) (l : List Sc) (i : Nat) (id sc : Int) (hl : l.length ≤ 1048576) (hi : i < l.length) (r : Bool)
    (hn : id ∉ (l.take i).map (·.f0) → Evt (fun k => spec_GoodRankings.l1 k x0 x9 x10 x11 l (l.length : Int) ((i + 1 : Nat) : Int) l) r) (hr : id ∈ (l.take i).map (·.f0) → r = false) :
    Evt (fun k => spec_GoodRankings.j3 k x0 (i : Int) x9 x10 x11 l (l.length : Int) (i : Int) false l id sc) r := by
  refine Evt.step (fun k => spec_GoodRankings.j3.eq_2 _ _ _ _ _ _ _ _ _ _ _ _ k) (Evt.neg (by simp) (Evt.pos (by omega) (Evt.pos (by omega) (Evt.bsome ?_))))
  rw [Int.toNat_natCast]
  have ht : (l.take i).length ≤ 1048576 := by rw [List.length_take]; omega
  refine l2_ev x0 x9 x10 x11 l (l.length : Int) (i : Int) (l.take i) l id sc ht r (fun h => ?_) (fun h => hr ((mem_map l i id).2 h)) (l.take i).length 0 (by omega) (by simp)
  rw [w64 (n := (i : Int) + 1) (by omega) (by omega)]
  exact hn (fun hm => by obtain ⟨y, hy, e⟩ := (mem_map l i id).1 hm; exact h y hy e)
theorem l1_ev (x0 x9 : List Rk) (x10 x11 : Int) (l : List Sc) (hl : l.length ≤ 1048576) (r : Bool) (hn : Evt (fun k => spec_GoodRankings.l0 k x0 x9 x10 (wrap64 (x11 + 1))) r) :
    ∀ n i : Nat, i + n = l.length → Evt (fun k => spec_GoodRankings.l1 k x0 x9 x10 x11 l (l.length : Int) (i : Int) l) ((List.range' i n).all (entryOK l) && (decide (l.length ≤ 60) && r)) := by
  intro n
  induction n with
  | zero =>
    intro i hi
    refine Evt.step (fun k => spec_GoodRankings.l1.eq_2 _ _ _ _ _ _ _ _ k) (Evt.neg (by omega) ?_)
    by_cases h60 : (l.length : Int) > 60
    · refine Evt.pos h60 ((Evt.const _).eq ?_)
      rw [decide_eq_false (by omega)]
      simp
    · refine Evt.neg h60 (hn.eq ?_)
      rw [decide_eq_true (by omega)]
      simp
  | succ n ih =>
    intro i hi
    have ih := ih (i + 1) (by omega)
    refine Evt.step (fun k => spec_GoodRankings.l1.eq_2 _ _ _ _ _ _ _ _ k) (Evt.pos (by omega) (Evt.pos (by omega) (Evt.pos (by omega) ?_)))
    obtain ⟨x, hx⟩ : ∃ x, x = rd_T110 l (i : Int) := ⟨_, rfl⟩
    rw [List.range'_succ, List.all_cons]
    simp only [← hx, in_ev]
    have hbadj : ∀ b : Bool, entryOK l i = false → b = true → Evt (fun k => spec_GoodRankings.j2 k x0 (i : Int) x9 x10 x11 l (l.length : Int) (i : Int) b l x.f0 x.f1) ((entryOK l i && (List.range' (i + 1) n).all (entryOK l)) && (decide (l.length ≤ 60) && r)) := by
      intro b he hb
      subst hb
      rw [he]
      exact Evt.step (fun k => spec_GoodRankings.j2.eq_2 _ _ _ _ _ _ _ _ _ _ _ _ k) (Evt.pos rfl (Evt.const _))
    refine Evt.bsome ?_
    by_cases hB : (1 ≤ x.f1 ∧ x.f1 ≤ 1000000)
    · refine Evt.pos (decide_eq_true hB) (Evt.bsome ?_)
      by_cases hA : (0 ≤ x.f0 ∧ x.f0 ≤ 1000)
      · rw [decide_eq_true hA, Bool.not_true]
        refine Evt.step (fun k => spec_GoodRankings.j2.eq_2 _ _ _ _ _ _ _ _ _ _ _ _ k) (Evt.neg (by simp) ?_)
        have hfin : (x.f0 ∈ (l.take i).map (·.f0) → entryOK l i = false) → (x.f0 ∉ (l.take i).map (·.f0) → entryOK l i = true) → Evt (fun k => spec_GoodRankings.j3 k x0 (i : Int) x9 x10 x11 l (l.length : Int) (i : Int) false l x.f0 x.f1) ((entryOK l i && (List.range' (i + 1) n).all (entryOK l)) && (decide (l.length ≤ 60) && r)) := by
          intro h1 h2
          refine j3_ev x0 x9 x10 x11 l i x.f0 x.f1 hl (by omega) _ (fun hm => ?_) (fun hm => ?_)
          · rw [h2 hm, Bool.true_and]
            exact ih
          · rw [h1 hm]
            rfl
        by_cases h0 : i = 0
        · refine Evt.neg (by omega) (hfin (fun hm => ?_) (fun hm => ?_))
          · subst h0
            simp at hm
          · have ex := hx
            subst h0
            rw [entry_zero, ← ex, decide_eq_true hA, decide_eq_true hB]
            rfl
        · obtain ⟨j, rfl⟩ : ∃ j, i = j + 1 := ⟨i - 1, by omega⟩
          refine Evt.pos (by omega) ?_
          have hj : wrap64 (((j + 1 : Nat) : Int) - 1) = (j : Int) := by rw [w64 (by omega) (by omega)]; omega
          rw [hj]
          refine Evt.pos (by omega) (Evt.pos (by omega) ?_)
          obtain ⟨y, hy⟩ : ∃ y, y = rd_T110 l (j : Int) := ⟨_, rfl⟩
          have hen := entry_succ l j y x hy hx
          rw [decide_eq_true hA, decide_eq_true hB] at hen
          simp only [← hy, less_ev]
          refine Evt.bsome ?_
          by_cases hP : Rank.ahead y x = true
          · rw [hP] at hen ⊢
            refine hfin (fun hm => ?_) (fun hm => ?_)
            · rw [hen, decide_eq_true hm]
              rfl
            · rw [hen, decide_eq_false hm]
              rfl
          · rw [Bool.eq_false_iff.2 hP] at hen ⊢
            rw [Bool.and_false] at hen
            rw [hen]
            exact Evt.step (fun k => spec_GoodRankings.j3.eq_2 _ _ _ _ _ _ _ _ _ _ _ _ k) (Evt.pos rfl (Evt.const _))
      · refine hbadj _ ?_ ?_
        · unfold entryOK
          simp only [← hx]
          rw [decide_eq_false hA]
          rfl
        · rw [decide_eq_false hA]
          rfl
    · refine Evt.neg (by rw [decide_eq_false hB]; simp) (hbadj true ?_ rfl)
      unfold entryOK
      simp only [← hx]
      rw [decide_eq_false hB]
      simp
theorem range_all (l : List Sc) : ((List.range' 0 l.length).all (entryOK l) && decide (l.length ≤ 60)) = rankOK l := by
  unfold rankOK
  rw [List.range_eq_range', Bool.and_comm]
theorem spec_ev (L : List Rk) (hL : L.length ≤ 1048576) (hl : ∀ x ∈ L, x.f0.length ≤ 1048576) : Evt (fun k => spec_GoodRankings.f k L) (good L) := by
  have key : ∀ n i : Nat, i + n = L.length → Evt (fun k => spec_GoodRankings.l0 k L L (L.length : Int) (i : Int)) (!(L.drop i).any bad && decide (L.length ≤ 5)) := by
    intro n
    induction n with
    | zero =>
      intro i hi
      refine Evt.step (fun k => spec_GoodRankings.l0.eq_2 _ _ _ _ k) (Evt.neg (by omega) ((Evt.const _).eq ?_))
      rw [List.drop_of_length_le (by omega)]
      by_cases h5 : L.length ≤ 5
      · rw [decide_eq_true h5, decide_eq_true (by omega)]
        rfl
      · rw [decide_eq_false h5, decide_eq_false (by omega)]
        rfl
    | succ n ih =>
      intro i hi
      have hlt : i < L.length := by omega
      have ih := ih (i + 1) (by omega)
      refine Evt.step (fun k => spec_GoodRankings.l0.eq_2 _ _ _ _ k) (Evt.pos (by omega) (Evt.pos (by omega) (Evt.pos (by omega) ?_)))
      rw [rd_atR L i hlt]
      have hs := l1_ev L L (L.length : Int) (i : Int) L[i].f0 (hl _ (List.getElem_mem _)) (!(L.drop (i + 1)).any bad && decide (L.length ≤ 5)) (by rw [w64 (n := (i : Int) + 1) (by omega) (by omega)]; exact ih) L[i].f0.length 0 (by omega)
      refine hs.eq ?_
      rw [← Bool.and_assoc, range_all, List.drop_eq_getElem_cons hlt, List.any_cons, Bool.not_or, Bool.and_assoc]
      unfold bad
      rw [Bool.not_not]
  refine (key L.length 0 (by omega)).eq ?_
  unfold good
  rw [List.drop_zero, Bool.and_comm]
end Go.Proofs.Ytilgcfhnpnokpaa.RankP
