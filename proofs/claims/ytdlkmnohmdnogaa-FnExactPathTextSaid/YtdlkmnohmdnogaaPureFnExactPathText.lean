/- The law FnExactPathText returns true at every list of texts. No conditions. -/
import Derived.Test.YtdlkmnohmdnogaaPQlawsFnExactPathText
import Derived.Test.YtdlkmnohmdnogaaPth
namespace Go.Proofs.Ytdlkmnohmdnogaa.Pure
set_option linter.unusedVariables false
open Go.RowKit Go.Proofs.Ytdlkmnohmdnogaa.PQ Go.Proofs.YtdlkmnohmdnogaaW.PrintWords Go.Proofs.YtdlkmnohmdnogaaW.PrintLast Go.Proofs.Ytdlkmnohmdnogaa.Pre Go.Proofs.Ytdlkmnohmdnogaa.PtS Go.Proofs.Ytdlkmnohmdnogaa.Pth

theorem toS_ev (l : List ByteArray) (hl : l.length ≤ 1048576) : Evt (fun k => laws_toStringS.f k l) l := by
  unfold laws_toStringS.f
  refine Evt.pos (by omega) (Evt.pos (by omega) ?_)
  have h := fill (L := fun k acc i => laws_toStringS.l0 k l acc i) (f := fun i => l.getD i ByteArray.empty) (n := l.length) ?_ ?_ (List.replicate ((l.length : Int)).toNat (⟨#[]⟩ : ByteArray)) (by simp)
  · have e := map_range l ByteArray.empty (fun x => x)
    rw [List.map_id'] at e
    rw [e] at h
    exact h
  · intro acc ha
    refine Evt.step (fun k => laws_toStringS.l0.eq_2 _ _ _ k) (Evt.neg (by omega) (Evt.const _))
  · intro acc i r hi ha hr
    refine Evt.step (fun k => laws_toStringS.l0.eq_2 _ _ _ k) (Evt.pos (by omega) (Evt.pos (by omega) (Evt.pos (by omega) ?_)))
    rw [w64 (n := (i : Int) + 1) (by omega) (by omega)]
    exact hr
def SmallS (l : List ByteArray) : Prop := l.length ≤ 1048576 ∧ ∀ s ∈ l, s.size ≤ 1048576
theorem szS_ev (l : List ByteArray) (hl : l.length ≤ 9223372036854775807) (hx : ∀ x ∈ l, x.size ≤ 9223372036854775807) (c : Int) (hc0 : 0 ≤ c) (hc1 : c ≤ 1048576) : ∃ r : Int, Evt (fun k => laws_szStringS.f k l c) r ∧ (0 ≤ r → SmallS l) := by
  unfold laws_szStringS.f
  rw [w64 (n := c - (l.length : Int)) (by omega) (by omega)]
  by_cases hbig : (l.length : Int) ≤ c
  · have key : ∀ (m i : Nat) (a : Int), i + m = l.length → 0 ≤ a → a ≤ 1048576 → (∀ x ∈ l.take i, x.size ≤ 1048576) → ∃ r : Int, Evt (fun k => laws_szStringS.l0 k l a (i : Int)) r ∧ (0 ≤ r → SmallS l) := by
      intro m
      induction m with
      | zero =>
        intro i a hi h0 h1 ht
        refine ⟨a, Evt.step (fun k => laws_szStringS.l0.eq_2 _ _ _ k) (Evt.neg (by omega) (Evt.const _)), fun _ => ⟨by omega, ?_⟩⟩
        rwa [List.take_of_length_le (by omega)] at ht
      | succ m ih =>
        intro i a hi h0 h1 ht
        have hi2 : i < l.length := by omega
        have hm := hx _ (List.getElem_mem hi2)
        have hrd : rdOf ByteArray.empty l (i : Int) = l[i] := rd_get l i hi2
        by_cases hlt : a < l[i].size
        · refine ⟨-1, Evt.step (fun k => laws_szStringS.l0.eq_2 _ _ _ k) (Evt.pos (by omega) (Evt.pos (by omega) ?_)), fun h => by omega⟩
          rw [hrd, w64 (n := a - (l[i].size : Int)) (by omega) (by omega)]
          exact Evt.pos (by omega) (Evt.const _)
        · obtain ⟨r, hr, hb⟩ := ih (i + 1) (a - l[i].size) (by omega) (by omega) (by omega) (by
            intro x hxm
            rw [List.take_succ_eq_append_getElem hi2, List.mem_append, List.mem_singleton] at hxm
            rcases hxm with hxm | rfl
            · exact ht x hxm
            · omega)
          refine ⟨r, Evt.step (fun k => laws_szStringS.l0.eq_2 _ _ _ k) (Evt.pos (by omega) (Evt.pos (by omega) ?_)), hb⟩
          rw [hrd, w64 (n := a - (l[i].size : Int)) (by omega) (by omega), w64 (n := (i : Int) + 1) (by omega) (by omega)]
          exact Evt.neg (by omega) hr
    obtain ⟨r, hr, hb⟩ := key l.length 0 (c - (l.length : Int)) (by omega) (by omega) (by omega) (by simp)
    exact ⟨r, Evt.neg (by omega) hr, hb⟩
  · exact ⟨-1, Evt.pos (by omega) (Evt.const _), fun h => by omega⟩
theorem eq_self (a : List ByteArray) (hl : a.length ≤ 1048576) : Evt (fun k => laws_eqStringS.f k a a) true := by
  unfold laws_eqStringS.f
  refine Evt.pos (by omega) ?_
  have key : ∀ (m i : Nat), i + m = a.length → Evt (fun k => laws_eqStringS.l0 k a a (i : Int)) true := by
    intro m
    induction m with
    | zero =>
      intro i hi
      exact Evt.step (fun k => laws_eqStringS.l0.eq_2 _ _ _ k) (Evt.neg (by omega) (Evt.const _))
    | succ m ih =>
      intro i hi
      refine Evt.step (fun k => laws_eqStringS.l0.eq_2 _ _ _ k) (Evt.pos (by omega) (Evt.pos (by omega) (Evt.pos (by omega) (Evt.pos rfl ?_))))
      rw [w64 (n := (i : Int) + 1) (by omega) (by omega)]
      exact ih (i + 1) (by omega)
  exact key a.length 0 (by omega)
theorem spec_ev (l : List ByteArray) (h : SmallS l) : Evt (fun k => spec_PathText.f k l) (ans l) := by
  unfold spec_PathText.f
  have key : ∀ (m i : Nat), i + m = l.length → (l.take i).any notS = false → Evt (fun k => spec_PathText.l0 k l l (l.length : Int) (i : Int)) (ans l) := by
    intro m
    induction m with
    | zero =>
      intro i hi ht
      rw [List.take_of_length_le (by omega)] at ht
      refine Evt.step (fun k => spec_PathText.l0.eq_2 _ _ _ _ k) (Evt.neg (by omega) (Evt.bind (text_ev l h.1 h.2) ?_))
      have hlen := (ptxt_len l h.2).1
      by_cases h60 : ((mk (ptxt l)).size : Int) > 60
      · refine Evt.pos h60 ((Evt.const _).eq ?_)
        rw [mk_size] at h60
        unfold ans
        rw [if_pos (.inr (.inl (by omega)))]
      · refine Evt.neg h60 ((Evt.const _).eq ?_)
        rw [mk_size] at h60
        unfold ans
        rw [if_neg (fun h => h.elim (fun h => by omega) (fun h => h.elim (fun h => by omega) (fun h => by rw [ht] at h; cases h)))]
    | succ m ih =>
      intro i hi ht
      have hlt : i < l.length := by omega
      refine Evt.step (fun k => spec_PathText.l0.eq_2 _ _ _ _ k) (Evt.pos (by omega) (Evt.pos (by omega) (Evt.pos (by omega) ?_)))
      rw [rd_get l i hlt, w64 (n := (i : Int) + 1) (by omega) (by have := h.1; omega)]
      refine Evt.bind (printed_ev l[i] (h.2 _ (List.getElem_mem hlt))) ?_
      by_cases ho : okS l[i] = true
      · refine Evt.pos ho (ih (i + 1) (by omega) ?_)
        rw [List.take_succ_eq_append_getElem hlt, List.any_append, ht]
        simp [notS, ho]
      · refine Evt.neg ho ((Evt.const _).eq ?_)
        unfold ans
        rw [if_pos (.inr (.inr (List.any_eq_true.2 ⟨l[i], List.getElem_mem hlt, by simp [notS, ho]⟩)))]
  exact key l.length 0 (by omega) rfl
theorem FnExactPathText : laws_FnExactPathText.Pure := by
  intro l hw
  refine Evt.ex (r := true) ?_
  unfold laws_FnExactPathText.f
  obtain ⟨r, hr, hs⟩ := szS_ev l (by have := hw.1; unfold maxLen at this; omega) (fun x hx => by have := hw.2 x hx; unfold maxLen at this; omega) 1048576 (by omega) (by omega)
  refine Evt.bind hr ?_
  by_cases hneg : r < 0
  · exact Evt.pos hneg (Evt.const _)
  · have h := hs (by omega)
    have hto := toS_ev l h.1
    have hI : impl_PathText.f l = some (ans l) := by unfold impl_PathText.f; exact if_pos h
    refine Evt.neg hneg (Evt.bind hto (Evt.bind (spec_ev l h) (Evt.bind hto ?_)))
    rw [hI]
    refine Evt.bsome (Evt.pos rfl ?_)
    refine Evt.step (fun k => laws_FnExactPathText.j0.eq_2 _ _ _ k) (Evt.neg (by simp) (Evt.bind hto (Evt.bind (eq_self l h.1) (Evt.pos rfl (Evt.const _)))))
end Go.Proofs.Ytdlkmnohmdnogaa.Pure
