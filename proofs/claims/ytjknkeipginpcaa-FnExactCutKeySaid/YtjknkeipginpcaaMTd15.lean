/- Several texts in one: what the claim's last text rests on. No conditions. -/
import Derived.Test.YtjknkeipginpcaaMTd14
import Derived.Lib.Overlaps
import Derived.Lib.AppendZerosOnto
import Derived.Lib.AppendZeros
import Derived.Laws.Externs
import Derived.Laws.IdiomCopy
import Derived.Test.YtjknkeipginpcaaMTd5
import Derived.Test.YtjknkeipginpcaaMTd13
import Derived.Test.YtjknkeipginpcaaMTd12
section
/- Treaps: slices.Insert at pairs, one element. No conditions. -/
namespace Go.Proofs.Ytjknkeipginpcaa.TrG
set_option linter.unusedVariables false
set_option linter.unusedSimpArgs false
open Go.RowKit Go.Proofs.Ytjknkeipginpcaa.PQ Go.Proofs.YtjknkeipginpcaaW.PrintWords Go.Proofs.YtjknkeipginpcaaW.PrintLast Go.Proofs.YtjknkeipginpcaaW.PrintMore Go.Proofs.Ytjknkeipginpcaa.Pre Go.Proofs.Ytjknkeipginpcaa.Tr Go.Proofs.Ytjknkeipginpcaa.Pr Go.Proofs.Ytjknkeipginpcaa.Po

/-! The operation copy, its run known. -/
section
variable {P : Program} {ops : Array Oper} {rest : List Oper} {o : Oper} {a : Act} {Q : Exit → Act → World → Prop} {Kc : Act → World → Prop}
end
/-! A new row. -/
end Go.Proofs.Ytjknkeipginpcaa.TrG
end

section
/- Treaps: slices.Insert at pairs, all roads. No conditions. -/
namespace Go.Proofs.Ytjknkeipginpcaa.TrG
set_option linter.unusedVariables false
set_option linter.unusedSimpArgs false
open Go.RowKit Go.Proofs.Ytjknkeipginpcaa.PQ Go.Proofs.YtjknkeipginpcaaW.PrintWords Go.Proofs.YtjknkeipginpcaaW.PrintLast Go.Proofs.YtjknkeipginpcaaW.PrintMore Go.Proofs.Ytjknkeipginpcaa.Pre Go.Proofs.Ytjknkeipginpcaa.Tr Go.Proofs.Ytjknkeipginpcaa.Pr Go.Proofs.Ytjknkeipginpcaa.Po

end Go.Proofs.Ytjknkeipginpcaa.TrG
end

section
/- impl.PutKey, by hand. No conditions. -/
namespace Go.Proofs.Ytjknkeipginpcaa.TrG
set_option linter.unusedVariables false
set_option linter.unusedSimpArgs false
open Go.RowKit Go.Proofs.Ytjknkeipginpcaa.PQ Go.Proofs.YtjknkeipginpcaaW.PrintWords Go.Proofs.YtjknkeipginpcaaW.PrintLast Go.Proofs.YtjknkeipginpcaaW.PrintMore Go.Proofs.Ytjknkeipginpcaa.Pre Go.Proofs.Ytjknkeipginpcaa.Tr Go.Proofs.Ytjknkeipginpcaa.Pr Go.Proofs.Ytjknkeipginpcaa.Po

end Go.Proofs.Ytjknkeipginpcaa.TrG
end

section
-- Written by a program of this session (pprint.py) out of the translation's print; Lean checks it.
namespace Go.Proofs.Ytjknkeipginpcaa.PQ
open Go.RowKit Go.Proofs.YtjknkeipginpcaaW.PrintWords Go.Proofs.YtjknkeipginpcaaW.PrintLast Go.Proofs.YtjknkeipginpcaaW.PrintMore
attribute [local go_sem] max2_int min2_int max_two min_two max_three min_three max_four min_four   -- for this text's walks alone
set_option linter.unusedVariables false
set_option linter.unusedSimpArgs false

--OWNPART impl_PutKey
/-! ### impl_PutKey: function 41, by hand -/
--NEEDS loop.example/g00274/impl.GoodTreap
--NEEDS loop.example/g00274/spec.l7Of
--IMPORT TrY
end Go.Proofs.Ytjknkeipginpcaa.PQ
end

section
/- Treaps: keys put, cut and split: both sides at once. No conditions. -/
namespace Go.Proofs.Ytjknkeipginpcaa.TrG
set_option linter.unusedVariables false
set_option linter.unusedSimpArgs false
open Go.RowKit Go.Proofs.Ytjknkeipginpcaa.PQ Go.Proofs.YtjknkeipginpcaaW.PrintWords Go.Proofs.Ytjknkeipginpcaa.Pre Go.Proofs.Ytjknkeipginpcaa.Tr Go.Proofs.Ytjknkeipginpcaa.Pr Go.Proofs.Ytjknkeipginpcaa.Po

theorem plc_at : ∀ (l : List KV) (key : ByteArray) (i : Nat), i ≤ l.length → (∀ j, j < i → ls (l.getD j zKV).1 key = true) → (i < l.length → ls (l.getD i zKV).1 key = false) → plc l key = i
  | [], key, i, hi, h1, h2 => by
    have : i = 0 := by simpa using hi
    subst this
    rfl
  | a :: l, key, 0, hi, h1, h2 => by
    rw [plc_cons, if_neg]
    have := h2 (by simp)
    simpa using this
  | a :: l, key, i + 1, hi, h1, h2 => by
    have h0 : ls a.1 key = true := by simpa using h1 0 (by omega)
    rw [plc_cons, if_pos h0, plc_at l key i (by simpa using hi) (fun j hj => by simpa using h1 (j + 1) (by omega)) (fun h => by simpa using h2 (by simpa using h))]
theorem at_ev (ps : List Pb) (hp : ps.length ≤ 1048576) (key : ByteArray) : Evt (fun k => spec_l7At.f k ps key) (((plc (ps.map BuS.kv) key : Nat) : Int), hsk (ps.map BuS.kv) key) := by
  unfold spec_l7At.f
  have key1 : ∀ (m i : Nat), i + m = ps.length → (∀ j, j < i → ls ((ps.map BuS.kv).getD j zKV).1 key = true) → Evt (fun k => spec_l7At.l0 k ps key (i : Int)) (((plc (ps.map BuS.kv) key : Nat) : Int), hsk (ps.map BuS.kv) key) := by
    intro m
    induction m with
    | zero =>
      intro i hi hj
      have e := plc_at (ps.map BuS.kv) key i (by rw [List.length_map]; omega) hj (fun h => by rw [List.length_map] at h; omega)
      refine (Evt.step (fun k => spec_l7At.l0.eq_2 _ _ _ k) (Evt.neg (by omega) (Evt.const _))).eq ?_
      rw [e]
      unfold hsk
      rw [e, decide_eq_false (by rw [List.length_map]; omega)]
      rfl
    | succ m ih =>
      intro i hi hj
      have q1 : i < ps.length := by omega
      have e0 := (BuS.kv_key ps i q1).1
      refine Evt.step (fun k => spec_l7At.l0.eq_2 _ _ _ k) (Evt.pos (by omega) (Evt.pos (by omega) ?_))
      rw [← e0]
      cases h : ls ((ps.map BuS.kv).getD i zKV).1 key with
      | true =>
        refine Evt.pos h ?_
        rw [w64 (n := (i : Int) + 1) (by omega) (by omega), show (i : Int) + 1 = ((i + 1 : Nat) : Int) by omega]
        refine ih (i + 1) (by omega) (fun j h2 => ?_)
        rcases Nat.lt_or_ge j i with h3 | h3
        · exact hj j h3
        · obtain rfl : j = i := by omega
          exact h
      | false =>
        have e := plc_at (ps.map BuS.kv) key i (by rw [List.length_map]; omega) hj (fun _ => h)
        refine Evt.neg (by show ¬ ls _ _ = true; rw [h]; decide) ((Evt.const _).eq ?_)
        rw [e]
        unfold hsk
        rw [e, decide_eq_true (by rw [List.length_map]; exact q1), Bool.true_and]
        congr 1
        rw [Bool.eq_iff_iff, beq_iff_eq, decide_eq_true_iff]
        exact Byt.toList_iff
  exact key1 ps.length 0 (by omega) (fun j h => absurd h (Nat.not_lt_zero _))
theorem treapS_f (ps : List Pb) (hp : ps.length ≤ 1048576) (hk : ∀ x ∈ ps, x.f0.size ≤ 1048576) : spec_l7Treap.f ps = some (enc ps.length 0 (ps.map BuS.kv)) := if_pos ⟨hp, hk⟩
theorem encS (ps : List Pb) (l : List KV) (h : ps.map BuS.kv = l) : enc ps.length 0 (ps.map BuS.kv) = enc l.length 0 l := by
  subst h
  rw [List.length_map]
/-- What is known of a good treap's keys. -/
theorem good_of_ansP {L : List Lb} {l : List KV} (h : ansP L = (l.map bkI, true)) : l.length ≤ 60 ∧ Ri l ∧ ∀ x ∈ l, x.1.size ≤ 40 ∧ x.2.size ≤ 60 := by
  have hri := ansP_ri L
  rw [h] at hri
  refine ⟨by have := hri.2.1; rw [List.length_map] at this; exact this, ?_, fun x hx => hri.2.2 (bkI x) (List.mem_map.2 ⟨x, hx, rfl⟩)⟩
  have := hri.1
  rw [show ((l.map bkI, true) : List Pa × Bool).1 = l.map bkI from rfl, bkI_kv] at this
  exact this
theorem sz_map {l m : List KV} (h : ∀ x ∈ l, x.1.size ≤ 40 ∧ x.2.size ≤ 60) (hm : ∀ x ∈ m, x ∈ l) : ∀ x ∈ m.map bkS, x.f0.size ≤ 1048576 := by
  intro x hx
  obtain ⟨y, hy, rfl⟩ := List.mem_map.1 hx
  have := (h y (hm y hy)).1
  show y.1.size ≤ 1048576
  omega
theorem cut_both (L : List Lb) (key : ByteArray) : Evt (fun k => spec_CutKey.f k L key) (ansC L key) := by
  unfold spec_CutKey.f
  rcases both L with ⟨l, hg, h1, h2⟩ | ⟨h1, _, h2⟩
  · obtain ⟨h60, hri, hsz⟩ := good_of_ansP h1
    have ha := at_ev (l.map bkS) (by rw [List.length_map]; omega) key
    rw [bkS_kv] at ha
    have ec : ansC L key = if hsk l key = true then (enc (l.eraseIdx (plc l key)).length 0 (l.eraseIdx (plc l key)), true) else ([], false) := by
      unfold ansC
      rw [h1, show ((l.map bkI, true) : List Pa × Bool).1 = l.map bkI from rfl, bkI_kv]
      simp
    refine Evt.bind h2 (Evt.bind ha (Evt.pos rfl ?_))
    by_cases hth : hsk l key = true
    · have hp := hsk_lt hth
      rw [ec.trans (if_pos hth)]
      refine Evt.pos hth (Evt.bsome (Evt.pos (by show (0 : Int) ≤ ((plc l key : Nat) : Int); omega) (Evt.pos (by rw [List.length_map]; show ((plc l key : Nat) : Int) ≤ _; omega) (Evt.bsome (Evt.pos (by simp; omega) (Evt.bsome ?_))))))
      show Evt (fun k => if 0 ≤ wrap64 (((plc l key : Nat) : Int) + 1) then _ else _) _
      rw [w64 (n := ((plc l key : Nat) : Int) + 1) (by omega) (by omega), show (((plc l key : Nat) : Int) + 1).toNat = plc l key + 1 by omega]
      refine Evt.pos (by omega) (Evt.pos (by rw [List.length_map]; omega) (Evt.bsome (Evt.pos (by simp; omega) ?_)))
      have e : ([] ++ (l.map bkS).take (plc l key)) ++ (l.map bkS).drop (plc l key + 1) = (l.eraseIdx (plc l key)).map bkS := by
        rw [List.nil_append, List.eraseIdx_eq_take_drop_succ, List.map_append, List.map_take, List.map_drop]
      show Evt (fun k => (spec_l7Treap.f (([] ++ (l.map bkS).take (((plc l key : Nat) : Int)).toNat) ++ (l.map bkS).drop (plc l key + 1))).bind _) _
      rw [Int.toNat_natCast, e, treapS_f _ (by rw [List.length_map, List.length_eraseIdx_of_lt hp]; omega) (sz_map hsz (fun x hx => List.mem_of_mem_eraseIdx hx))]
      refine Evt.bsome ((Evt.const _).eq ?_)
      rw [encS _ _ (bkS_kv _)]
    · rw [ec.trans (if_neg hth)]
      exact Evt.neg hth (Evt.const _)
  · have ha := at_ev [] (by simp) key
    have ec : ansC L key = ([], false) := if_neg (fun h => by rw [h1] at h; cases h.1)
    rw [ec]
    exact Evt.bind h2 (Evt.bind ha (Evt.neg (by decide) (Evt.const _)))
theorem cut_small (L : List Lb) (key : ByteArray) : (ansC L key).1.length ≤ 60 := by
  have h := (ansP_ri L).2.1
  unfold ansC
  split
  · rename_i hc
    have hp := hsk_lt hc.2
    show (enc _ 0 _).length ≤ 60
    rw [enc_len _ _ _ (Nat.le_refl _), List.length_eraseIdx_of_lt hp, List.length_map]
    omega
  · simp
end Go.Proofs.Ytjknkeipginpcaa.TrG
end

section
/- The law FnExactCutKey returns true at every input. No conditions. -/
namespace Go.Proofs.Ytjknkeipginpcaa.Pure
open Go.RowKit Go.Proofs.Ytjknkeipginpcaa.PQ Go.Proofs.YtjknkeipginpcaaW.PrintWords Go.Proofs.YtjknkeipginpcaaW.PrintLast Go.Proofs.Ytjknkeipginpcaa.Pre Go.Proofs.Ytjknkeipginpcaa.TrG Go.Proofs.Ytjknkeipginpcaa.Tr Go.Proofs.Ytjknkeipginpcaa.Po

theorem FnExactCutKey : laws_FnExactCutKey.Pure := by
  intro l a1 hw hw1
  refine Evt.ex (r := true) ?_
  obtain ⟨t, ht, h2⟩ := sz_ev l hw.1 (fun x hx => ⟨(hw.2 x hx).1, (hw.2 x hx).2.1⟩)
  unfold laws_FnExactCutKey.f
  by_cases hbig : (a1.size : Int) > 1048576
  · exact Evt.pos hbig (Evt.const _)
  · refine Evt.neg hbig ?_
    refine Evt.bind ht ?_
    by_cases hc : t < 0
    · exact Evt.pos hc (Evt.const _)
    · refine Evt.neg hc ?_
      obtain ⟨hl, _⟩ := h2 (by omega)
      have hto := to_ev l hl
      have hm : (l.map cvL).length ≤ 1048576 := by rw [List.length_map]; exact hl
      generalize l.map cvL = L at hto hm
      have hS := cut_both L a1
      have hI : impl_CutKey.f L a1 = some (ansC L a1) := if_pos hm
      have hrl : (ansC L a1).1.length ≤ 60 := cut_small L a1
      generalize ansC L a1 = r at hS hI hrl
      obtain ⟨rl, rb⟩ := r
      have hrl : rl.length ≤ 60 := hrl
      have heq := eq_ev rl (by omega)
      have hmk := mark_evL L 1 (by omega) hm
      have hmr := mark_evL rl 1 (by omega) (by omega)
      have hhr := held_evL rl.length 1 (by omega) (by omega)
      refine Evt.bind hto (Evt.bind hS (Evt.bind hto ?_))
      rw [hI]
      refine Evt.bsome (Evt.bind heq (Evt.pos rfl ?_))
      refine Evt.step (fun k => laws_FnExactCutKey.j0.eq_2 _ _ _ _ _ _ _ _ k) (Evt.neg (by simp) (Evt.bind hto (Evt.bind (eq_ev L hm) (Evt.pos rfl (Evt.bind hmk (Evt.neg (by simp; omega) (Evt.bind heq (Evt.pos rfl ?_))))))))
      refine Evt.step (fun k => laws_FnExactCutKey.j1.eq_2 _ _ _ _ _ _ k) (Evt.neg (by simp) (Evt.bind hmr (Evt.bind hhr (Evt.neg (by omega) (Evt.pos rfl ?_)))))
      refine Evt.bind hto ?_
      rw [hI]
      refine Evt.bsome (Evt.bind heq (Evt.pos rfl ?_))
      exact Evt.step (fun k => laws_FnExactCutKey.j2.eq_2 _ _ _ k) (Evt.neg (by simp) (Evt.bind hhr (Evt.neg (by omega) (Evt.pos rfl (Evt.const _)))))
end Go.Proofs.Ytjknkeipginpcaa.Pure
end
