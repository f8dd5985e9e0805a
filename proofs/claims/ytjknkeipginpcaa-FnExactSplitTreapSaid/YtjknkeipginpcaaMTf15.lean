/- Several texts in one: what the claim's last text rests on. No conditions. -/
import Derived.Test.YtjknkeipginpcaaMTf14
import Derived.Lib.Overlaps
import Derived.Lib.AppendZerosOnto
import Derived.Lib.AppendZeros
import Derived.Laws.Externs
import Derived.Laws.IdiomCopy
import Derived.Test.YtjknkeipginpcaaMTf5
import Derived.Test.YtjknkeipginpcaaMTf13
import Derived.Test.YtjknkeipginpcaaMTf11
import Derived.Test.YtjknkeipginpcaaMTf12
import Derived.Deep.QuietTactic
import Derived.BigQuiet
import Derived.Test.YtjknkeipginpcaaMTf6
section
/- Treaps: slices.Insert at pairs, one element. No conditions. -/
namespace Go.Proofs.Ytjknkeipginpcaa.TrG
set_option linter.unusedVariables false
set_option linter.unusedSimpArgs false
open Go.RowKit Go.Proofs.Ytjknkeipginpcaa.PQ Go.Proofs.YtjknkeipginpcaaW.PrintWords Go.Proofs.YtjknkeipginpcaaW.PrintLast Go.Proofs.YtjknkeipginpcaaW.PrintMore Go.Proofs.Ytjknkeipginpcaa.Pre Go.Proofs.Ytjknkeipginpcaa.Tr Go.Proofs.Ytjknkeipginpcaa.Pr Go.Proofs.Ytjknkeipginpcaa.Po

/-! The operation copy, its run known. -/
section
variable {P : Program} {ops : Array Oper} {rest : List Oper} {o : Oper} {a : Act} {Q : Exit → Act → World → Prop} {Kc : Act → World → Prop}
end
/-! A new row. -/
end Go.Proofs.Ytjknkeipginpcaa.TrG
end

section
/- Treaps: slices.Insert at pairs, all roads. No conditions. -/
namespace Go.Proofs.Ytjknkeipginpcaa.TrG
set_option linter.unusedVariables false
set_option linter.unusedSimpArgs false
open Go.RowKit Go.Proofs.Ytjknkeipginpcaa.PQ Go.Proofs.YtjknkeipginpcaaW.PrintWords Go.Proofs.YtjknkeipginpcaaW.PrintLast Go.Proofs.YtjknkeipginpcaaW.PrintMore Go.Proofs.Ytjknkeipginpcaa.Pre Go.Proofs.Ytjknkeipginpcaa.Tr Go.Proofs.Ytjknkeipginpcaa.Pr Go.Proofs.Ytjknkeipginpcaa.Po

end Go.Proofs.Ytjknkeipginpcaa.TrG
end

section
/- impl.PutKey, by hand. No conditions. -/
namespace Go.Proofs.Ytjknkeipginpcaa.TrG
set_option linter.unusedVariables false
set_option linter.unusedSimpArgs false
open Go.RowKit Go.Proofs.Ytjknkeipginpcaa.PQ Go.Proofs.YtjknkeipginpcaaW.PrintWords Go.Proofs.YtjknkeipginpcaaW.PrintLast Go.Proofs.YtjknkeipginpcaaW.PrintMore Go.Proofs.Ytjknkeipginpcaa.Pre Go.Proofs.Ytjknkeipginpcaa.Tr Go.Proofs.Ytjknkeipginpcaa.Pr Go.Proofs.Ytjknkeipginpcaa.Po

end Go.Proofs.Ytjknkeipginpcaa.TrG
end

section
-- Written by a program of this session (pprint.py) out of the translation's print; Lean checks it.
namespace Go.Proofs.Ytjknkeipginpcaa.PQ
open Go.RowKit Go.Proofs.YtjknkeipginpcaaW.PrintWords Go.Proofs.YtjknkeipginpcaaW.PrintLast Go.Proofs.YtjknkeipginpcaaW.PrintMore
attribute [local go_sem] max2_int min2_int max_two min_two max_three min_three max_four min_four   -- for this text's walks alone
set_option linter.unusedVariables false
set_option linter.unusedSimpArgs false

--OWNPART impl_PutKey
/-! ### impl_PutKey: function 41, by hand -/
--NEEDS loop.example/g00274/impl.GoodTreap
--NEEDS loop.example/g00274/spec.l7Of
--IMPORT TrY
end Go.Proofs.Ytjknkeipginpcaa.PQ
end

section
/- Treaps: keys put, cut and split: both sides at once. No conditions. -/
namespace Go.Proofs.Ytjknkeipginpcaa.TrG
set_option linter.unusedVariables false
set_option linter.unusedSimpArgs false
open Go.RowKit Go.Proofs.Ytjknkeipginpcaa.PQ Go.Proofs.YtjknkeipginpcaaW.PrintWords Go.Proofs.Ytjknkeipginpcaa.Pre Go.Proofs.Ytjknkeipginpcaa.Tr Go.Proofs.Ytjknkeipginpcaa.Pr Go.Proofs.Ytjknkeipginpcaa.Po

theorem plc_at : ∀ (l : List KV) (key : ByteArray) (i : Nat), i ≤ l.length → (∀ j, j < i → ls (l.getD j zKV).1 key = true) → (i < l.length → ls (l.getD i zKV).1 key = false) → plc l key = i
  | [], key, i, hi, h1, h2 => by
    have : i = 0 := by simpa using hi
    subst this
    rfl
  | a :: l, key, 0, hi, h1, h2 => by
    rw [plc_cons, if_neg]
    have := h2 (by simp)
    simpa using this
  | a :: l, key, i + 1, hi, h1, h2 => by
    have h0 : ls a.1 key = true := by simpa using h1 0 (by omega)
    rw [plc_cons, if_pos h0, plc_at l key i (by simpa using hi) (fun j hj => by simpa using h1 (j + 1) (by omega)) (fun h => by simpa using h2 (by simpa using h))]
theorem at_ev (ps : List Pb) (hp : ps.length ≤ 1048576) (key : ByteArray) : Evt (fun k => spec_l7At.f k ps key) (((plc (ps.map BuS.kv) key : Nat) : Int), hsk (ps.map BuS.kv) key) := by
  unfold spec_l7At.f
  have key1 : ∀ (m i : Nat), i + m = ps.length → (∀ j, j < i → ls ((ps.map BuS.kv).getD j zKV).1 key = true) → Evt (fun k => spec_l7At.l0 k ps key (i : Int)) (((plc (ps.map BuS.kv) key : Nat) : Int), hsk (ps.map BuS.kv) key) := by
    intro m
    induction m with
    | zero =>
      intro i hi hj
      have e := plc_at (ps.map BuS.kv) key i (by rw [List.length_map]; omega) hj (fun h => by rw [List.length_map] at h; omega)
      refine (Evt.step (fun k => spec_l7At.l0.eq_2 _ _ _ k) (Evt.neg (by omega) (Evt.const _))).eq ?_
      rw [e]
      unfold hsk
      rw [e, decide_eq_false (by rw [List.length_map]; omega)]
      rfl
    | succ m ih =>
      intro i hi hj
      have q1 : i < ps.length := by omega
      have e0 := (BuS.kv_key ps i q1).1
      refine Evt.step (fun k => spec_l7At.l0.eq_2 _ _ _ k) (Evt.pos (by omega) (Evt.pos (by omega) ?_))
      rw [← e0]
      cases h : ls ((ps.map BuS.kv).getD i zKV).1 key with
      | true =>
        refine Evt.pos h ?_
        rw [w64 (n := (i : Int) + 1) (by omega) (by omega), show (i : Int) + 1 = ((i + 1 : Nat) : Int) by omega]
        refine ih (i + 1) (by omega) (fun j h2 => ?_)
        rcases Nat.lt_or_ge j i with h3 | h3
        · exact hj j h3
        · obtain rfl : j = i := by omega
          exact h
      | false =>
        have e := plc_at (ps.map BuS.kv) key i (by rw [List.length_map]; omega) hj (fun _ => h)
        refine Evt.neg (by show ¬ ls _ _ = true; rw [h]; decide) ((Evt.const _).eq ?_)
        rw [e]
        unfold hsk
        rw [e, decide_eq_true (by rw [List.length_map]; exact q1), Bool.true_and]
        congr 1
        rw [Bool.eq_iff_iff, beq_iff_eq, decide_eq_true_iff]
        exact Byt.toList_iff
  exact key1 ps.length 0 (by omega) (fun j h => absurd h (Nat.not_lt_zero _))
theorem treapS_f (ps : List Pb) (hp : ps.length ≤ 1048576) (hk : ∀ x ∈ ps, x.f0.size ≤ 1048576) : spec_l7Treap.f ps = some (enc ps.length 0 (ps.map BuS.kv)) := if_pos ⟨hp, hk⟩
theorem encS (ps : List Pb) (l : List KV) (h : ps.map BuS.kv = l) : enc ps.length 0 (ps.map BuS.kv) = enc l.length 0 l := by
  subst h
  rw [List.length_map]
/-- What is known of a good treap's keys. -/
theorem good_of_ansP {L : List Lb} {l : List KV} (h : ansP L = (l.map bkI, true)) : l.length ≤ 60 ∧ Ri l ∧ ∀ x ∈ l, x.1.size ≤ 40 ∧ x.2.size ≤ 60 := by
  have hri := ansP_ri L
  rw [h] at hri
  refine ⟨by have := hri.2.1; rw [List.length_map] at this; exact this, ?_, fun x hx => hri.2.2 (bkI x) (List.mem_map.2 ⟨x, hx, rfl⟩)⟩
  have := hri.1
  rw [show ((l.map bkI, true) : List Pa × Bool).1 = l.map bkI from rfl, bkI_kv] at this
  exact this
theorem sz_map {l m : List KV} (h : ∀ x ∈ l, x.1.size ≤ 40 ∧ x.2.size ≤ 60) (hm : ∀ x ∈ m, x ∈ l) : ∀ x ∈ m.map bkS, x.f0.size ≤ 1048576 := by
  intro x hx
  obtain ⟨y, hy, rfl⟩ := List.mem_map.1 hx
  have := (h y (hm y hy)).1
  show y.1.size ≤ 1048576
  omega
/-- What SplitTreap answers. -/
def ansS (L : List Lb) (key : ByteArray) : List Lb × List Lb × Bool :=
  if (ansP L).2 = true then (enc (((ansP L).1.map BuI.kv).take (plc ((ansP L).1.map BuI.kv) key)).length 0 (((ansP L).1.map BuI.kv).take (plc ((ansP L).1.map BuI.kv) key)), enc (((ansP L).1.map BuI.kv).drop (plc ((ansP L).1.map BuI.kv) key)).length 0 (((ansP L).1.map BuI.kv).drop (plc ((ansP L).1.map BuI.kv) key)), true) else ([], [], false)
theorem split_both (L : List Lb) (key : ByteArray) : Evt (fun k => spec_SplitTreap.f k L key) (ansS L key) := by
  unfold spec_SplitTreap.f ansS
  rcases both L with ⟨l, hg, h1, h2⟩ | ⟨h1, _, h2⟩
  · obtain ⟨h60, hri, hsz⟩ := good_of_ansP h1
    have hpl := plc_le l key
    have ha := at_ev (l.map bkS) (by rw [List.length_map]; omega) key
    rw [bkS_kv] at ha
    refine Evt.bind h2 (Evt.pos rfl (Evt.bind ha (Evt.pos (by omega) (Evt.pos (by rw [List.length_map]; omega) ?_))))
    rw [h1, show ((l.map bkI, true) : List Pa × Bool).1 = l.map bkI from rfl, bkI_kv, if_pos rfl, Int.toNat_natCast, ← List.map_take, ← List.map_drop]
    rw [treapS_f _ (by rw [List.length_map, List.length_take]; omega) (sz_map hsz (fun x hx => List.mem_of_mem_take hx)), treapS_f _ (by rw [List.length_map, List.length_drop]; omega) (sz_map hsz (fun x hx => List.mem_of_mem_drop hx))]
    refine Evt.bsome (Evt.bsome ((Evt.const _).eq ?_))
    rw [encS _ _ (bkS_kv _), encS _ _ (bkS_kv _)]
  · rw [h1, if_neg (by decide)]
    exact Evt.bind h2 (Evt.neg (by decide) (Evt.const _))
theorem split_small (L : List Lb) (key : ByteArray) : (ansS L key).1.length ≤ 60 ∧ (ansS L key).2.1.length ≤ 60 := by
  have h := (ansP_ri L).2.1
  unfold ansS
  split
  · constructor
    · show (enc _ 0 _).length ≤ 60
      rw [enc_len _ _ _ (Nat.le_refl _), List.length_take, List.length_map]
      omega
    · show (enc _ 0 _).length ≤ 60
      rw [enc_len _ _ _ (Nat.le_refl _), List.length_drop, List.length_map]
      omega
  · simp
end Go.Proofs.Ytjknkeipginpcaa.TrG
end

section
/- Treaps: slices.Grow of nil, slices.Concat of two, at pairs. No conditions. -/
namespace Go.Proofs.Ytjknkeipginpcaa.TrG
set_option linter.unusedVariables false
set_option linter.unusedSimpArgs false
open Go.RowKit Go.Proofs.Ytjknkeipginpcaa.PQ Go.Proofs.YtjknkeipginpcaaW.PrintWords Go.Proofs.YtjknkeipginpcaaW.PrintLast Go.Proofs.YtjknkeipginpcaaW.PrintMore Go.Proofs.Ytjknkeipginpcaa.Pre Go.Proofs.Ytjknkeipginpcaa.Tr Go.Proofs.Ytjknkeipginpcaa.Pr Go.Proofs.Ytjknkeipginpcaa.Po

end Go.Proofs.Ytjknkeipginpcaa.TrG
end

section
/- JoinTreaps of both sides, by hand. No conditions. -/
namespace Go.Proofs.Ytjknkeipginpcaa.TrG
set_option linter.unusedVariables false
set_option linter.unusedSimpArgs false
open Go.RowKit Go.Proofs.Ytjknkeipginpcaa.PQ Go.Proofs.YtjknkeipginpcaaW.PrintWords Go.Proofs.YtjknkeipginpcaaW.PrintLast Go.Proofs.YtjknkeipginpcaaW.PrintMore Go.Proofs.Ytjknkeipginpcaa.Pre Go.Proofs.Ytjknkeipginpcaa.Tr Go.Proofs.Ytjknkeipginpcaa.Pr Go.Proofs.Ytjknkeipginpcaa.Po
attribute [local go_sem] Go.Proofs.Ytjknkeipginpcaa.StrO.leq_s Go.Proofs.Ytjknkeipginpcaa.StrO.gtr_s Go.Proofs.Ytjknkeipginpcaa.StrO.geq_s

end Go.Proofs.Ytjknkeipginpcaa.TrG
end

section
/- Treaps: what JoinTreaps of both sides answers. No conditions. -/
namespace Go.Proofs.Ytjknkeipginpcaa.TrG
set_option linter.unusedVariables false
open Go.RowKit Go.Proofs.Ytjknkeipginpcaa.PQ Go.Proofs.YtjknkeipginpcaaW.PrintWords Go.Proofs.Ytjknkeipginpcaa.Pre Go.Proofs.Ytjknkeipginpcaa.Tr Go.Proofs.Ytjknkeipginpcaa.Pr Go.Proofs.Ytjknkeipginpcaa.Po

end Go.Proofs.Ytjknkeipginpcaa.TrG
end

section
/- Treaps in laws: what a walk takes along. No conditions. -/
namespace Go.Proofs.Ytjknkeipginpcaa.TrG
set_option linter.unusedVariables false
open Go.RowKit Go.Proofs.Ytjknkeipginpcaa.PQ Go.Proofs.YtjknkeipginpcaaW.PrintWords Go.Proofs.YtjknkeipginpcaaW.PrintLast Go.Proofs.YtjknkeipginpcaaW.PrintMore Go.Proofs.Ytjknkeipginpcaa.Pre Go.Proofs.Ytjknkeipginpcaa.Tr Go.Proofs.Ytjknkeipginpcaa.Pr Go.Proofs.Ytjknkeipginpcaa.Po

/-- In which blocks a row of limbs lies. -/
def Rng (v : Value) (a b : Nat) : Prop := ∀ k, v.ownBlock = some k → a ≤ k ∧ k < b
theorem Rng.of {W : World} {base : Nat} {ok : Nat → Prop} {v : Value} {xs : List Lb} (h : Kd.R k71 71 W base ok v xs) : Rng v base W.heap.size := fun k hk => ⟨((Kd.R_bound h).1 k hk).2.1, ((Kd.R_bound h).1 k hk).2.2.1⟩
/-- A row of limbs of one's own. -/
abbrev Lr (W : World) (lo : Nat) (v : Value) (xs : List Lb) : Prop := Kd.R k71 71 W lo (fun k => some k = v.ownBlock) v xs
theorem Lr.of {W : World} {base lo : Nat} {ok : Nat → Prop} {v : Value} {xs : List Lb} (h : Kd.R k71 71 W base ok v xs) (hl : lo ≤ base) : Lr W lo v xs := Kd.R_tight rfl (Kd.R_lower h hl)
theorem Lr.below {W W2 : World} {lo : Nat} {v : Value} {xs : List Lb} (h : Lr W lo v xs) (hb : Below W.heap.size W W2) : Lr W2 lo v xs := Kd.R_below h hb
theorem Lr.kept {W W2 : World} {lo : Nat} {v u : Value} {xs : List Lb} (h : Lr W lo v xs) (hk : Kept W W2 (fun k => some k = u.ownBlock)) (hne : ∀ k, v.ownBlock = some k → u.ownBlock = some k → False) : Lr W2 lo v xs :=
  Kd.R_step h (fun k hk2 hlt => hk.2 k hlt (fun h3 => hne k hk2.symm h3.symm))
theorem Lr.c {W : World} {lo : Nat} {A : Option Addr} {n c : Nat} {xs : List Lb} (h : Lr W lo (.slice A n c) xs) : Kd.C k71 W A xs.length xs := (Kd.R_reads' h).2.2
theorem Lr.n {W : World} {lo : Nat} {A : Option Addr} {c : Nat} {xs : List Lb} (h : Lr W lo (.slice A xs.length c) xs) : xs.length ≤ c := (Kd.R_reads' h).2.1
theorem Lr.len {W : World} {lo : Nat} {A : Option Addr} {n c : Nat} {xs : List Lb} (h : Lr W lo (.slice A n c) xs) : n = xs.length ∧ n ≤ c := ⟨(Kd.R_reads' h).1, (Kd.R_reads' h).2.1⟩
theorem Lr.slice {W : World} {lo : Nat} {v : Value} {xs : List Lb} (h : Lr W lo v xs) : ∃ A c, v = .slice A xs.length c := Kd.R_slice h
/-- A box. -/
abbrev Bx (W : World) (b : Nat) (v : Value) (t : TypeId) : Prop := W.heap[b]? = some (.cells #[v] t (0, 0))
theorem Bx.below {W W2 : World} {b : Nat} {v : Value} {t : TypeId} (h : Bx W b v t) (hb : Below W.heap.size W W2) : Bx W2 b v t := (hb.block b (blk_lt h)).trans h
theorem Bx.kept {W W2 : World} {b : Nat} {v u : Value} {t : TypeId} (h : Bx W b v t) (hk : Kept W W2 (fun k => some k = u.ownBlock)) (hne : u.ownBlock = some b → False) : Bx W2 b v t := (hk.2 b (blk_lt h) (fun e => hne e.symm)).trans h
theorem Bx.cell {W : World} {b : Nat} {v : Value} {t : TypeId} (h : Bx W b v t) : W.cell? ⟨b, 0, none⟩ = some v := (blk_cell h 0).trans rfl
theorem Bx.drew {W : World} {b : Nat} {v : Value} {t : TypeId} (h : Bx W b v t) : Bx W.drew b v t := h
theorem Lr.drew {W : World} {lo : Nat} {v : Value} {xs : List Lb} (h : Lr W lo v xs) : Lr W.drew lo v xs := Kd.R_drew h
theorem Rng.mono {v : Value} {a b a' b' : Nat} (h : Rng v a b) (ha : a' ≤ a) (hb : b ≤ b') : Rng v a' b' := fun k hk => by
  have := h k hk
  omega
theorem Lr.set {W : World} {lo b : Nat} {v v0 : Value} {xs : List Lb} (h : Lr W lo v xs) (hz : Bx W b v0 29) (u : Value) : Lr (W.setCell ⟨b, 0, none⟩ u) lo v xs := Kd.R_set h hz (by decide) 0 u
theorem Bx.set {W : World} {b g : Nat} {v : Value} {t : TypeId} (h : Bx W b v t) (hne : b ≠ g) (u : Value) : Bx (W.setCell ⟨g, 0, none⟩ u) b v t := blk_far h hne u
theorem Bx.put {W : World} {b : Nat} {v : Value} {t : TypeId} (h : Bx W b v t) (u : Value) : Bx (W.setCell ⟨b, 0, none⟩ u) b u t := blk_put h 0 _ rfl
theorem two {w : World} (v0 v1 : Value) (t : TypeId) : Bx ((w.alloc (.cells #[v0] t)).alloc (.cells #[v1] t)) w.heap.size v0 t ∧ Bx ((w.alloc (.cells #[v0] t)).alloc (.cells #[v1] t)) (w.heap.size + 1) v1 t ∧ Below w.heap.size w ((w.alloc (.cells #[v0] t)).alloc (.cells #[v1] t)) := by
  refine ⟨xblk_alloc (at_new w _) _, ?_, below_alloc (below_alloc (Below.refl _ _) _) _⟩
  have := at_new (w.alloc (.cells #[v0] t)) (.cells #[v1] t)
  rw [new_size] at this
  exact this
theorem one {w : World} (v0 : Value) (t : TypeId) : Bx (w.alloc (.cells #[v0] t)) w.heap.size v0 t ∧ Below w.heap.size w (w.alloc (.cells #[v0] t)) := ⟨at_new w _, below_alloc (Below.refl _ _) _⟩
theorem far {a b c d : Nat} {v u : Value} (hv : Rng v a b) (hu : Rng u c d) (h : b ≤ c ∨ d ≤ a) : ∀ k, v.ownBlock = some k → u.ownBlock = some k → False := fun k h1 h2 => by
  have := hv k h1
  have := hu k h2
  omega
theorem out {a b g : Nat} {u : Value} (hu : Rng u a b) (h : g < a ∨ b ≤ g) : u.ownBlock = some g → False := fun h1 => by
  have := hu g h1
  omega
/-- impl.SplitTreap. -/
theorem split_impl (L : List Lb) (hm : L.length ≤ 1048576) (key : ByteArray) : impl_SplitTreap.f L key = some (ansS L key) := by
  have hP : impl_pairsOf.f L = some (ansP L) := if_pos hm
  have hri := ansP_ri L
  have hpl := plc_le ((ansP L).1.map BuI.kv) key
  rw [List.length_map] at hpl
  unfold impl_SplitTreap.f ansS
  rw [hP]
  simp only [Option.bind_some]
  by_cases hok : (ansP L).2 = true
  · rw [if_pos hok, if_pos hok]
    have hpo : impl_placeOf.f (ansP L).1 key = some (((plc ((ansP L).1.map BuI.kv) key : Nat) : Int), hsk ((ansP L).1.map BuI.kv) key) := if_pos ⟨by have := hri.2.1; omega, hri.1⟩
    rw [hpo]
    simp only [Option.bind_some, Int.toNat_natCast]
    rw [if_pos (by omega), if_pos (by omega)]
    have tr : ∀ ps : List Pa, (∀ x ∈ ps, x ∈ (ansP L).1) → ps.length ≤ 60 → impl_treapOf.f ps = some (enc (ps.map BuI.kv).length 0 (ps.map BuI.kv)) := fun ps hx hl => by
      rw [List.length_map]
      exact if_pos ⟨by omega, fun x h => by have := (hri.2.2 x (hx x h)).1; omega⟩
    rw [tr _ (fun x h => List.mem_of_mem_take h) (by rw [List.length_take]; omega)]
    simp only [Option.bind_some]
    rw [tr _ (fun x h => List.mem_of_mem_drop h) (by rw [List.length_drop]; omega), List.map_take, List.map_drop]
    rfl
  · rw [if_neg hok, if_neg hok]
end Go.Proofs.Ytjknkeipginpcaa.TrG
end

section
/- The law FnExactSplitTreap, walked by hand: it returns true. No conditions. -/
namespace Go.Proofs.Ytjknkeipginpcaa.LwSp
set_option linter.unusedVariables false
set_option linter.unusedSimpArgs false
open Go.RowKit Go.Proofs.Ytjknkeipginpcaa.PQ Go.Proofs.YtjknkeipginpcaaW.PrintWords Go.Proofs.YtjknkeipginpcaaW.PrintLast Go.Proofs.YtjknkeipginpcaaW.PrintMore Go.Proofs.Ytjknkeipginpcaa.Pre Go.Proofs.Ytjknkeipginpcaa.Tr Go.Proofs.Ytjknkeipginpcaa.Pr Go.Proofs.Ytjknkeipginpcaa.Po Go.Proofs.Ytjknkeipginpcaa.TrG

set_option maxRecDepth 100000 in
set_option maxHeartbeats 8000000 in
theorem calls (A : Option Addr) (c : Nat) (l : List Ll) (key : ByteArray) (w : World) (hr : Kd.C k99 w A l.length l) (hc : l.length ≤ c) (hw : l.length ≤ 9223372036854775807 ∧ ∀ x ∈ l, x.f0.size ≤ 9223372036854775807 ∧ x.f1.size ≤ 9223372036854775807) (hkey : key.size ≤ 9223372036854775807) :
    Calls Try.prog 8 #[.agg #[.slice A l.length c], .string key] w fun e w' => e = .returned (.bool true) ∧ Below w.heap.size w w' := by
  have HR := Aside0.mk hr
  have HC := Aside0.mk hc
  obtain ⟨w0, hw0⟩ : ∃ w0, w0 = w.alloc (.cells #[.slice A l.length c] 24) := ⟨_, rfl⟩
  have HW0 := Aside0.mk hw0
  obtain ⟨b0, hb0⟩ := one (w := w) (.slice A l.length c) 24
  rw [← hw0] at b0 hb0
  have B0_0 := Aside0.mk b0
  have HA0 := Aside0.mk hb0
  have HWS := Aside0.mk (show w.heap.size + 1 ≤ w0.heap.size by rw [hw0, new_size]; exact Nat.le_refl _)
  by_cases hbig : (1048576 : Int) < (key.size : Int)
  · clear hr hc hw hw0 b0 hb0
    go_enter Try.func8, Try.ntmps8
    go_wp2
    go_ret
    exact ⟨rfl, by rw [← HW0.out]; exact HA0.out⟩
  · obtain ⟨r, hev, hsm⟩ := sz_ev l hw.1 hw.2
    obtain ⟨k0, hk0⟩ := hev.ex
    have E0 := Aside0.mk hk0
    have cc_B0_ : (w.alloc (.cells #[.slice A l.length c] 24)).cell? ⟨w.heap.size, 0, none⟩ = some (.slice A l.length c) := by rw [← hw0]; exact Bx.cell b0
    by_cases hneg : r < 0
    · have hnb : decide (r < 0) = true := decide_eq_true hneg
      clear hr hc hw hw0 b0 hb0 hev hsm hk0
      go_enter Try.func8, Try.ntmps8
      go_wp2_with ((go_at_call 13; go_loud (rw [← HW0.out]; (with_reducible refine (laws_szTreap.calls k0 A c l 1048576 r _ (Kd.C_below HR.out HA0.out) HC.out E0.out).mono ?_); rintro e w1 ⟨rfl, hb⟩; have HA1 := Aside0.mk (below_step HA0.out hb); have B0_1 := Aside0.mk (Bx.below B0_0.out hb); have HZ0 := Aside0.mk hb.size; clear HA0 B0_0; clear hb; clear cc_B0_; have cc_B0_ : w1.cell? ⟨w.heap.size, 0, none⟩ = some (.slice A l.length c) := Bx.cell B0_1.out)))
      go_ret
      exact ⟨rfl, HA1.out⟩
    · have hnb : decide (r < 0) = false := decide_eq_false hneg
      obtain ⟨hl, _⟩ := hsm (by omega)
      have hto := to_ev l hl
      have hm : (l.map cvL).length ≤ 1048576 := by rw [List.length_map]; exact hl
      obtain ⟨L, hL⟩ : ∃ L, L = l.map cvL := ⟨_, rfl⟩
      rw [← hL] at hto hm
      obtain ⟨k1, hk1⟩ := hto.ex
      obtain ⟨k2, hk2⟩ := (split_both L key).ex
      have hk3 := split_impl L hm key
      have hsm2 := split_small L key
      obtain ⟨s0, hs0⟩ : ∃ s0, s0 = (ansS L key).1 := ⟨_, rfl⟩
      obtain ⟨s1, hs1⟩ : ∃ s1, s1 = (ansS L key).2.1 := ⟨_, rfl⟩
      obtain ⟨sb, hsb⟩ : ∃ sb, sb = (ansS L key).2.2 := ⟨_, rfl⟩
      have hss : ansS L key = (s0, s1, sb) := by rw [hs0, hs1, hsb]
      rw [hss] at hk2 hk3
      rw [← hs0, ← hs1] at hsm2
      obtain ⟨k4, hk4⟩ := (eq_ev s0 (by omega)).ex
      obtain ⟨k5, hk5⟩ := (eq_ev s1 (by omega)).ex
      obtain ⟨k6, hk6⟩ := (eq_ev L hm).ex
      obtain ⟨k7, hk7⟩ := (mark_evL L 1 (by omega) hm).ex
      obtain ⟨k8, hk8⟩ := (mark_evL s0 1 (by omega) (by omega)).ex
      obtain ⟨k9, hk9⟩ := (mark_evL s1 (1 + 4 * s0.length) (by omega) (by omega)).ex
      obtain ⟨k10, hk10⟩ := (held_evL s0.length 1 (by omega) (by omega)).ex
      obtain ⟨k11, hk11⟩ := (held_evL s1.length (1 + 4 * s0.length) (by omega) (by omega)).ex
      obtain ⟨q7, hq7⟩ : ∃ q, q = mkL L.length 1 := ⟨_, rfl⟩
      obtain ⟨q8, hq8⟩ : ∃ q, q = mkL s0.length 1 := ⟨_, rfl⟩
      obtain ⟨q9, hq9⟩ : ∃ q, q = mkL s1.length (1 + 4 * s0.length) := ⟨_, rfl⟩
      obtain ⟨z7, hz7⟩ : ∃ z : Int, z = ((1 + 4 * L.length : Nat) : Int) := ⟨_, rfl⟩
      obtain ⟨z8, hz8⟩ : ∃ z : Int, z = ((1 + 4 * s0.length : Nat) : Int) := ⟨_, rfl⟩
      obtain ⟨z9, hz9⟩ : ∃ z : Int, z = (((1 + 4 * s0.length) + 4 * s1.length : Nat) : Int) := ⟨_, rfl⟩
      rw [← hz7, ← hq7, show ((1 : Nat) : Int) = 1 from rfl] at hk7
      rw [← hz8, ← hq8, show ((1 : Nat) : Int) = 1 from rfl] at hk8
      rw [← hz9, ← hz8, ← hq9] at hk9
      rw [← hz8, ← hq8, show ((1 : Nat) : Int) = 1 from rfl] at hk10
      rw [← hz9, ← hz8, ← hq9] at hk11
      have E1 := Aside0.mk hk1
      have E2 := Aside0.mk hk2
      have E3 := Aside0.mk hk3
      have E4 := Aside0.mk hk4
      have E5 := Aside0.mk hk5
      have E6 := Aside0.mk hk6
      have E7 := Aside0.mk hk7
      have E8 := Aside0.mk hk8
      have E9 := Aside0.mk hk9
      have E10 := Aside0.mk hk10
      have E11 := Aside0.mk hk11
      have HQ_G0_ := Aside0.mk (show q8.length = s0.length by rw [hq8]; exact mkL_len _ _)
      have HQ_G1_ := Aside0.mk (show q9.length = s1.length by rw [hq9]; exact mkL_len _ _)
      have z7b : decide (z7 < 0) = false := decide_eq_false (by omega)
      have z8b : decide (z8 < 0) = false := decide_eq_false (by omega)
      have z9b : decide (z9 < 0) = false := decide_eq_false (by omega)
      clear hr hc hw hw0 b0 hb0 hev hsm hk0 hneg hl hto hm hL hk1 hk2 hk3 hsm2 hs0 hs1 hsb hss hk4 hk5 hk6 hk7 hk8 hk9 hk10 hk11 hq7 hq8 hq9 hz7 hz8 hz9
      go_enter Try.func8, Try.ntmps8
      go_upto_region 7 with (first | (go_at_call 13; go_loud (rw [← HW0.out]; (with_reducible refine (laws_szTreap.calls k0 A c l 1048576 r _ (Kd.C_below HR.out HA0.out) HC.out E0.out).mono ?_); rintro e w1 ⟨rfl, hb⟩; have HA1 := Aside0.mk (below_step HA0.out hb); have B0_1 := Aside0.mk (Bx.below B0_0.out hb); have HZ0 := Aside0.mk hb.size; clear HA0 B0_0; clear hb; clear cc_B0_; have cc_B0_ : w1.cell? ⟨w.heap.size, 0, none⟩ = some (.slice A l.length c) := Bx.cell B0_1.out)))
      go_upto_region 8 with (first | (go_at_call 15; go_loud ((with_reducible refine (laws_toTreap.calls k1 A c l L _ (Kd.C_below HR.out HA1.out) HC.out E1.out).mono ?_); rintro e w2 ⟨v_X1_, rfl, ho, hb⟩; have HA2 := Aside0.mk (below_step HA1.out hb); have B0_2 := Aside0.mk (Bx.below B0_1.out hb); have HZ1 := Aside0.mk hb.size; have RG_X1_ := Aside0.mk (Rng.of ho); have hl_ := Lr.of (lo := w.heap.size) ho HA1.out.size; obtain ⟨A_X1_, c_X1_, e_X1_⟩ := Lr.slice hl_; subst e_X1_; have X1_2 := Aside0.mk hl_; clear hl_ ho; clear HA1 B0_1; clear hb; clear cc_B0_)) | (go_at_call 31; go_loud ((with_reducible refine (spec_SplitTreap.calls k2 A_X1_ c_X1_ L key s0 s1 sb _ (Lr.c X1_2.out) (Lr.n X1_2.out) E2.out).mono ?_); rintro e w3 ⟨v_S0_, v_S1_, rfl, ho, ho1, hb⟩; have HA3 := Aside0.mk (below_step HA2.out hb); have X1_3 := Aside0.mk (Lr.below X1_2.out hb); have B0_3 := Aside0.mk (Bx.below B0_2.out hb); have HZ2 := Aside0.mk hb.size; have RG_S0_ := Aside0.mk (Rng.of ho); have hl_ := Lr.of (lo := w.heap.size) ho HA2.out.size; obtain ⟨A_S0_, c_S0_, e_S0_⟩ := Lr.slice hl_; subst e_S0_; have S0_3 := Aside0.mk hl_; clear hl_ ho; have RG_S1_ := Aside0.mk (Rng.of ho1); have hl_ := Lr.of (lo := w.heap.size) ho1 HA2.out.size; obtain ⟨A_S1_, c_S1_, e_S1_⟩ := Lr.slice hl_; subst e_S1_; have S1_3 := Aside0.mk hl_; clear hl_ ho1; clear HA2 X1_2 B0_2; clear hb; obtain ⟨w4, hw⟩ : ∃ W_, W_ = ((w3.alloc (.cells #[.slice A_S0_ s0.length c_S0_] 29)).alloc (.cells #[.slice A_S1_ s1.length c_S1_] 29)) := ⟨_, rfl⟩; have HW4 := Aside0.mk hw; obtain ⟨q0, q1, hb⟩ := two (w := w3) (.slice A_S0_ s0.length c_S0_) (.slice A_S1_ s1.length c_S1_) 29; have hz2 : w3.heap.size + 2 ≤ w4.heap.size := (by rw [hw, new_size, new_size]; exact Nat.le_refl _); rw [← hw] at q0 q1 hb; have HA4 := Aside0.mk (below_step HA3.out hb); have S0_4 := Aside0.mk (Lr.below S0_3.out hb); have S1_4 := Aside0.mk (Lr.below S1_3.out hb); have B0_4 := Aside0.mk (Bx.below B0_3.out hb); have HZ3 := Aside0.mk hz2; clear HA3 S0_3 S1_3 B0_3; have BS0_4 := Aside0.mk q0; have BS1_4 := Aside0.mk q1; clear hb hw hz2 q0 q1; have cc_B0_ : w4.cell? ⟨w.heap.size, 0, none⟩ = some (.slice A l.length c) := Bx.cell B0_4.out)))
      rw [← HW4.out]
      go_upto_region 9 with (first | (go_at_call 15; go_loud ((with_reducible refine (laws_toTreap.calls k1 A c l L _ (Kd.C_below HR.out HA4.out) HC.out E1.out).mono ?_); rintro e w5 ⟨v_X_, rfl, ho, hb⟩; have HA5 := Aside0.mk (below_step HA4.out hb); have S0_5 := Aside0.mk (Lr.below S0_4.out hb); have S1_5 := Aside0.mk (Lr.below S1_4.out hb); have B0_5 := Aside0.mk (Bx.below B0_4.out hb); have BS0_5 := Aside0.mk (Bx.below BS0_4.out hb); have BS1_5 := Aside0.mk (Bx.below BS1_4.out hb); have HZ4 := Aside0.mk hb.size; have RG_X_ := Aside0.mk (Rng.of ho); have hl_ := Lr.of (lo := w.heap.size) ho HA4.out.size; obtain ⟨A_X_, c_X_, e_X_⟩ := Lr.slice hl_; subst e_X_; have X_5 := Aside0.mk hl_; clear hl_ ho; clear HA4 S0_4 S1_4 B0_4 BS0_4 BS1_4; clear hb; clear cc_B0_; obtain ⟨w6, hw⟩ : ∃ W_, W_ = (w5.alloc (.cells #[.slice A_X_ L.length c_X_] 29)) := ⟨_, rfl⟩; have HW6 := Aside0.mk hw; obtain ⟨q0, hb⟩ := one (w := w5) (.slice A_X_ L.length c_X_) 29; have hz2 : w5.heap.size + 1 ≤ w6.heap.size := (by rw [hw, new_size]; exact Nat.le_refl _); rw [← hw] at q0 hb; have HA6 := Aside0.mk (below_step HA5.out hb); have S0_6 := Aside0.mk (Lr.below S0_5.out hb); have S1_6 := Aside0.mk (Lr.below S1_5.out hb); have X_6 := Aside0.mk (Lr.below X_5.out hb); have B0_6 := Aside0.mk (Bx.below B0_5.out hb); have BS0_6 := Aside0.mk (Bx.below BS0_5.out hb); have BS1_6 := Aside0.mk (Bx.below BS1_5.out hb); have HZ5 := Aside0.mk hz2; clear HA5 S0_5 S1_5 X_5 B0_5 BS0_5 BS1_5; have BX_6 := Aside0.mk q0; clear hb hw hz2 q0; have cc_BX_ : w6.cell? ⟨w5.heap.size, 0, none⟩ = some (.slice A_X_ L.length c_X_) := Bx.cell BX_6.out)))
      rw [← HW6.out]
      go_upto_region 10 with (first | (go_at_call 32; go_loud ((with_reducible refine (impl_SplitTreap.calls A_X_ c_X_ L key s0 s1 sb _ (Lr.c X_6.out) (Lr.n X_6.out) E3.out).mono ?_); rintro e w7 ⟨v_G0_, v_G1_, rfl, ho, ho1, hb⟩; have HA7 := Aside0.mk (below_step HA6.out hb); have S0_7 := Aside0.mk (Lr.below S0_6.out hb); have S1_7 := Aside0.mk (Lr.below S1_6.out hb); have X_7 := Aside0.mk (Lr.below X_6.out hb); have B0_7 := Aside0.mk (Bx.below B0_6.out hb); have BS0_7 := Aside0.mk (Bx.below BS0_6.out hb); have BS1_7 := Aside0.mk (Bx.below BS1_6.out hb); have BX_7 := Aside0.mk (Bx.below BX_6.out hb); have HZ6 := Aside0.mk hb.size; have hne_ : ∀ k, v_G0_.ownBlock = some k → v_G1_.ownBlock = some k → False := (fun k h1 h2 => ho.1 k h1 h2.symm); have RG_G0_ := Aside0.mk (Rng.of ho); have hl_ := Lr.of (lo := w.heap.size) ho HA6.out.size; obtain ⟨A_G0_, c_G0_, e_G0_⟩ := Lr.slice hl_; subst e_G0_; have G0_7 := Aside0.mk hl_; clear hl_ ho; have RG_G1_ := Aside0.mk (Rng.of ho1); have hl_ := Lr.of (lo := w.heap.size) ho1 HA6.out.size; obtain ⟨A_G1_, c_G1_, e_G1_⟩ := Lr.slice hl_; subst e_G1_; have G1_7 := Aside0.mk hl_; clear hl_ ho1; clear HA6 S0_6 S1_6 X_6 B0_6 BS0_6 BS1_6 BX_6; clear hb; clear cc_BX_; have HNE := Aside0.mk hne_; clear hne_; obtain ⟨w8, hw⟩ : ∃ W_, W_ = ((w7.alloc (.cells #[.slice A_G0_ s0.length c_G0_] 29)).alloc (.cells #[.slice A_G1_ s1.length c_G1_] 29)) := ⟨_, rfl⟩; have HW8 := Aside0.mk hw; obtain ⟨q0, q1, hb⟩ := two (w := w7) (.slice A_G0_ s0.length c_G0_) (.slice A_G1_ s1.length c_G1_) 29; have hz2 : w7.heap.size + 2 ≤ w8.heap.size := (by rw [hw, new_size, new_size]; exact Nat.le_refl _); rw [← hw] at q0 q1 hb; have HA8 := Aside0.mk (below_step HA7.out hb); have S0_8 := Aside0.mk (Lr.below S0_7.out hb); have S1_8 := Aside0.mk (Lr.below S1_7.out hb); have X_8 := Aside0.mk (Lr.below X_7.out hb); have G0_8 := Aside0.mk (Lr.below G0_7.out hb); have G1_8 := Aside0.mk (Lr.below G1_7.out hb); have B0_8 := Aside0.mk (Bx.below B0_7.out hb); have BS0_8 := Aside0.mk (Bx.below BS0_7.out hb); have BS1_8 := Aside0.mk (Bx.below BS1_7.out hb); have BX_8 := Aside0.mk (Bx.below BX_7.out hb); have HZ7 := Aside0.mk hz2; clear HA7 S0_7 S1_7 X_7 G0_7 G1_7 B0_7 BS0_7 BS1_7 BX_7; have BG0_8 := Aside0.mk q0; have BG1_8 := Aside0.mk q1; clear hb hw hz2 q0 q1; have cc_BG0_ : w8.cell? ⟨w7.heap.size, 0, none⟩ = some (.slice A_G0_ s0.length c_G0_) := Bx.cell BG0_8.out; have cc_BS0_ : w8.cell? ⟨w3.heap.size, 0, none⟩ = some (.slice A_S0_ s0.length c_S0_) := Bx.cell BS0_8.out)))
      rw [← HW8.out]
      go_upto_region 12 with (first | (go_at_call 17; go_loud ((with_reducible refine (laws_eqTreap.calls k4 A_G0_ c_G0_ s0 A_S0_ c_S0_ s0 true _ (Lr.c G0_8.out) (Lr.n G0_8.out) (Lr.c S0_8.out) (Lr.n S0_8.out) E4.out).mono ?_); rintro e w9 ⟨rfl, hb⟩; have HA9 := Aside0.mk (below_step HA8.out hb); have S0_9 := Aside0.mk (Lr.below S0_8.out hb); have S1_9 := Aside0.mk (Lr.below S1_8.out hb); have X_9 := Aside0.mk (Lr.below X_8.out hb); have G0_9 := Aside0.mk (Lr.below G0_8.out hb); have G1_9 := Aside0.mk (Lr.below G1_8.out hb); have B0_9 := Aside0.mk (Bx.below B0_8.out hb); have BS0_9 := Aside0.mk (Bx.below BS0_8.out hb); have BS1_9 := Aside0.mk (Bx.below BS1_8.out hb); have BX_9 := Aside0.mk (Bx.below BX_8.out hb); have BG0_9 := Aside0.mk (Bx.below BG0_8.out hb); have BG1_9 := Aside0.mk (Bx.below BG1_8.out hb); have HZ8 := Aside0.mk hb.size; clear HA8 S0_8 S1_8 X_8 G0_8 G1_8 B0_8 BS0_8 BS1_8 BX_8 BG0_8 BG1_8; clear hb; clear cc_BG0_ cc_BS0_; have cc_BG1_ : w9.cell? ⟨w7.heap.size + 1, 0, none⟩ = some (.slice A_G1_ s1.length c_G1_) := Bx.cell BG1_9.out; have cc_BS1_ : w9.cell? ⟨w3.heap.size + 1, 0, none⟩ = some (.slice A_S1_ s1.length c_S1_) := Bx.cell BS1_9.out)) | (go_at_call 17; go_loud ((with_reducible refine (laws_eqTreap.calls k5 A_G1_ c_G1_ s1 A_S1_ c_S1_ s1 true _ (Lr.c G1_9.out) (Lr.n G1_9.out) (Lr.c S1_9.out) (Lr.n S1_9.out) E5.out).mono ?_); rintro e w10 ⟨rfl, hb⟩; have HA10 := Aside0.mk (below_step HA9.out hb); have S0_10 := Aside0.mk (Lr.below S0_9.out hb); have S1_10 := Aside0.mk (Lr.below S1_9.out hb); have X_10 := Aside0.mk (Lr.below X_9.out hb); have G0_10 := Aside0.mk (Lr.below G0_9.out hb); have G1_10 := Aside0.mk (Lr.below G1_9.out hb); have B0_10 := Aside0.mk (Bx.below B0_9.out hb); have BS0_10 := Aside0.mk (Bx.below BS0_9.out hb); have BS1_10 := Aside0.mk (Bx.below BS1_9.out hb); have BX_10 := Aside0.mk (Bx.below BX_9.out hb); have BG0_10 := Aside0.mk (Bx.below BG0_9.out hb); have BG1_10 := Aside0.mk (Bx.below BG1_9.out hb); have HZ9 := Aside0.mk hb.size; clear HA9 S0_9 S1_9 X_9 G0_9 G1_9 B0_9 BS0_9 BS1_9 BX_9 BG0_9 BG1_9; clear hb; clear cc_BG1_ cc_BS1_; have cc_BX_ : w10.cell? ⟨w5.heap.size, 0, none⟩ = some (.slice A_X_ L.length c_X_) := Bx.cell BX_10.out; have cc_B0_ : w10.cell? ⟨w.heap.size, 0, none⟩ = some (.slice A l.length c) := Bx.cell B0_10.out)))
      obtain ⟨w11, hw⟩ : ∃ W_, W_ = w10.drew := ⟨_, rfl⟩
      have HD := Aside0.mk hw
      have hb : Below w10.heap.size w10 w11 := by rw [hw]; exact (Below.refl _ _).drew
      have HA11 := Aside0.mk (below_step HA10.out hb)
      have S0_11 := Aside0.mk (Lr.below S0_10.out hb)
      have S1_11 := Aside0.mk (Lr.below S1_10.out hb)
      have X_11 := Aside0.mk (Lr.below X_10.out hb)
      have G0_11 := Aside0.mk (Lr.below G0_10.out hb)
      have G1_11 := Aside0.mk (Lr.below G1_10.out hb)
      have B0_11 := Aside0.mk (Bx.below B0_10.out hb)
      have BS0_11 := Aside0.mk (Bx.below BS0_10.out hb)
      have BS1_11 := Aside0.mk (Bx.below BS1_10.out hb)
      have BX_11 := Aside0.mk (Bx.below BX_10.out hb)
      have BG0_11 := Aside0.mk (Bx.below BG0_10.out hb)
      have BG1_11 := Aside0.mk (Bx.below BG1_10.out hb)
      have HZ10 := Aside0.mk hb.size
      clear HA10 S0_10 S1_10 X_10 G0_10 G1_10 B0_10 BS0_10 BS1_10 BX_10 BG0_10 BG1_10
      clear hb hw cc_BX_ cc_B0_
      refine start_ (n := 5) (S := fun w' => w'.cell? ⟨w5.heap.size, 0, none⟩ = some (.slice A_X_ L.length c_X_) ∧ w'.cell? ⟨w.heap.size, 0, none⟩ = some (.slice A l.length c)) (ds := []) #[false, false, false, false, false] (by kernel_rfl) rfl rfl ⟨(HD.out ▸ Bx.cell BX_11.out), (HD.out ▸ Bx.cell B0_11.out)⟩ (fun hHeld => ?_)
      refine take_ (i := 0) (N := some 59) (v := ?_) (a' := ?_) #[true, false, false, false, false] rfl rfl (by kernel_rfl) (fun _ _ _ h => h) (Or.inl ⟨by rfl, ?_⟩) hHeld ?_ ?_
      rotate_left
      · rintro w' ⟨s0, s1⟩
        go_simp
        with_reducible rfl
      rotate_left
      · simp only [Act.put, List.setIfInBounds_toArray, List.set_cons_zero, List.set_cons_succ, i64_w, i32_w]
        rfl
      refine take_ (i := 1) (N := some 60) (v := ?_) (a' := ?_) #[true, true, false, false, false] rfl rfl (by kernel_rfl) (fun _ _ _ h => h) (Or.inl ⟨by rfl, ?_⟩) hHeld ?_ ?_
      rotate_left
      · rintro w' ⟨s0, s1⟩
        go_simp
        with_reducible rfl
      rotate_left
      · simp only [Act.put, List.setIfInBounds_toArray, List.set_cons_zero, List.set_cons_succ, i64_w, i32_w]
        rfl
      refine one_ (i := 2) (N := some 61) #[true, true, true, false, false] rfl rfl (by kernel_rfl) (by decide) (fun K hK => ?_)
      refine goes_ Try.func15 (by kernel_rfl) rfl #[.agg #[.slice A l.length c]] (by rfl) rfl rfl (by simp only [List.map_toArray, List.map_cons, List.map_nil]; rfl) ?_
      with_reducible refine (laws_toTreap.calls k1 A c l L _ (Kd.C_below HR.out (by rw [← HD.out]; exact HA11.out)) HC.out E1.out).mono ?_
      rintro e w12 ⟨v_Y_, rfl, ho, hb⟩
      refine ⟨_, rfl, ?_⟩
      rw [← HD.out] at ho hb
      have HA12 := Aside0.mk (below_step HA11.out hb)
      have S0_12 := Aside0.mk (Lr.below S0_11.out hb)
      have S1_12 := Aside0.mk (Lr.below S1_11.out hb)
      have X_12 := Aside0.mk (Lr.below X_11.out hb)
      have G0_12 := Aside0.mk (Lr.below G0_11.out hb)
      have G1_12 := Aside0.mk (Lr.below G1_11.out hb)
      have B0_12 := Aside0.mk (Bx.below B0_11.out hb)
      have BS0_12 := Aside0.mk (Bx.below BS0_11.out hb)
      have BS1_12 := Aside0.mk (Bx.below BS1_11.out hb)
      have BX_12 := Aside0.mk (Bx.below BX_11.out hb)
      have BG0_12 := Aside0.mk (Bx.below BG0_11.out hb)
      have BG1_12 := Aside0.mk (Bx.below BG1_11.out hb)
      have HZ11 := Aside0.mk hb.size
      have RG_Y_ := Aside0.mk (Rng.of ho)
      have hl_ := Lr.of (lo := w.heap.size) ho HA11.out.size
      obtain ⟨A_Y_, c_Y_, e_Y_⟩ := Lr.slice hl_
      subst e_Y_
      have Y_12 := Aside0.mk hl_
      clear hl_ ho
      clear HA11 S0_11 S1_11 X_11 G0_11 G1_11 B0_11 BS0_11 BS1_11 BX_11 BG0_11 BG1_11
      clear hb
      refine hK.out _ _ ⟨Bx.cell BX_12.out, Bx.cell B0_12.out⟩ (fun hHeld => ?_)
      clear hK K
      refine norm_ (a' := ?_) ?_ ?_
      rotate_left
      · show Act.put _ (some 61) _ = _
        simp only [Act.put, List.setIfInBounds_toArray, List.set_cons_zero, List.set_cons_succ, i64_w, i32_w]
        rfl
      refine one_ (i := 3) (N := some 62) #[true, true, true, true, false] rfl rfl (by kernel_rfl) (by decide) (fun K hK => ?_)
      refine goes_ Try.func17 (by kernel_rfl) rfl #[.agg #[.slice A_X_ L.length c_X_], .agg #[.slice A_Y_ L.length c_Y_]] (by rfl) rfl rfl (by simp only [List.map_toArray, List.map_cons, List.map_nil]; rfl) ?_
      with_reducible refine (laws_eqTreap.calls k6 A_X_ c_X_ L A_Y_ c_Y_ L true _ (Lr.c X_12.out) (Lr.n X_12.out) (Lr.c Y_12.out) (Lr.n Y_12.out) E6.out).mono ?_
      rintro e w13 ⟨rfl, hb⟩
      refine ⟨_, rfl, ?_⟩
      have HA13 := Aside0.mk (below_step HA12.out hb)
      have S0_13 := Aside0.mk (Lr.below S0_12.out hb)
      have S1_13 := Aside0.mk (Lr.below S1_12.out hb)
      have X_13 := Aside0.mk (Lr.below X_12.out hb)
      have G0_13 := Aside0.mk (Lr.below G0_12.out hb)
      have G1_13 := Aside0.mk (Lr.below G1_12.out hb)
      have Y_13 := Aside0.mk (Lr.below Y_12.out hb)
      have B0_13 := Aside0.mk (Bx.below B0_12.out hb)
      have BS0_13 := Aside0.mk (Bx.below BS0_12.out hb)
      have BS1_13 := Aside0.mk (Bx.below BS1_12.out hb)
      have BX_13 := Aside0.mk (Bx.below BX_12.out hb)
      have BG0_13 := Aside0.mk (Bx.below BG0_12.out hb)
      have BG1_13 := Aside0.mk (Bx.below BG1_12.out hb)
      have HZ12 := Aside0.mk hb.size
      clear HA12 S0_12 S1_12 X_12 G0_12 G1_12 Y_12 B0_12 BS0_12 BS1_12 BX_12 BG0_12 BG1_12
      clear hb
      refine hK.out _ _ ⟨Bx.cell BX_13.out, Bx.cell B0_13.out⟩ (fun hHeld => ?_)
      clear hK K
      refine norm_ (a' := ?_) ?_ ?_
      rotate_left
      · show Act.put _ (some 62) _ = _
        simp only [Act.put, List.setIfInBounds_toArray, List.set_cons_zero, List.set_cons_succ, i64_w, i32_w]
        rfl
      refine pure_ (i := 4) (N := some 63) (v := ?_) (a' := ?_) #[true, true, true, true, true] rfl rfl (by kernel_rfl) (fun _ _ _ h => h) (Or.inl ⟨by rfl, ?_⟩) ?_ ?_
      rotate_left
      · intro w'
        go_simp
        with_reducible rfl
      rotate_left
      · simp only [Act.put, List.setIfInBounds_toArray, List.set_cons_zero, List.set_cons_succ, i64_w, i32_w]
        rfl
      refine done_ (by kernel_rfl) ?_
      have cc_BX_ : w13.cell? ⟨w5.heap.size, 0, none⟩ = some (.slice A_X_ L.length c_X_) := Bx.cell BX_13.out
      go_upto_region 18 with (first | (go_at_call 25; go_loud ((with_reducible refine (laws_markTreap.calls k7 (fun k_ => some k_ = ((.slice A_X_ L.length c_X_) : Value).ownBlock) (.slice A_X_ L.length c_X_) L 1 z7 q7 w _ HA13.out X_13.out E7.out).mono ?_); rintro e w14 ⟨rfl, hy, hb, hkp⟩; have HA14 := Aside0.mk hb; have S0_14 := Aside0.mk (Lr.kept (u := (.slice A_X_ L.length c_X_)) S0_13.out hkp (far RG_S0_.out RG_X_.out (by have := HWS.out; have := HZ0.out; have := HZ1.out; have := HZ2.out; have := HZ3.out; have := HZ4.out; have := HZ5.out; have := HZ6.out; have := HZ7.out; have := HZ8.out; have := HZ9.out; have := HZ10.out; have := HZ11.out; have := HZ12.out; omega))); have S1_14 := Aside0.mk (Lr.kept (u := (.slice A_X_ L.length c_X_)) S1_13.out hkp (far RG_S1_.out RG_X_.out (by have := HWS.out; have := HZ0.out; have := HZ1.out; have := HZ2.out; have := HZ3.out; have := HZ4.out; have := HZ5.out; have := HZ6.out; have := HZ7.out; have := HZ8.out; have := HZ9.out; have := HZ10.out; have := HZ11.out; have := HZ12.out; omega))); have G0_14 := Aside0.mk (Lr.kept (u := (.slice A_X_ L.length c_X_)) G0_13.out hkp (far RG_G0_.out RG_X_.out (by have := HWS.out; have := HZ0.out; have := HZ1.out; have := HZ2.out; have := HZ3.out; have := HZ4.out; have := HZ5.out; have := HZ6.out; have := HZ7.out; have := HZ8.out; have := HZ9.out; have := HZ10.out; have := HZ11.out; have := HZ12.out; omega))); have G1_14 := Aside0.mk (Lr.kept (u := (.slice A_X_ L.length c_X_)) G1_13.out hkp (far RG_G1_.out RG_X_.out (by have := HWS.out; have := HZ0.out; have := HZ1.out; have := HZ2.out; have := HZ3.out; have := HZ4.out; have := HZ5.out; have := HZ6.out; have := HZ7.out; have := HZ8.out; have := HZ9.out; have := HZ10.out; have := HZ11.out; have := HZ12.out; omega))); have B0_14 := Aside0.mk (Bx.kept (u := (.slice A_X_ L.length c_X_)) B0_13.out hkp (out RG_X_.out (by have := HWS.out; have := HZ0.out; have := HZ1.out; have := HZ2.out; have := HZ3.out; have := HZ4.out; have := HZ5.out; have := HZ6.out; have := HZ7.out; have := HZ8.out; have := HZ9.out; have := HZ10.out; have := HZ11.out; have := HZ12.out; omega))); have BS0_14 := Aside0.mk (Bx.kept (u := (.slice A_X_ L.length c_X_)) BS0_13.out hkp (out RG_X_.out (by have := HWS.out; have := HZ0.out; have := HZ1.out; have := HZ2.out; have := HZ3.out; have := HZ4.out; have := HZ5.out; have := HZ6.out; have := HZ7.out; have := HZ8.out; have := HZ9.out; have := HZ10.out; have := HZ11.out; have := HZ12.out; omega))); have BS1_14 := Aside0.mk (Bx.kept (u := (.slice A_X_ L.length c_X_)) BS1_13.out hkp (out RG_X_.out (by have := HWS.out; have := HZ0.out; have := HZ1.out; have := HZ2.out; have := HZ3.out; have := HZ4.out; have := HZ5.out; have := HZ6.out; have := HZ7.out; have := HZ8.out; have := HZ9.out; have := HZ10.out; have := HZ11.out; have := HZ12.out; omega))); have BX_14 := Aside0.mk (Bx.kept (u := (.slice A_X_ L.length c_X_)) BX_13.out hkp (out RG_X_.out (by have := HWS.out; have := HZ0.out; have := HZ1.out; have := HZ2.out; have := HZ3.out; have := HZ4.out; have := HZ5.out; have := HZ6.out; have := HZ7.out; have := HZ8.out; have := HZ9.out; have := HZ10.out; have := HZ11.out; have := HZ12.out; omega))); have BG0_14 := Aside0.mk (Bx.kept (u := (.slice A_X_ L.length c_X_)) BG0_13.out hkp (out RG_X_.out (by have := HWS.out; have := HZ0.out; have := HZ1.out; have := HZ2.out; have := HZ3.out; have := HZ4.out; have := HZ5.out; have := HZ6.out; have := HZ7.out; have := HZ8.out; have := HZ9.out; have := HZ10.out; have := HZ11.out; have := HZ12.out; omega))); have BG1_14 := Aside0.mk (Bx.kept (u := (.slice A_X_ L.length c_X_)) BG1_13.out hkp (out RG_X_.out (by have := HWS.out; have := HZ0.out; have := HZ1.out; have := HZ2.out; have := HZ3.out; have := HZ4.out; have := HZ5.out; have := HZ6.out; have := HZ7.out; have := HZ8.out; have := HZ9.out; have := HZ10.out; have := HZ11.out; have := HZ12.out; omega))); have HZ13 := Aside0.mk hkp.1; clear HA13 S0_13 S1_13 X_13 G0_13 G1_13 B0_13 BS0_13 BS1_13 BX_13 BG0_13 BG1_13; have X_14 := Aside0.mk (Lr.of (lo := w.heap.size) hy (Nat.le_refl _)); clear hy hb hkp; clear cc_BX_; have cc_BG0_ : w14.cell? ⟨w7.heap.size, 0, none⟩ = some (.slice A_G0_ s0.length c_G0_) := Bx.cell BG0_14.out; have cc_BS0_ : w14.cell? ⟨w3.heap.size, 0, none⟩ = some (.slice A_S0_ s0.length c_S0_) := Bx.cell BS0_14.out)) | (go_at_call 17; go_loud ((with_reducible refine (laws_eqTreap.calls k4 A_G0_ c_G0_ s0 A_S0_ c_S0_ s0 true _ (Lr.c G0_14.out) (Lr.n G0_14.out) (Lr.c S0_14.out) (Lr.n S0_14.out) E4.out).mono ?_); rintro e w15 ⟨rfl, hb⟩; have HA15 := Aside0.mk (below_step HA14.out hb); have S0_15 := Aside0.mk (Lr.below S0_14.out hb); have S1_15 := Aside0.mk (Lr.below S1_14.out hb); have G0_15 := Aside0.mk (Lr.below G0_14.out hb); have G1_15 := Aside0.mk (Lr.below G1_14.out hb); have B0_15 := Aside0.mk (Bx.below B0_14.out hb); have BS0_15 := Aside0.mk (Bx.below BS0_14.out hb); have BS1_15 := Aside0.mk (Bx.below BS1_14.out hb); have BX_15 := Aside0.mk (Bx.below BX_14.out hb); have BG0_15 := Aside0.mk (Bx.below BG0_14.out hb); have BG1_15 := Aside0.mk (Bx.below BG1_14.out hb); have HZ14 := Aside0.mk hb.size; clear HA14 S0_14 S1_14 G0_14 G1_14 B0_14 BS0_14 BS1_14 BX_14 BG0_14 BG1_14; clear hb; clear cc_BG0_ cc_BS0_; have cc_BG1_ : w15.cell? ⟨w7.heap.size + 1, 0, none⟩ = some (.slice A_G1_ s1.length c_G1_) := Bx.cell BG1_15.out; have cc_BS1_ : w15.cell? ⟨w3.heap.size + 1, 0, none⟩ = some (.slice A_S1_ s1.length c_S1_) := Bx.cell BS1_15.out)) | (go_at_call 17; go_loud ((with_reducible refine (laws_eqTreap.calls k5 A_G1_ c_G1_ s1 A_S1_ c_S1_ s1 true _ (Lr.c G1_15.out) (Lr.n G1_15.out) (Lr.c S1_15.out) (Lr.n S1_15.out) E5.out).mono ?_); rintro e w16 ⟨rfl, hb⟩; have HA16 := Aside0.mk (below_step HA15.out hb); have S0_16 := Aside0.mk (Lr.below S0_15.out hb); have S1_16 := Aside0.mk (Lr.below S1_15.out hb); have G0_16 := Aside0.mk (Lr.below G0_15.out hb); have G1_16 := Aside0.mk (Lr.below G1_15.out hb); have B0_16 := Aside0.mk (Bx.below B0_15.out hb); have BS0_16 := Aside0.mk (Bx.below BS0_15.out hb); have BS1_16 := Aside0.mk (Bx.below BS1_15.out hb); have BX_16 := Aside0.mk (Bx.below BX_15.out hb); have BG0_16 := Aside0.mk (Bx.below BG0_15.out hb); have BG1_16 := Aside0.mk (Bx.below BG1_15.out hb); have HZ15 := Aside0.mk hb.size; clear HA15 S0_15 S1_15 G0_15 G1_15 B0_15 BS0_15 BS1_15 BX_15 BG0_15 BG1_15; clear hb; clear cc_BG1_ cc_BS1_; have cc_BG0_ : w16.cell? ⟨w7.heap.size, 0, none⟩ = some (.slice A_G0_ s0.length c_G0_) := Bx.cell BG0_16.out)))
      go_upto_region 21 with (first | (go_at_call 25; go_loud ((with_reducible refine (laws_markTreap.calls k8 (fun k_ => some k_ = ((.slice A_G0_ s0.length c_G0_) : Value).ownBlock) (.slice A_G0_ s0.length c_G0_) s0 1 z8 q8 w _ HA16.out G0_16.out E8.out).mono ?_); rintro e w17 ⟨rfl, hy, hb, hkp⟩; have HA17 := Aside0.mk hb; have S0_17 := Aside0.mk (Lr.kept (u := (.slice A_G0_ s0.length c_G0_)) S0_16.out hkp (far RG_S0_.out RG_G0_.out (by have := HWS.out; have := HZ0.out; have := HZ1.out; have := HZ2.out; have := HZ3.out; have := HZ4.out; have := HZ5.out; have := HZ6.out; have := HZ7.out; have := HZ8.out; have := HZ9.out; have := HZ10.out; have := HZ11.out; have := HZ12.out; have := HZ13.out; have := HZ14.out; have := HZ15.out; omega))); have S1_17 := Aside0.mk (Lr.kept (u := (.slice A_G0_ s0.length c_G0_)) S1_16.out hkp (far RG_S1_.out RG_G0_.out (by have := HWS.out; have := HZ0.out; have := HZ1.out; have := HZ2.out; have := HZ3.out; have := HZ4.out; have := HZ5.out; have := HZ6.out; have := HZ7.out; have := HZ8.out; have := HZ9.out; have := HZ10.out; have := HZ11.out; have := HZ12.out; have := HZ13.out; have := HZ14.out; have := HZ15.out; omega))); have G1_17 := Aside0.mk (Lr.kept (u := (.slice A_G0_ s0.length c_G0_)) G1_16.out hkp (fun k h1 h2 => HNE.out k h2 h1)); have B0_17 := Aside0.mk (Bx.kept (u := (.slice A_G0_ s0.length c_G0_)) B0_16.out hkp (out RG_G0_.out (by have := HWS.out; have := HZ0.out; have := HZ1.out; have := HZ2.out; have := HZ3.out; have := HZ4.out; have := HZ5.out; have := HZ6.out; have := HZ7.out; have := HZ8.out; have := HZ9.out; have := HZ10.out; have := HZ11.out; have := HZ12.out; have := HZ13.out; have := HZ14.out; have := HZ15.out; omega))); have BS0_17 := Aside0.mk (Bx.kept (u := (.slice A_G0_ s0.length c_G0_)) BS0_16.out hkp (out RG_G0_.out (by have := HWS.out; have := HZ0.out; have := HZ1.out; have := HZ2.out; have := HZ3.out; have := HZ4.out; have := HZ5.out; have := HZ6.out; have := HZ7.out; have := HZ8.out; have := HZ9.out; have := HZ10.out; have := HZ11.out; have := HZ12.out; have := HZ13.out; have := HZ14.out; have := HZ15.out; omega))); have BS1_17 := Aside0.mk (Bx.kept (u := (.slice A_G0_ s0.length c_G0_)) BS1_16.out hkp (out RG_G0_.out (by have := HWS.out; have := HZ0.out; have := HZ1.out; have := HZ2.out; have := HZ3.out; have := HZ4.out; have := HZ5.out; have := HZ6.out; have := HZ7.out; have := HZ8.out; have := HZ9.out; have := HZ10.out; have := HZ11.out; have := HZ12.out; have := HZ13.out; have := HZ14.out; have := HZ15.out; omega))); have BX_17 := Aside0.mk (Bx.kept (u := (.slice A_G0_ s0.length c_G0_)) BX_16.out hkp (out RG_G0_.out (by have := HWS.out; have := HZ0.out; have := HZ1.out; have := HZ2.out; have := HZ3.out; have := HZ4.out; have := HZ5.out; have := HZ6.out; have := HZ7.out; have := HZ8.out; have := HZ9.out; have := HZ10.out; have := HZ11.out; have := HZ12.out; have := HZ13.out; have := HZ14.out; have := HZ15.out; omega))); have BG0_17 := Aside0.mk (Bx.kept (u := (.slice A_G0_ s0.length c_G0_)) BG0_16.out hkp (out RG_G0_.out (by have := HWS.out; have := HZ0.out; have := HZ1.out; have := HZ2.out; have := HZ3.out; have := HZ4.out; have := HZ5.out; have := HZ6.out; have := HZ7.out; have := HZ8.out; have := HZ9.out; have := HZ10.out; have := HZ11.out; have := HZ12.out; have := HZ13.out; have := HZ14.out; have := HZ15.out; omega))); have BG1_17 := Aside0.mk (Bx.kept (u := (.slice A_G0_ s0.length c_G0_)) BG1_16.out hkp (out RG_G0_.out (by have := HWS.out; have := HZ0.out; have := HZ1.out; have := HZ2.out; have := HZ3.out; have := HZ4.out; have := HZ5.out; have := HZ6.out; have := HZ7.out; have := HZ8.out; have := HZ9.out; have := HZ10.out; have := HZ11.out; have := HZ12.out; have := HZ13.out; have := HZ14.out; have := HZ15.out; omega))); have HZ16 := Aside0.mk hkp.1; clear HA16 S0_16 S1_16 G0_16 G1_16 B0_16 BS0_16 BS1_16 BX_16 BG0_16 BG1_16; have G0_17 := Aside0.mk (Lr.of (lo := w.heap.size) hy (Nat.le_refl _)); clear hy hb hkp; clear cc_BG0_; have cc_BG1_ : w17.cell? ⟨w7.heap.size + 1, 0, none⟩ = some (.slice A_G1_ s1.length c_G1_) := Bx.cell BG1_17.out)) | (go_at_call 25; go_loud ((with_reducible refine (laws_markTreap.calls k9 (fun k_ => some k_ = ((.slice A_G1_ s1.length c_G1_) : Value).ownBlock) (.slice A_G1_ s1.length c_G1_) s1 z8 z9 q9 w _ HA17.out G1_17.out E9.out).mono ?_); rintro e w18 ⟨rfl, hy, hb, hkp⟩; have HA18 := Aside0.mk hb; have S0_18 := Aside0.mk (Lr.kept (u := (.slice A_G1_ s1.length c_G1_)) S0_17.out hkp (far RG_S0_.out RG_G1_.out (by have := HWS.out; have := HZ0.out; have := HZ1.out; have := HZ2.out; have := HZ3.out; have := HZ4.out; have := HZ5.out; have := HZ6.out; have := HZ7.out; have := HZ8.out; have := HZ9.out; have := HZ10.out; have := HZ11.out; have := HZ12.out; have := HZ13.out; have := HZ14.out; have := HZ15.out; have := HZ16.out; omega))); have S1_18 := Aside0.mk (Lr.kept (u := (.slice A_G1_ s1.length c_G1_)) S1_17.out hkp (far RG_S1_.out RG_G1_.out (by have := HWS.out; have := HZ0.out; have := HZ1.out; have := HZ2.out; have := HZ3.out; have := HZ4.out; have := HZ5.out; have := HZ6.out; have := HZ7.out; have := HZ8.out; have := HZ9.out; have := HZ10.out; have := HZ11.out; have := HZ12.out; have := HZ13.out; have := HZ14.out; have := HZ15.out; have := HZ16.out; omega))); have G0_18 := Aside0.mk (Lr.kept (u := (.slice A_G1_ s1.length c_G1_)) G0_17.out hkp (fun k h1 h2 => HNE.out k h1 h2)); have B0_18 := Aside0.mk (Bx.kept (u := (.slice A_G1_ s1.length c_G1_)) B0_17.out hkp (out RG_G1_.out (by have := HWS.out; have := HZ0.out; have := HZ1.out; have := HZ2.out; have := HZ3.out; have := HZ4.out; have := HZ5.out; have := HZ6.out; have := HZ7.out; have := HZ8.out; have := HZ9.out; have := HZ10.out; have := HZ11.out; have := HZ12.out; have := HZ13.out; have := HZ14.out; have := HZ15.out; have := HZ16.out; omega))); have BS0_18 := Aside0.mk (Bx.kept (u := (.slice A_G1_ s1.length c_G1_)) BS0_17.out hkp (out RG_G1_.out (by have := HWS.out; have := HZ0.out; have := HZ1.out; have := HZ2.out; have := HZ3.out; have := HZ4.out; have := HZ5.out; have := HZ6.out; have := HZ7.out; have := HZ8.out; have := HZ9.out; have := HZ10.out; have := HZ11.out; have := HZ12.out; have := HZ13.out; have := HZ14.out; have := HZ15.out; have := HZ16.out; omega))); have BS1_18 := Aside0.mk (Bx.kept (u := (.slice A_G1_ s1.length c_G1_)) BS1_17.out hkp (out RG_G1_.out (by have := HWS.out; have := HZ0.out; have := HZ1.out; have := HZ2.out; have := HZ3.out; have := HZ4.out; have := HZ5.out; have := HZ6.out; have := HZ7.out; have := HZ8.out; have := HZ9.out; have := HZ10.out; have := HZ11.out; have := HZ12.out; have := HZ13.out; have := HZ14.out; have := HZ15.out; have := HZ16.out; omega))); have BX_18 := Aside0.mk (Bx.kept (u := (.slice A_G1_ s1.length c_G1_)) BX_17.out hkp (out RG_G1_.out (by have := HWS.out; have := HZ0.out; have := HZ1.out; have := HZ2.out; have := HZ3.out; have := HZ4.out; have := HZ5.out; have := HZ6.out; have := HZ7.out; have := HZ8.out; have := HZ9.out; have := HZ10.out; have := HZ11.out; have := HZ12.out; have := HZ13.out; have := HZ14.out; have := HZ15.out; have := HZ16.out; omega))); have BG0_18 := Aside0.mk (Bx.kept (u := (.slice A_G1_ s1.length c_G1_)) BG0_17.out hkp (out RG_G1_.out (by have := HWS.out; have := HZ0.out; have := HZ1.out; have := HZ2.out; have := HZ3.out; have := HZ4.out; have := HZ5.out; have := HZ6.out; have := HZ7.out; have := HZ8.out; have := HZ9.out; have := HZ10.out; have := HZ11.out; have := HZ12.out; have := HZ13.out; have := HZ14.out; have := HZ15.out; have := HZ16.out; omega))); have BG1_18 := Aside0.mk (Bx.kept (u := (.slice A_G1_ s1.length c_G1_)) BG1_17.out hkp (out RG_G1_.out (by have := HWS.out; have := HZ0.out; have := HZ1.out; have := HZ2.out; have := HZ3.out; have := HZ4.out; have := HZ5.out; have := HZ6.out; have := HZ7.out; have := HZ8.out; have := HZ9.out; have := HZ10.out; have := HZ11.out; have := HZ12.out; have := HZ13.out; have := HZ14.out; have := HZ15.out; have := HZ16.out; omega))); have HZ17 := Aside0.mk hkp.1; clear HA17 S0_17 S1_17 G0_17 G1_17 B0_17 BS0_17 BS1_17 BX_17 BG0_17 BG1_17; have G1_18 := Aside0.mk (Lr.of (lo := w.heap.size) hy (Nat.le_refl _)); clear hy hb hkp; clear cc_BG1_; have cc_BG0_ : w18.cell? ⟨w7.heap.size, 0, none⟩ = some (.slice A_G0_ s0.length c_G0_) := Bx.cell BG0_18.out)))
      go_upto_region 30 with (first | (go_at_call 30; go_loud (have hcal := laws_heldTreap.calls k10 A_G0_ c_G0_ q8 1 z8 w18 (Lr.c G0_18.out) (by have h_ := Lr.len G0_18.out; omega) E10.out; rw [HQ_G0_.out] at hcal; (with_reducible refine (hcal).mono ?_); rintro e w19 ⟨rfl, hb⟩; have HA19 := Aside0.mk (below_step HA18.out hb); have S0_19 := Aside0.mk (Lr.below S0_18.out hb); have S1_19 := Aside0.mk (Lr.below S1_18.out hb); have G0_19 := Aside0.mk (Lr.below G0_18.out hb); have G1_19 := Aside0.mk (Lr.below G1_18.out hb); have B0_19 := Aside0.mk (Bx.below B0_18.out hb); have BS0_19 := Aside0.mk (Bx.below BS0_18.out hb); have BS1_19 := Aside0.mk (Bx.below BS1_18.out hb); have BX_19 := Aside0.mk (Bx.below BX_18.out hb); have BG0_19 := Aside0.mk (Bx.below BG0_18.out hb); have BG1_19 := Aside0.mk (Bx.below BG1_18.out hb); have HZ18 := Aside0.mk hb.size; clear HA18 S0_18 S1_18 G0_18 G1_18 B0_18 BS0_18 BS1_18 BX_18 BG0_18 BG1_18; clear hb hcal; clear cc_BG0_; have cc_BG1_ : w19.cell? ⟨w7.heap.size + 1, 0, none⟩ = some (.slice A_G1_ s1.length c_G1_) := Bx.cell BG1_19.out)) | (go_at_call 30; go_loud (have hcal := laws_heldTreap.calls k11 A_G1_ c_G1_ q9 z8 z9 w19 (Lr.c G1_19.out) (by have h_ := Lr.len G1_19.out; omega) E11.out; rw [HQ_G1_.out] at hcal; (with_reducible refine (hcal).mono ?_); rintro e w20 ⟨rfl, hb⟩; have HA20 := Aside0.mk (below_step HA19.out hb); have S0_20 := Aside0.mk (Lr.below S0_19.out hb); have S1_20 := Aside0.mk (Lr.below S1_19.out hb); have G0_20 := Aside0.mk (Lr.below G0_19.out hb); have G1_20 := Aside0.mk (Lr.below G1_19.out hb); have B0_20 := Aside0.mk (Bx.below B0_19.out hb); have BS0_20 := Aside0.mk (Bx.below BS0_19.out hb); have BS1_20 := Aside0.mk (Bx.below BS1_19.out hb); have BX_20 := Aside0.mk (Bx.below BX_19.out hb); have BG0_20 := Aside0.mk (Bx.below BG0_19.out hb); have BG1_20 := Aside0.mk (Bx.below BG1_19.out hb); have HZ19 := Aside0.mk hb.size; clear HA19 S0_19 S1_19 G0_19 G1_19 B0_19 BS0_19 BS1_19 BX_19 BG0_19 BG1_19; clear hb hcal; clear cc_BG1_; have cc_B0_ : w20.cell? ⟨w.heap.size, 0, none⟩ = some (.slice A l.length c) := Bx.cell B0_20.out)))
      go_upto_region 31 with (first | (go_at_call 15; go_loud ((with_reducible refine (laws_toTreap.calls k1 A c l L _ (Kd.C_below HR.out HA20.out) HC.out E1.out).mono ?_); rintro e w21 ⟨v_X3_, rfl, ho, hb⟩; have HA21 := Aside0.mk (below_step HA20.out hb); have S0_21 := Aside0.mk (Lr.below S0_20.out hb); have S1_21 := Aside0.mk (Lr.below S1_20.out hb); have G0_21 := Aside0.mk (Lr.below G0_20.out hb); have G1_21 := Aside0.mk (Lr.below G1_20.out hb); have B0_21 := Aside0.mk (Bx.below B0_20.out hb); have BS0_21 := Aside0.mk (Bx.below BS0_20.out hb); have BS1_21 := Aside0.mk (Bx.below BS1_20.out hb); have BX_21 := Aside0.mk (Bx.below BX_20.out hb); have BG0_21 := Aside0.mk (Bx.below BG0_20.out hb); have BG1_21 := Aside0.mk (Bx.below BG1_20.out hb); have HZ20 := Aside0.mk hb.size; have RG_X3_ := Aside0.mk (Rng.of ho); have hl_ := Lr.of (lo := w.heap.size) ho HA20.out.size; obtain ⟨A_X3_, c_X3_, e_X3_⟩ := Lr.slice hl_; subst e_X3_; have X3_21 := Aside0.mk hl_; clear hl_ ho; clear HA20 S0_20 S1_20 G0_20 G1_20 B0_20 BS0_20 BS1_20 BX_20 BG0_20 BG1_20; clear hb; clear cc_B0_)) | (go_at_call 32; go_loud ((with_reducible refine (impl_SplitTreap.calls A_X3_ c_X3_ L key s0 s1 sb _ (Lr.c X3_21.out) (Lr.n X3_21.out) E3.out).mono ?_); rintro e w22 ⟨v_H0_, v_H1_, rfl, ho, ho1, hb⟩; have HA22 := Aside0.mk (below_step HA21.out hb); have S0_22 := Aside0.mk (Lr.below S0_21.out hb); have S1_22 := Aside0.mk (Lr.below S1_21.out hb); have G0_22 := Aside0.mk (Lr.below G0_21.out hb); have G1_22 := Aside0.mk (Lr.below G1_21.out hb); have X3_22 := Aside0.mk (Lr.below X3_21.out hb); have B0_22 := Aside0.mk (Bx.below B0_21.out hb); have BS0_22 := Aside0.mk (Bx.below BS0_21.out hb); have BS1_22 := Aside0.mk (Bx.below BS1_21.out hb); have BX_22 := Aside0.mk (Bx.below BX_21.out hb); have BG0_22 := Aside0.mk (Bx.below BG0_21.out hb); have BG1_22 := Aside0.mk (Bx.below BG1_21.out hb); have HZ21 := Aside0.mk hb.size; have RG_H0_ := Aside0.mk (Rng.of ho); have hl_ := Lr.of (lo := w.heap.size) ho HA21.out.size; obtain ⟨A_H0_, c_H0_, e_H0_⟩ := Lr.slice hl_; subst e_H0_; have H0_22 := Aside0.mk hl_; clear hl_ ho; have RG_H1_ := Aside0.mk (Rng.of ho1); have hl_ := Lr.of (lo := w.heap.size) ho1 HA21.out.size; obtain ⟨A_H1_, c_H1_, e_H1_⟩ := Lr.slice hl_; subst e_H1_; have H1_22 := Aside0.mk hl_; clear hl_ ho1; clear HA21 S0_21 S1_21 G0_21 G1_21 X3_21 B0_21 BS0_21 BS1_21 BX_21 BG0_21 BG1_21; clear hb; obtain ⟨w23, hw⟩ : ∃ W_, W_ = ((w22.alloc (.cells #[.slice A_H0_ s0.length c_H0_] 29)).alloc (.cells #[.slice A_H1_ s1.length c_H1_] 29)) := ⟨_, rfl⟩; have HW23 := Aside0.mk hw; obtain ⟨q0, q1, hb⟩ := two (w := w22) (.slice A_H0_ s0.length c_H0_) (.slice A_H1_ s1.length c_H1_) 29; have hz2 : w22.heap.size + 2 ≤ w23.heap.size := (by rw [hw, new_size, new_size]; exact Nat.le_refl _); rw [← hw] at q0 q1 hb; have HA23 := Aside0.mk (below_step HA22.out hb); have S0_23 := Aside0.mk (Lr.below S0_22.out hb); have S1_23 := Aside0.mk (Lr.below S1_22.out hb); have G0_23 := Aside0.mk (Lr.below G0_22.out hb); have G1_23 := Aside0.mk (Lr.below G1_22.out hb); have H0_23 := Aside0.mk (Lr.below H0_22.out hb); have H1_23 := Aside0.mk (Lr.below H1_22.out hb); have B0_23 := Aside0.mk (Bx.below B0_22.out hb); have BS0_23 := Aside0.mk (Bx.below BS0_22.out hb); have BS1_23 := Aside0.mk (Bx.below BS1_22.out hb); have BX_23 := Aside0.mk (Bx.below BX_22.out hb); have BG0_23 := Aside0.mk (Bx.below BG0_22.out hb); have BG1_23 := Aside0.mk (Bx.below BG1_22.out hb); have HZ22 := Aside0.mk hz2; clear HA22 S0_22 S1_22 G0_22 G1_22 H0_22 H1_22 B0_22 BS0_22 BS1_22 BX_22 BG0_22 BG1_22; have BH0_23 := Aside0.mk q0; have BH1_23 := Aside0.mk q1; clear hb hw hz2 q0 q1; have cc_BH0_ : w23.cell? ⟨w22.heap.size, 0, none⟩ = some (.slice A_H0_ s0.length c_H0_) := Bx.cell BH0_23.out; have cc_BS0_ : w23.cell? ⟨w3.heap.size, 0, none⟩ = some (.slice A_S0_ s0.length c_S0_) := Bx.cell BS0_23.out)))
      rw [← HW23.out]
      go_upto_region 33 with (first | (go_at_call 17; go_loud ((with_reducible refine (laws_eqTreap.calls k4 A_H0_ c_H0_ s0 A_S0_ c_S0_ s0 true _ (Lr.c H0_23.out) (Lr.n H0_23.out) (Lr.c S0_23.out) (Lr.n S0_23.out) E4.out).mono ?_); rintro e w24 ⟨rfl, hb⟩; have HA24 := Aside0.mk (below_step HA23.out hb); have S0_24 := Aside0.mk (Lr.below S0_23.out hb); have S1_24 := Aside0.mk (Lr.below S1_23.out hb); have G0_24 := Aside0.mk (Lr.below G0_23.out hb); have G1_24 := Aside0.mk (Lr.below G1_23.out hb); have H0_24 := Aside0.mk (Lr.below H0_23.out hb); have H1_24 := Aside0.mk (Lr.below H1_23.out hb); have B0_24 := Aside0.mk (Bx.below B0_23.out hb); have BS0_24 := Aside0.mk (Bx.below BS0_23.out hb); have BS1_24 := Aside0.mk (Bx.below BS1_23.out hb); have BX_24 := Aside0.mk (Bx.below BX_23.out hb); have BG0_24 := Aside0.mk (Bx.below BG0_23.out hb); have BG1_24 := Aside0.mk (Bx.below BG1_23.out hb); have BH0_24 := Aside0.mk (Bx.below BH0_23.out hb); have BH1_24 := Aside0.mk (Bx.below BH1_23.out hb); have HZ23 := Aside0.mk hb.size; clear HA23 S0_23 S1_23 G0_23 G1_23 H0_23 H1_23 B0_23 BS0_23 BS1_23 BX_23 BG0_23 BG1_23 BH0_23 BH1_23; clear hb; clear cc_BH0_ cc_BS0_; have cc_BH1_ : w24.cell? ⟨w22.heap.size + 1, 0, none⟩ = some (.slice A_H1_ s1.length c_H1_) := Bx.cell BH1_24.out; have cc_BS1_ : w24.cell? ⟨w3.heap.size + 1, 0, none⟩ = some (.slice A_S1_ s1.length c_S1_) := Bx.cell BS1_24.out)) | (go_at_call 17; go_loud ((with_reducible refine (laws_eqTreap.calls k5 A_H1_ c_H1_ s1 A_S1_ c_S1_ s1 true _ (Lr.c H1_24.out) (Lr.n H1_24.out) (Lr.c S1_24.out) (Lr.n S1_24.out) E5.out).mono ?_); rintro e w25 ⟨rfl, hb⟩; have HA25 := Aside0.mk (below_step HA24.out hb); have S0_25 := Aside0.mk (Lr.below S0_24.out hb); have S1_25 := Aside0.mk (Lr.below S1_24.out hb); have G0_25 := Aside0.mk (Lr.below G0_24.out hb); have G1_25 := Aside0.mk (Lr.below G1_24.out hb); have H0_25 := Aside0.mk (Lr.below H0_24.out hb); have H1_25 := Aside0.mk (Lr.below H1_24.out hb); have B0_25 := Aside0.mk (Bx.below B0_24.out hb); have BS0_25 := Aside0.mk (Bx.below BS0_24.out hb); have BS1_25 := Aside0.mk (Bx.below BS1_24.out hb); have BX_25 := Aside0.mk (Bx.below BX_24.out hb); have BG0_25 := Aside0.mk (Bx.below BG0_24.out hb); have BG1_25 := Aside0.mk (Bx.below BG1_24.out hb); have BH0_25 := Aside0.mk (Bx.below BH0_24.out hb); have BH1_25 := Aside0.mk (Bx.below BH1_24.out hb); have HZ24 := Aside0.mk hb.size; clear HA24 S0_24 S1_24 G0_24 G1_24 H0_24 H1_24 B0_24 BS0_24 BS1_24 BX_24 BG0_24 BG1_24 BH0_24 BH1_24; clear hb; clear cc_BH1_ cc_BS1_; have cc_BG0_ : w25.cell? ⟨w7.heap.size, 0, none⟩ = some (.slice A_G0_ s0.length c_G0_) := Bx.cell BG0_25.out)))
      go_wp2_with (first | (go_at_call 30; go_loud (have hcal := laws_heldTreap.calls k10 A_G0_ c_G0_ q8 1 z8 w25 (Lr.c G0_25.out) (by have h_ := Lr.len G0_25.out; omega) E10.out; rw [HQ_G0_.out] at hcal; (with_reducible refine (hcal).mono ?_); rintro e w26 ⟨rfl, hb⟩; have HA26 := Aside0.mk (below_step HA25.out hb); have S0_26 := Aside0.mk (Lr.below S0_25.out hb); have S1_26 := Aside0.mk (Lr.below S1_25.out hb); have G0_26 := Aside0.mk (Lr.below G0_25.out hb); have G1_26 := Aside0.mk (Lr.below G1_25.out hb); have H0_26 := Aside0.mk (Lr.below H0_25.out hb); have H1_26 := Aside0.mk (Lr.below H1_25.out hb); have B0_26 := Aside0.mk (Bx.below B0_25.out hb); have BS0_26 := Aside0.mk (Bx.below BS0_25.out hb); have BS1_26 := Aside0.mk (Bx.below BS1_25.out hb); have BX_26 := Aside0.mk (Bx.below BX_25.out hb); have BG0_26 := Aside0.mk (Bx.below BG0_25.out hb); have BG1_26 := Aside0.mk (Bx.below BG1_25.out hb); have BH0_26 := Aside0.mk (Bx.below BH0_25.out hb); have BH1_26 := Aside0.mk (Bx.below BH1_25.out hb); have HZ25 := Aside0.mk hb.size; clear HA25 S0_25 S1_25 G0_25 G1_25 H0_25 H1_25 B0_25 BS0_25 BS1_25 BX_25 BG0_25 BG1_25 BH0_25 BH1_25; clear hb hcal; clear cc_BG0_; have cc_BG1_ : w26.cell? ⟨w7.heap.size + 1, 0, none⟩ = some (.slice A_G1_ s1.length c_G1_) := Bx.cell BG1_26.out)) | (go_at_call 30; go_loud (have hcal := laws_heldTreap.calls k11 A_G1_ c_G1_ q9 z8 z9 w26 (Lr.c G1_26.out) (by have h_ := Lr.len G1_26.out; omega) E11.out; rw [HQ_G1_.out] at hcal; (with_reducible refine (hcal).mono ?_); rintro e w27 ⟨rfl, hb⟩; have HA27 := Aside0.mk (below_step HA26.out hb); have S0_27 := Aside0.mk (Lr.below S0_26.out hb); have S1_27 := Aside0.mk (Lr.below S1_26.out hb); have G0_27 := Aside0.mk (Lr.below G0_26.out hb); have G1_27 := Aside0.mk (Lr.below G1_26.out hb); have H0_27 := Aside0.mk (Lr.below H0_26.out hb); have H1_27 := Aside0.mk (Lr.below H1_26.out hb); have B0_27 := Aside0.mk (Bx.below B0_26.out hb); have BS0_27 := Aside0.mk (Bx.below BS0_26.out hb); have BS1_27 := Aside0.mk (Bx.below BS1_26.out hb); have BX_27 := Aside0.mk (Bx.below BX_26.out hb); have BG0_27 := Aside0.mk (Bx.below BG0_26.out hb); have BG1_27 := Aside0.mk (Bx.below BG1_26.out hb); have BH0_27 := Aside0.mk (Bx.below BH0_26.out hb); have BH1_27 := Aside0.mk (Bx.below BH1_26.out hb); have HZ26 := Aside0.mk hb.size; clear HA26 S0_26 S1_26 G0_26 G1_26 H0_26 H1_26 B0_26 BS0_26 BS1_26 BX_26 BG0_26 BG1_26 BH0_26 BH1_26; clear hb hcal; clear cc_BG1_)))
      go_ret
      exact ⟨rfl, HA27.out⟩
end Go.Proofs.Ytjknkeipginpcaa.LwSp
end

section
-- Written by a program of this session (pprint.py) out of the translation's print; Lean checks it.
namespace Go.Proofs.Ytjknkeipginpcaa.PQ
open Go.RowKit Go.Proofs.YtjknkeipginpcaaW.PrintWords Go.Proofs.YtjknkeipginpcaaW.PrintLast Go.Proofs.YtjknkeipginpcaaW.PrintMore
attribute [local go_sem] max2_int min2_int max_two min_two max_three min_three max_four min_four   -- for this text's walks alone
set_option linter.unusedVariables false
set_option linter.unusedSimpArgs false

--OWNPART laws_FnExactSplitTreap
/-! ### laws_FnExactSplitTreap: function 8, by hand -/
--NEEDS loop.example/g00274/impl.GoodTreap
--NEEDS loop.example/g00274/spec.l7Of
--NEEDS loop.example/g00274/impl.SplitTreap
--NEEDS loop.example/g00274/spec.SplitTreap
--NEEDS loop.example/g00274/impl.placeOf
--NEEDS loop.example/g00274/laws.szTreap
--NEEDS loop.example/g00274/laws.toTreap
--NEEDS loop.example/g00274/laws.eqTreap
--NEEDS loop.example/g00274/laws.markTreap
--NEEDS loop.example/g00274/laws.heldTreap
--IMPORT LwSp
def laws_FnExactSplitTreap.Pure : Prop := True
theorem laws_FnExactSplitTreap.walk (P : laws_FnExactSplitTreap.Pure) (A0_0 : Option Addr) (c0_0 : Nat) (l0_0 : List (S99)) (a1 : ByteArray) (w : World) (hr0_0 : Kd.C k99 w A0_0 l0_0.length l0_0) (hc0_0 : l0_0.length ≤ c0_0) (w0_0 : (l0_0.length ≤ maxLen ∧ ∀ x_ ∈ l0_0, (x_.f0.size ≤ maxLen ∧ (x_.f1.size ≤ maxLen ∧ ((Lit.int .i64 x_.f2).wf = true ∧ (Lit.int .i64 x_.f3).wf = true))))) (w1 : a1.size ≤ maxLen) :
  Calls Try.prog 8 #[.agg #[.slice A0_0 l0_0.length c0_0], .string a1] w fun e w' => e = .returned (.bool true) ∧ Below w.heap.size w w' :=
 LwSp.calls A0_0 c0_0 l0_0 a1 w hr0_0 hc0_0 ⟨w0_0.1, fun x hx => ⟨(w0_0.2 x hx).1, (w0_0.2 x hx).2.1⟩⟩ w1

end Go.Proofs.Ytjknkeipginpcaa.PQ
end

section
/- Nothing is left of the law FnExactSplitTreap: it is walked whole. No conditions. -/
namespace Go.Proofs.Ytjknkeipginpcaa.Pure
open Go.Proofs.Ytjknkeipginpcaa.PQ
theorem FnExactSplitTreap : laws_FnExactSplitTreap.Pure := trivial
end Go.Proofs.Ytjknkeipginpcaa.Pure
end
