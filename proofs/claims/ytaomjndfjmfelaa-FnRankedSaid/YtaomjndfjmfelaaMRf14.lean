/- Several texts in one: what the claim's last text rests on. No conditions. -/
import Derived.Test.YtaomjndfjmfelaaMRf4
import Derived.Test.YtaomjndfjmfelaaMRf6
import Derived.Test.YtaomjndfjmfelaaMRf7
import Derived.Maps.OwnSet
import Derived.Maps.OwnOps
section
namespace Go.Proofs.Ytaomjndfjmfelaa.Rank
set_option linter.unusedVariables false
set_option linter.unusedSimpArgs false
open Go.RowKit Go.Maps Go.ChangeMaps Go.Proofs.Ytaomjndfjmfelaa.PQ Go.Proofs.YtaomjndfjmfelaaW.PrintWords Go.Proofs.YtaomjndfjmfelaaW.PrintLast Go.Proofs.YtaomjndfjmfelaaW.PrintMore Go.Proofs.Ytaomjndfjmfelaa.Pre
abbrev Sc := S79
theorem bool_inv {P : Program} {e : TypeId} (he : P.underlying e = some .bool) {v : Value} {z : DataW Unit × List MemPlace} (h : plainElem P e v = some z) : ∃ c, v = .bool c ∧ z = (.lit (.bool c), []) := by
 unfold plainElem at h
 rw [he] at h
 cases v <;> simp at h
 exact ⟨_, rfl, h.symm⟩
/-- The map holds these ids. -/
def Seen (W : World) (b n : Nat) (ids : List Int) : Prop := ∃ D : DataW Unit, W.ownsMap Try.prog 3 (plainElem Try.prog 4) b n D ∧ ∀ x : Int, (Lit.int .i64 x).wf = true → D.atKey (.int .i64 x) (.lit (.bool false)) = .lit (.bool (decide (x ∈ ids)))
theorem Seen.look {W : World} {b n : Nat} {ids : List Int} (h : Seen W b n ids) (x : Int) (hx : (Lit.int .i64 x).wf = true) :
  (Instr.lookup 166 (.map (some b)) (.int .i64 x) false).run Try.prog W = .ok (.bool (decide (x ∈ ids))) W := by
 obtain ⟨D, hD, hat⟩ := h
 obtain ⟨v, ps, hrun, hv⟩ := hD.lookup (int_keyed Try.underlying3) Try.underlying166 (z := .bool false) (by kernel_rfl) (plainElem_bool Try.underlying4 false) (keyOf_int_mk Try.underlying3 hx)
 rw [hat x hx] at hv
 obtain ⟨c, rfl, hc⟩ := bool_inv Try.underlying4 hv
 simp at hc
 rw [hrun, ← hc.1]
theorem Seen.made (w : World) : Seen (w.alloc (.map #[] 0)) w.heap.size 0 [] := by
 refine ⟨.map [], World.ownsMap_made w _ _ _, fun x _ => ?_⟩
 rfl
theorem Seen.kept {W W' : World} {b n : Nat} {ids : List Int} (h : Seen W b n ids) {row : Option Nat} (hg : W.grownBy W' row) (hne : some b ≠ row) : Seen W' b n ids := by
 obtain ⟨D, hD, hat⟩ := h
 exact ⟨D, hD.kept hg hne, hat⟩
theorem Seen.lt {W : World} {b n : Nat} {ids : List Int} (h : Seen W b n ids) : b < W.heap.size := by
 obtain ⟨D, hD, hat⟩ := h
 exact hD.lt
theorem Seen.put {W : World} {b n : Nat} {ids : List Int} (h : Seen W b n ids) (x : Int) (hx : (Lit.int .i64 x).wf = true) (hn : n < maxLen) :
  ∃ w', (Instr.mapUpdate 166 (.map (some b)) (.int .i64 x) (.bool true)).run Try.prog W = .ok () w' ∧ Seen w' b (n + 1) (x :: ids) ∧ W.grownBy w' (some b) := by
 obtain ⟨D, hD, hat⟩ := h
 obtain ⟨w', hrun, hD', hg⟩ := hD.update (int_keyed Try.underlying3) Try.underlying166 hn (keyOf_int_mk Try.underlying3 hx) (plainElem_bool Try.underlying4 true)
 refine ⟨w', hrun, ⟨_, hD', fun y hy => ?_⟩, hg⟩
 by_cases hxy : y = x
 ·subst hxy
  rw [atKey_put_same hD.isMap ?_]
  ·simp
  ·trivial
 ·rw [atKey_put_other (by intro e; injection e with _ e; exact hxy e), hat y hy]
  simp [hxy]
theorem within_calls (a0 a1 a2 : Int) (b : Bool) (w : World) (h : decide (a1 ≤ a0 ∧ a0 ≤ a2) = b) :
  Calls Try.prog 88 #[.int .i64 a0, .int .i64 a1, .int .i64 a2] w fun e w' => e = .returned (.bool b) ∧ Below w.heap.size w w' := by
 refine (impl_within.calls a0 a1 a2 b w ?_).mono (fun e w' hh => ⟨hh.1, hh.2.below⟩)
 unfold impl_within.f
 by_cases h1 : a0 ≥ a1
 ·rw [if_pos h1, ← h]
  congr 1
  by_cases h2 : a0 ≤ a2
  ·rw [decide_eq_true h2, decide_eq_true ⟨h1, h2⟩]
  ·rw [decide_eq_false h2, decide_eq_false (fun e => h2 e.2)]
 ·rw [if_neg h1, ← h, decide_eq_false (fun e => h1 e.1)]
/-- One stands ahead of another one. -/
def ahead (y x : Sc) : Bool := decide (x.f1 < y.f1 ∨ (x.f1 = y.f1 ∧ y.f0 < x.f0))
theorem cmp_ev (a b : Int) : cmp_Compare_int.f a b = some (if a < b then -1 else if b < a then 1 else 0) := by
 unfold cmp_Compare_int.f
 have h1 : ∀ x : Int, cmp_isNaN_int.f x = some false := fun x => by simp [cmp_isNaN_int.f]
 rw [h1, h1]
 by_cases h2 : a < b
 ·simp [h2]
 ·by_cases h3 : b < a
  ·simp [h2, h3]
  ·simp [h2, h3]
theorem or_ev (a b : Int) : Evt (fun k => cmp_Or_int.f k [a, b]) (if a = 0 then b else a) := by
 unfold cmp_Or_int.f
 refine Evt.step (fun k => cmp_Or_int.l0.eq_2 _ _ _ _ k) (Evt.pos (by simp) (Evt.pos (by omega) (Evt.pos (by simp) ?_)))
 show Evt (fun k => if a = 0 then cmp_Or_int.l0 k 0 [a, b] 2 (wrap64 (0 + 1)) else some a) _
 by_cases h : a = 0
 ·rw [if_pos h, w64 (by omega) (by omega)]
  refine Evt.pos h (Evt.step (fun k => cmp_Or_int.l0.eq_2 _ _ _ _ k) (Evt.pos (by omega) (Evt.pos (by omega) (Evt.pos (by simp) ?_))))
  show Evt (fun k => if b = 0 then cmp_Or_int.l0 k 0 [a, b] 2 (wrap64 (0 + 1 + 1)) else some b) _
  by_cases h2 : b = 0
  ·refine Evt.pos h2 ?_
   rw [w64 (by omega) (by omega)]
   exact Evt.step (fun k => cmp_Or_int.l0.eq_2 _ _ _ _ k) (Evt.neg (by omega) ((Evt.const _).eq h2.symm))
  ·exact Evt.neg h2 (Evt.const _)
 ·rw [if_neg h]
  exact Evt.neg h (Evt.const _)
theorem before_calls (y x : Sc) (w : World) : Calls Try.prog 144 #[.agg #[.int .i64 y.f0, .int .i64 y.f1], .agg #[.int .i64 x.f0, .int .i64 x.f1]] w
  fun e w' => ∃ r : Int, e = .returned (.int .i64 r) ∧ decide ((0 : Int) ≤ r) = !ahead y x ∧ Below w.heap.size w w' := by
 have hev : Evt (fun k => impl_before.f k y.f0 y.f1 x.f0 x.f1) (if (if x.f1 < y.f1 then (-1 : Int) else if y.f1 < x.f1 then 1 else 0) = 0 then (if y.f0 < x.f0 then -1 else if x.f0 < y.f0 then 1 else 0) else (if x.f1 < y.f1 then (-1 : Int) else if y.f1 < x.f1 then 1 else 0)) := by
  unfold impl_before.f
  rw [cmp_ev, cmp_ev]
  exact Evt.bsome (Evt.bsome (Evt.bind (or_ev _ _) (Evt.const _)))
 obtain ⟨k, h⟩ := hev.ex
 refine (impl_before.calls k _ _ _ _ _ w h).mono (fun e w' hh => ⟨_, hh.1, ?_, hh.2⟩)
 unfold ahead
 by_cases h1 : x.f1 < y.f1
 ·simp [h1]
 ·by_cases h2 : y.f1 < x.f1
  ·have h3 : ¬ x.f1 = y.f1 := by omega
   simp [h1, h2, h3]
  ·have h3 : x.f1 = y.f1 := by omega
   by_cases h4 : y.f0 < x.f0
   ·simp [h3, h4]
   ·by_cases h5 : x.f0 < y.f0
    ·simp [h3, h4, h5]
    ·simp [h3, h4, h5]
/-- One entry of a ranking is as it must be behind those before it. -/
def entryOK (l : List Sc) (i : Nat) : Bool :=
 let x := rd_T79 l (i : Int)
 decide (0 ≤ x.f0 ∧ x.f0 ≤ 1000) && decide (1 ≤ x.f1 ∧ x.f1 ≤ 1000000) && !decide (x.f0 ∈ (l.take i).map (·.f0)) && (decide (i = 0) || (let y := rd_T79 l ((i : Int) - 1); decide (x.f1 < y.f1 ∨ (x.f1 = y.f1 ∧ y.f0 < x.f0))))
def rankOK (l : List Sc) : Bool := decide (l.length ≤ 60) && (List.range l.length).all (entryOK l)

theorem wf_int {x : Int} (h0 : 0 ≤ x) (h1 : x ≤ 1000) : (Lit.int .i64 x).wf = true := by
 simp only [Lit.wf, IntKind.min, IntKind.max, IntKind.signed, IntKind.bits, Bool.and_eq_true, decide_eq_true_eq, if_true]
 omega
theorem bad_entry (l : List Sc) (i : Nat) (hi : i < l.length) (he : entryOK l i = false) : rankOK l = false := by
 unfold rankOK
 have : (List.range l.length).all (entryOK l) = false := by
  rw [List.all_eq_false]
  exact ⟨i, List.mem_range.2 hi, by rw [he]; simp⟩
 rw [this, Bool.and_false]
theorem entry_zero (l : List Sc) : entryOK l 0 = (decide (0 ≤ (rd_T79 l ((0 : Nat) : Int)).f0 ∧ (rd_T79 l ((0 : Nat) : Int)).f0 ≤ 1000) && decide (1 ≤ (rd_T79 l ((0 : Nat) : Int)).f1 ∧ (rd_T79 l ((0 : Nat) : Int)).f1 ≤ 1000000)) := by
 unfold entryOK
 simp
theorem entry_succ (l : List Sc) (j : Nat) (y x : Sc) (hy : y = rd_T79 l (j : Int)) (hx : x = rd_T79 l ((j + 1 : Nat) : Int)) : entryOK l (j + 1) = (decide (0 ≤ x.f0 ∧ x.f0 ≤ 1000) && decide (1 ≤ x.f1 ∧ x.f1 ≤ 1000000) && !decide (x.f0 ∈ (l.take (j + 1)).map (·.f0)) && ahead y x) := by
 unfold entryOK ahead
 simp only [← hx, show ((j + 1 : Nat) : Int) - 1 = (j : Int) by omega, ← hy]
 simp
theorem take_mem (l : List Sc) (i : Nat) (hi : i < l.length) (x : Sc) (hx : x = rd_T79 l (i : Int)) (ids : List Int) (h : ∀ z, z ∈ ids ↔ z ∈ (l.take i).map (·.f0)) (z : Int) : z ∈ x.f0 :: ids ↔ z ∈ (l.take (i + 1)).map (·.f0) := by
 have e : l[i] = x := by
  rw [hx]
  unfold rd_T79
  rw [Int.toNat_natCast, List.getD_eq_getElem?_getD, List.getElem?_eq_getElem hi]
  rfl
 rw [List.take_succ_eq_append_getElem hi, List.map_append, List.mem_append, List.mem_cons, h z, e, List.map_cons, List.map_nil, List.mem_singleton]
 exact Or.comm
theorem all_succ {l : List Sc} {i : Nat} (h : (List.range i).all (entryOK l) = true) (he : entryOK l i = true) : (List.range (i + 1)).all (entryOK l) = true := by
 rw [List.range_succ, List.all_append, h]
 simp [he]
set_option maxHeartbeats 2000000 in
set_option maxRecDepth 100000 in
theorem ok_calls (A : Option Addr) (c : Nat) (l : List Sc) (w : World) (hr : Kd.C k79 w A l.length l) (hc : l.length ≤ c) :
  Calls Try.prog 111 #[.agg #[.slice A l.length c]] w fun e w' => e = .returned (.bool (rankOK l)) ∧ Below w.heap.size w w' := by
 have HR := aM hr
 have hmk := fun w => run_makeMap (P := Try.prog) 166 w
 go_enter Try.func111, Try.ntmps111
 by_cases h60 : (l.length : Int) > 60
 ·have h60b : decide ((60 : Int) < (l.length : Int)) = true := decide_eq_true h60
  go_wp2
  go_ret
  refine ⟨?_, below_alloc (Below.refl _ _) _⟩
  unfold rankOK
  rw [decide_eq_false (by omega)]
  rfl
 ·have h60b : decide ((60 : Int) < (l.length : Int)) = false := decide_eq_false h60
  replace h60 := aM h60
  go_wp2
  have HS0 := aM (Seen.made (w.alloc (.cells #[.slice A l.length c] 77)))
  rw [show (w.alloc (.cells #[.slice A l.length c] 77)).heap.size = w.heap.size + 1 by simp] at HS0
  have HB0 := aM (below_alloc (below_alloc (Below.refl w.heap.size w) (.cells #[.slice A l.length c] 77)) (.map #[] 0))
  have HC0 : Aside0 (((w.alloc (.cells #[.slice A l.length c] 77)).alloc (.map #[] 0)).cell? ⟨w.heap.size, 0, none⟩ = some (.slice A l.length c)) := ⟨by simp⟩
  go_loopg [14] l.length (fun kq v14 w' => ∃ i : Nat, v14 = .int .i64 (i : Int) ∧ i ≤ l.length ∧ kq = l.length - i ∧ Aside0 ((List.range i).all (entryOK l) = true) ∧ (∃ ids, Aside0 (Seen w' (w.heap.size + 1) i ids) ∧ Aside0 (∀ x, x ∈ ids ↔ x ∈ (l.take i).map (·.f0))) ∧ Aside0 (Below w.heap.size w w') ∧ Aside0 (w'.cell? ⟨w.heap.size, 0, none⟩ = some (.slice A l.length c)))
  case atStart => exact ⟨0, rfl, by omega, by omega, ⟨rfl⟩, ⟨[], HS0, ⟨by simp⟩⟩, HB0, HC0⟩
  case round =>
   obtain ⟨i, rfl, hi, hk, HE, ⟨ids, HS, HI⟩, HB, HC⟩ := hrel
   by_cases hlt : i < l.length
   ·have HI2 := aM hlt
    have p1 : (0 : Int) ≤ (i : Int) := by omega
    have q1 : (i : Int) < (l.length : Int) := by omega
    obtain ⟨ad, rfl, hx0, hx1⟩ := at_T79 HR.out (i : Int) p1 q1
    replace hx0 := (HB.out.cell (World.block_lt_of_cell? w _ hx0)).trans hx0
    replace hx1 := (HB.out.cell (World.block_lt_of_cell? w _ hx1)).trans hx1
    rw [Int.toNat_natCast] at hx0 hx1
    have hcr := HC.out
    replace p1 := eq_true p1
    replace q1 := eq_true q1
    go_wp2
    obtain ⟨x, hxe⟩ : ∃ x, x = rd_T79 l (i : Int) := ⟨_, rfl⟩
    rw [← hxe] at hx0 hx1 ⊢
    have HX := aM hxe
    clear hxe
    obtain ⟨W1, hW1⟩ : ∃ W1, W1 = wr.alloc (Obj.cells #[Value.int IntKind.i64 x.f0, Value.int IntKind.i64 x.f1] 79) := ⟨_, rfl⟩
    rw [← hW1]
    have HL : wr.heap.size < W1.heap.size ∧ w.heap.size + 1 < wr.heap.size := ⟨by rw [hW1]; simp, HS.out.lt⟩
    have HH : Aside0 (∀ w', Below W1.heap.size W1 w' → w'.cell? ⟨wr.heap.size, 0, none⟩ = some (.int .i64 x.f0) ∧ w'.cell? ⟨wr.heap.size, 1, none⟩ = some (.int .i64 x.f1) ∧ w'.cell? ⟨w.heap.size, 0, none⟩ = some (.slice (some ad) l.length c)) := ⟨fun w' hb => by
     refine ⟨(hb.cell HL.1).trans ?_, (hb.cell HL.1).trans ?_, (hb.cell (by have := HL.1; have := HL.2; show w.heap.size < _; omega)).trans ?_⟩
     ·rw [hW1]; simp
     ·rw [hW1]; simp
     ·rw [hW1, World.cell?_of_block (w := wr) (below_alloc (Below.refl wr.heap.size wr) _ |>.block _ (by have := HL.2; show w.heap.size < _; omega))]
      exact HC.out⟩
    have HB1 : Aside0 (Below w.heap.size w W1) := ⟨by rw [hW1]; exact below_alloc HB.out _⟩
    have HS1 : Aside0 (Seen W1 (w.heap.size + 1) i ids) := ⟨by rw [hW1]; exact HS.out.kept (World.grownBy_alloc wr _ none) (by simp)⟩
    have HS2 : Aside0 (∀ w', Below W1.heap.size W1 w' → Seen w' (w.heap.size + 1) i ids) := ⟨fun w' hb => HS1.out.kept (row := none) ⟨hb.os, hb.tape, hb.output, hb.size, fun k hk _ => hb.block k hk⟩ (by simp)⟩
    clear hW1
    by_cases hA : (0 ≤ x.f0 ∧ x.f0 ≤ 1000)
    ·have HWF : Aside0 ((Lit.int .i64 x.f0).wf = true) := ⟨wf_int hA.1 hA.2⟩
     replace hA := aM (decide_eq_true hA)
     by_cases hB : (1 ≤ x.f1 ∧ x.f1 ≤ 1000000)
     ·replace hB := aM (decide_eq_true hB)
      by_cases hM : x.f0 ∈ ids
      ·have HK : Aside0 (∀ w', Below W1.heap.size W1 w' → w'.cell? ⟨wr.heap.size, 0, none⟩ = some (.int .i64 x.f0) ∧ w'.cell? ⟨wr.heap.size, 1, none⟩ = some (.int .i64 x.f1) ∧ w'.cell? ⟨w.heap.size, 0, none⟩ = some (.slice (some ad) l.length c) ∧ (Instr.lookup 166 (.map (some (w.heap.size + 1))) (.int .i64 x.f0) false).run Try.prog w' = .ok (.bool true) w') := ⟨fun w' hb => ⟨(HH.out w' hb).1, (HH.out w' hb).2.1, (HH.out w' hb).2.2, by have h_ := (HS2.out w' hb).look x.f0 HWF.out; rw [decide_eq_true hM] at h_; exact h_⟩⟩
       replace hM := aM ((HI.out x.f0).1 hM)
       refine start_ (n := 31) (S := fun w' => w'.cell? ⟨wr.heap.size, 0, none⟩ = some (.int .i64 x.f0) ∧ w'.cell? ⟨wr.heap.size, 1, none⟩ = some (.int .i64 x.f1) ∧ w'.cell? ⟨w.heap.size, 0, none⟩ = some (.slice (some ad) l.length c) ∧ (Instr.lookup 166 (.map (some (w.heap.size + 1))) (.int .i64 x.f0) false).run Try.prog w' = .ok (.bool true) w') (ds := []) (bq 31 0) (by kernel_rfl) rfl (by kernel_rfl) ⟨(HK.out W1.drew (Below.refl W1.heap.size W1).drew).1, (HK.out W1.drew (Below.refl W1.heap.size W1).drew).2.1, (HK.out W1.drew (Below.refl W1.heap.size W1).drew).2.2.1, (HK.out W1.drew (Below.refl W1.heap.size W1).drew).2.2.2⟩ (fun hHeld => ?_)
       refine pX 31 1 0 19 ?_
       refine sX4 31 3 1 20 hHeld ?_
       refine one_ (i := 2) (N := some 21) (bq 31 7) rfl rfl (by kernel_rfl) (by decide) (fun K hK => ?_)
       refine gA Try.func88 #[.int .i64 x.f0, .int .i64 0, .int .i64 1000] ?_
       with_reducible refine (within_calls x.f0 0 1000 _ _ hA.out).mono ?_
       rintro e w2 ⟨rfl, hb⟩
       refine ⟨_, rfl, ?_⟩
       have HB2 := aM (below_then (Below.refl W1.heap.size W1).drew (Nat.le_refl _) hb)
       clear hb
       refine hK.out _ _ ⟨(HK.out w2 HB2.out).1, (HK.out w2 HB2.out).2.1, (HK.out w2 HB2.out).2.2.1, (HK.out w2 HB2.out).2.2.2⟩ (fun hHeld => ?_)
       clear hK K
       refine nM 21 ?_
       refine pX 31 15 3 22 ?_
       refine pX 31 31 4 23 ?_
       refine pX 31 63 5 24 ?_
       refine sX4 31 127 6 25 hHeld ?_
       refine one_ (i := 7) (N := some 26) (bq 31 255) rfl rfl (by kernel_rfl) (by decide) (fun K hK => ?_)
       refine gA Try.func88 #[.int .i64 x.f1, .int .i64 1, .int .i64 1000000] ?_
       with_reducible refine (within_calls x.f1 1 1000000 _ _ hB.out).mono ?_
       rintro e w3 ⟨rfl, hb⟩
       refine ⟨_, rfl, ?_⟩
       have HB3 := aM (below_step HB2.out hb)
       clear hb
       refine hK.out _ _ ⟨(HK.out w3 HB3.out).1, (HK.out w3 HB3.out).2.1, (HK.out w3 HB3.out).2.2.1, (HK.out w3 HB3.out).2.2.2⟩ (fun hHeld => ?_)
       clear hK K
       refine nM 26 ?_
       refine pX 31 511 8 27 ?_
       refine pX 31 1023 9 28 ?_
       refine pX 31 2047 10 29 ?_
       refine pX 31 4095 11 30 ?_
       refine pX 31 8191 12 31 ?_
       refine sX4 31 16383 13 32 hHeld ?_
       refine sX4 31 32767 14 33 hHeld ?_
       refine pX 31 65535 15 34 ?_
       refine pX 31 131071 16 35 ?_
       refine yX 31 262143 17 36 ?_
       refine yX 31 524287 18 37 ?_
       refine yX 31 1048575 19 38 ?_
       refine yX 31 2097151 20 39 ?_
       refine yX 31 4194303 21 40 ?_
       refine yX 31 8388607 22 41 ?_
       refine yX 31 16777215 23 42 ?_
       refine yX 31 33554431 24 43 ?_
       refine yX 31 67108863 25 44 ?_
       refine yX 31 134217727 26 45 ?_
       refine yX 31 268435455 27 46 ?_
       refine yX 31 536870911 28 47 ?_
       refine yX 31 1073741823 29 48 ?_
       refine pX 31 2147483647 30 49 ?_
       refine done_ (by kernel_rfl) ?_
       go_wp2
       go_ret
       refine ⟨?_, below_then HB1.out (by have := HL.1; have := HL.2; omega) HB3.out⟩
       rw [bad_entry l i hlt (by unfold entryOK; simp only [← HX.out]; rw [decide_eq_true hM.out]; simp)]
       rfl
      ·have HK : Aside0 (∀ w', Below W1.heap.size W1 w' → w'.cell? ⟨wr.heap.size, 0, none⟩ = some (.int .i64 x.f0) ∧ w'.cell? ⟨wr.heap.size, 1, none⟩ = some (.int .i64 x.f1) ∧ w'.cell? ⟨w.heap.size, 0, none⟩ = some (.slice (some ad) l.length c) ∧ (Instr.lookup 166 (.map (some (w.heap.size + 1))) (.int .i64 x.f0) false).run Try.prog w' = .ok (.bool false) w') := ⟨fun w' hb => ⟨(HH.out w' hb).1, (HH.out w' hb).2.1, (HH.out w' hb).2.2, by have h_ := (HS2.out w' hb).look x.f0 HWF.out; rw [decide_eq_false hM] at h_; exact h_⟩⟩
       replace hM := aM (fun e => hM ((HI.out x.f0).2 e))
       by_cases hz : i = 0
       ·have hzb : decide (0 < i) = false := decide_eq_false (by omega)
        replace hz := aM hz
        refine start_ (n := 31) (S := fun w' => w'.cell? ⟨wr.heap.size, 0, none⟩ = some (.int .i64 x.f0) ∧ w'.cell? ⟨wr.heap.size, 1, none⟩ = some (.int .i64 x.f1) ∧ w'.cell? ⟨w.heap.size, 0, none⟩ = some (.slice (some ad) l.length c) ∧ (Instr.lookup 166 (.map (some (w.heap.size + 1))) (.int .i64 x.f0) false).run Try.prog w' = .ok (.bool false) w') (ds := []) (bq 31 0) (by kernel_rfl) rfl (by kernel_rfl) ⟨(HK.out W1.drew (Below.refl W1.heap.size W1).drew).1, (HK.out W1.drew (Below.refl W1.heap.size W1).drew).2.1, (HK.out W1.drew (Below.refl W1.heap.size W1).drew).2.2.1, (HK.out W1.drew (Below.refl W1.heap.size W1).drew).2.2.2⟩ (fun hHeld => ?_)
        refine pX 31 1 0 19 ?_
        refine sX4 31 3 1 20 hHeld ?_
        refine one_ (i := 2) (N := some 21) (bq 31 7) rfl rfl (by kernel_rfl) (by decide) (fun K hK => ?_)
        refine gA Try.func88 #[.int .i64 x.f0, .int .i64 0, .int .i64 1000] ?_
        with_reducible refine (within_calls x.f0 0 1000 _ _ hA.out).mono ?_
        rintro e w2 ⟨rfl, hb⟩
        refine ⟨_, rfl, ?_⟩
        have HB2 := aM (below_then (Below.refl W1.heap.size W1).drew (Nat.le_refl _) hb)
        clear hb
        refine hK.out _ _ ⟨(HK.out w2 HB2.out).1, (HK.out w2 HB2.out).2.1, (HK.out w2 HB2.out).2.2.1, (HK.out w2 HB2.out).2.2.2⟩ (fun hHeld => ?_)
        clear hK K
        refine nM 21 ?_
        refine pX 31 15 3 22 ?_
        refine pX 31 31 4 23 ?_
        refine pX 31 63 5 24 ?_
        refine sX4 31 127 6 25 hHeld ?_
        refine one_ (i := 7) (N := some 26) (bq 31 255) rfl rfl (by kernel_rfl) (by decide) (fun K hK => ?_)
        refine gA Try.func88 #[.int .i64 x.f1, .int .i64 1, .int .i64 1000000] ?_
        with_reducible refine (within_calls x.f1 1 1000000 _ _ hB.out).mono ?_
        rintro e w3 ⟨rfl, hb⟩
        refine ⟨_, rfl, ?_⟩
        have HB3 := aM (below_step HB2.out hb)
        clear hb
        refine hK.out _ _ ⟨(HK.out w3 HB3.out).1, (HK.out w3 HB3.out).2.1, (HK.out w3 HB3.out).2.2.1, (HK.out w3 HB3.out).2.2.2⟩ (fun hHeld => ?_)
        clear hK K
        refine nM 26 ?_
        refine pX 31 511 8 27 ?_
        refine pX 31 1023 9 28 ?_
        refine pX 31 2047 10 29 ?_
        refine pX 31 4095 11 30 ?_
        refine pX 31 8191 12 31 ?_
        refine sX4 31 16383 13 32 hHeld ?_
        refine sX4 31 32767 14 33 hHeld ?_
        refine pX 31 65535 15 34 ?_
        refine pX 31 131071 16 35 ?_
        refine pX 31 262143 17 36 ?_
        refine pX 31 524287 18 37 ?_
        refine pX 31 1048575 19 38 ?_
        refine yX 31 2097151 20 39 ?_
        refine yX 31 4194303 21 40 ?_
        refine yX 31 8388607 22 41 ?_
        refine yX 31 16777215 23 42 ?_
        refine yX 31 33554431 24 43 ?_
        refine yX 31 67108863 25 44 ?_
        refine yX 31 134217727 26 45 ?_
        refine yX 31 268435455 27 46 ?_
        refine yX 31 536870911 28 47 ?_
        refine pX 31 1073741823 29 48 ?_
        refine pX 31 2147483647 30 49 ?_
        refine done_ (by kernel_rfl) ?_
        have HBX := HB3
        obtain ⟨k0, k1, kS⟩ := HH.out w3 HBX.out
        have HBY : Aside0 (Below w.heap.size w w3) := ⟨below_then HB1.out (by have := HL.1; have := HL.2; omega) HBX.out⟩
        have HZ : Aside0 (w.heap.size + 1 < w3.heap.size) := ⟨(HS2.out w3 HBX.out).lt⟩
        obtain ⟨w5, hrun, hS5, hg5⟩ := (HS2.out w3 HBX.out).put x.f0 HWF.out (by have := h60.out; have := HI2.out; unfold maxLen; omega)
        have HS5 := aM hS5
        have HB5 : Aside0 (Below w.heap.size w w5) := ⟨HBY.out.grown hg5 (by have := HZ.out; omega) (by intro k hk; cases hk; omega)⟩
        have HC5 : Aside0 (w5.cell? ⟨w.heap.size, 0, none⟩ = some (.slice (some ad) l.length c)) := ⟨(World.cell?_of_block (w := w3) (hg5.block w.heap.size (by have := HZ.out; omega) (by simp))).trans kS⟩
        clear hS5 hg5 kS k1
        go_wp2
        go_roundg (l.length - (i + 1))
        case measure => have := HI2.out; omega
        case rel => exact ⟨i + 1, by have := h60.out; have := HI2.out; rw [w64 (by omega) (by omega)]; go_num, by have := HI2.out; omega, by omega, ⟨all_succ HE.out (by have e0 := hz.out; have ex := HX.out; subst e0; rw [entry_zero, ← ex, hA.out, hB.out]; rfl)⟩, ⟨x.f0 :: ids, ⟨HS5.out⟩, ⟨take_mem l i HI2.out x HX.out ids HI.out⟩⟩, ⟨HB5.out⟩, ⟨HC5.out⟩⟩
       ·obtain ⟨j, rfl⟩ : ∃ j, i = j + 1 := ⟨i - 1, by omega⟩
        have HJ := aM hlt
        have p2 : (0 : Int) ≤ (j : Int) := by omega
        have q2 : (j : Int) < (l.length : Int) := by omega
        obtain ⟨ad2, hae, hy0, hy1⟩ := at_T79 HR.out (j : Int) p2 q2
        obtain rfl := Option.some.inj hae
        obtain ⟨y, hye⟩ : ∃ y, y = rd_T79 l (j : Int) := ⟨_, rfl⟩
        rw [← hye] at hy0 hy1
        have HYE := aM hye
        rw [Int.toNat_natCast] at hy0 hy1
        have HY : Aside0 (∀ w', Below W1.heap.size W1 w' → w'.cell? ⟨wr.heap.size, 0, none⟩ = some (.int .i64 x.f0) ∧ w'.cell? ⟨wr.heap.size, 1, none⟩ = some (.int .i64 x.f1) ∧ w'.cell? ⟨w.heap.size, 0, none⟩ = some (.slice (some ad) l.length c) ∧ (Instr.lookup 166 (.map (some (w.heap.size + 1))) (.int .i64 x.f0) false).run Try.prog w' = .ok (.bool false) w' ∧ w'.cell? (ad.add (j * 2)) = some (.int .i64 y.f0) ∧ w'.cell? ⟨(ad.add (j * 2)).block, (ad.add (j * 2)).off + 1, none⟩ = some (.int .i64 y.f1)) := ⟨fun w' hb => ⟨(HK.out w' hb).1, (HK.out w' hb).2.1, (HK.out w' hb).2.2.1, (HK.out w' hb).2.2.2, (((below_then HB1.out (by have := HL.1; have := HL.2; omega) hb).cell (World.block_lt_of_cell? w _ hy0))).trans hy0, (((below_then HB1.out (by have := HL.1; have := HL.2; omega) hb).cell (World.block_lt_of_cell? w _ hy1))).trans hy1⟩⟩
        have wj : wrap64 (j : Int) = (j : Int) := w64 (by omega) (by have := h60.out; omega)
        replace p2 := eq_true p2
        replace q2 := eq_true q2
        clear hy0 hy1 hye hae
        by_cases hP : ahead y x = true
        ·replace hP := aM hP
         refine start_ (n := 31) (S := fun w' => w'.cell? ⟨wr.heap.size, 0, none⟩ = some (.int .i64 x.f0) ∧ w'.cell? ⟨wr.heap.size, 1, none⟩ = some (.int .i64 x.f1) ∧ w'.cell? ⟨w.heap.size, 0, none⟩ = some (.slice (some ad) l.length c) ∧ (Instr.lookup 166 (.map (some (w.heap.size + 1))) (.int .i64 x.f0) false).run Try.prog w' = .ok (.bool false) w' ∧ w'.cell? (ad.add (j * 2)) = some (.int .i64 y.f0) ∧ w'.cell? ⟨(ad.add (j * 2)).block, (ad.add (j * 2)).off + 1, none⟩ = some (.int .i64 y.f1)) (ds := []) (bq 31 0) (by kernel_rfl) rfl (by kernel_rfl) ⟨(HY.out W1.drew (Below.refl W1.heap.size W1).drew).1, (HY.out W1.drew (Below.refl W1.heap.size W1).drew).2.1, (HY.out W1.drew (Below.refl W1.heap.size W1).drew).2.2.1, (HY.out W1.drew (Below.refl W1.heap.size W1).drew).2.2.2.1, (HY.out W1.drew (Below.refl W1.heap.size W1).drew).2.2.2.2.1, (HY.out W1.drew (Below.refl W1.heap.size W1).drew).2.2.2.2.2⟩ (fun hHeld => ?_)
         refine pX 31 1 0 19 ?_
         refine sX6 31 3 1 20 hHeld ?_
         refine one_ (i := 2) (N := some 21) (bq 31 7) rfl rfl (by kernel_rfl) (by decide) (fun K hK => ?_)
         refine gA Try.func88 #[.int .i64 x.f0, .int .i64 0, .int .i64 1000] ?_
         with_reducible refine (within_calls x.f0 0 1000 _ _ hA.out).mono ?_
         rintro e w2 ⟨rfl, hb⟩
         refine ⟨_, rfl, ?_⟩
         have HB2 := aM (below_then (Below.refl W1.heap.size W1).drew (Nat.le_refl _) hb)
         clear hb
         refine hK.out _ _ ⟨(HY.out w2 HB2.out).1, (HY.out w2 HB2.out).2.1, (HY.out w2 HB2.out).2.2.1, (HY.out w2 HB2.out).2.2.2.1, (HY.out w2 HB2.out).2.2.2.2.1, (HY.out w2 HB2.out).2.2.2.2.2⟩ (fun hHeld => ?_)
         clear hK K
         refine nM 21 ?_
         refine pX 31 15 3 22 ?_
         refine pX 31 31 4 23 ?_
         refine pX 31 63 5 24 ?_
         refine sX6 31 127 6 25 hHeld ?_
         refine one_ (i := 7) (N := some 26) (bq 31 255) rfl rfl (by kernel_rfl) (by decide) (fun K hK => ?_)
         refine gA Try.func88 #[.int .i64 x.f1, .int .i64 1, .int .i64 1000000] ?_
         with_reducible refine (within_calls x.f1 1 1000000 _ _ hB.out).mono ?_
         rintro e w3 ⟨rfl, hb⟩
         refine ⟨_, rfl, ?_⟩
         have HB3 := aM (below_step HB2.out hb)
         clear hb
         refine hK.out _ _ ⟨(HY.out w3 HB3.out).1, (HY.out w3 HB3.out).2.1, (HY.out w3 HB3.out).2.2.1, (HY.out w3 HB3.out).2.2.2.1, (HY.out w3 HB3.out).2.2.2.2.1, (HY.out w3 HB3.out).2.2.2.2.2⟩ (fun hHeld => ?_)
         clear hK K
         refine nM 26 ?_
         refine pX 31 511 8 27 ?_
         refine pX 31 1023 9 28 ?_
         refine pX 31 2047 10 29 ?_
         refine pX 31 4095 11 30 ?_
         refine pX 31 8191 12 31 ?_
         refine sX6 31 16383 13 32 hHeld ?_
         refine sX6 31 32767 14 33 hHeld ?_
         refine pX 31 65535 15 34 ?_
         refine pX 31 131071 16 35 ?_
         refine pX 31 262143 17 36 ?_
         refine pX 31 524287 18 37 ?_
         refine pX 31 1048575 19 38 ?_
         refine pX 31 2097151 20 39 ?_
         refine pX 31 6291455 22 41 ?_
         refine pX 31 14680063 23 42 ?_
         refine sX6 31 16777215 21 40 hHeld ?_
         refine pX 31 33554431 24 43 ?_
         refine sX6 31 67108863 25 44 hHeld ?_
         refine sX6 31 134217727 26 45 hHeld ?_
         refine one_ (i := 27) (N := some 46) (bq 31 268435455) rfl rfl (by kernel_rfl) (by decide) (fun K hK => ?_)
         refine gA Try.func144 #[.agg #[.int .i64 y.f0, .int .i64 y.f1], .agg #[.int .i64 x.f0, .int .i64 x.f1]] ?_
         with_reducible refine (before_calls y x _).mono ?_
         rintro e w4 ⟨r, rfl, hr, hb⟩
         refine ⟨_, rfl, ?_⟩
         have HB4 := aM (below_step HB3.out hb)
         clear hb
         rw [hP.out] at hr
         refine hK.out _ _ ⟨(HY.out w4 HB4.out).1, (HY.out w4 HB4.out).2.1, (HY.out w4 HB4.out).2.2.1, (HY.out w4 HB4.out).2.2.2.1, (HY.out w4 HB4.out).2.2.2.2.1, (HY.out w4 HB4.out).2.2.2.2.2⟩ (fun hHeld => ?_)
         clear hK K
         refine nM 46 ?_
         refine pX 31 536870911 28 47 ?_
         refine pX 31 1073741823 29 48 ?_
         refine pX 31 2147483647 30 49 ?_
         refine done_ (by kernel_rfl) ?_
         have HBX := HB4
         obtain ⟨k0, k1, kS⟩ := HH.out w4 HBX.out
         have HBY : Aside0 (Below w.heap.size w w4) := ⟨below_then HB1.out (by have := HL.1; have := HL.2; omega) HBX.out⟩
         have HZ : Aside0 (w.heap.size + 1 < w4.heap.size) := ⟨(HS2.out w4 HBX.out).lt⟩
         obtain ⟨w5, hrun, hS5, hg5⟩ := (HS2.out w4 HBX.out).put x.f0 HWF.out (by have := h60.out; have := HI2.out; unfold maxLen; omega)
         have HS5 := aM hS5
         have HB5 : Aside0 (Below w.heap.size w w5) := ⟨HBY.out.grown hg5 (by have := HZ.out; omega) (by intro k hk; cases hk; omega)⟩
         have HC5 : Aside0 (w5.cell? ⟨w.heap.size, 0, none⟩ = some (.slice (some ad) l.length c)) := ⟨(World.cell?_of_block (w := w4) (hg5.block w.heap.size (by have := HZ.out; omega) (by simp))).trans kS⟩
         clear hS5 hg5 kS k1
         go_wp2
         go_roundg (l.length - ((j + 1) + 1))
         case measure => have := HI2.out; omega
         case rel => exact ⟨(j + 1) + 1, by have := h60.out; have := HI2.out; rw [w64 (by omega) (by omega)]; go_num, by have := HI2.out; omega, by omega, ⟨all_succ HE.out (by rw [entry_succ l j y x HYE.out HX.out, hA.out, hB.out, hP.out, decide_eq_false hM.out]; rfl)⟩, ⟨x.f0 :: ids, ⟨HS5.out⟩, ⟨take_mem l (j + 1) HI2.out x HX.out ids HI.out⟩⟩, ⟨HB5.out⟩, ⟨HC5.out⟩⟩
        ·replace hP := aM (Bool.eq_false_iff.2 hP)
         refine start_ (n := 31) (S := fun w' => w'.cell? ⟨wr.heap.size, 0, none⟩ = some (.int .i64 x.f0) ∧ w'.cell? ⟨wr.heap.size, 1, none⟩ = some (.int .i64 x.f1) ∧ w'.cell? ⟨w.heap.size, 0, none⟩ = some (.slice (some ad) l.length c) ∧ (Instr.lookup 166 (.map (some (w.heap.size + 1))) (.int .i64 x.f0) false).run Try.prog w' = .ok (.bool false) w' ∧ w'.cell? (ad.add (j * 2)) = some (.int .i64 y.f0) ∧ w'.cell? ⟨(ad.add (j * 2)).block, (ad.add (j * 2)).off + 1, none⟩ = some (.int .i64 y.f1)) (ds := []) (bq 31 0) (by kernel_rfl) rfl (by kernel_rfl) ⟨(HY.out W1.drew (Below.refl W1.heap.size W1).drew).1, (HY.out W1.drew (Below.refl W1.heap.size W1).drew).2.1, (HY.out W1.drew (Below.refl W1.heap.size W1).drew).2.2.1, (HY.out W1.drew (Below.refl W1.heap.size W1).drew).2.2.2.1, (HY.out W1.drew (Below.refl W1.heap.size W1).drew).2.2.2.2.1, (HY.out W1.drew (Below.refl W1.heap.size W1).drew).2.2.2.2.2⟩ (fun hHeld => ?_)
         refine pX 31 1 0 19 ?_
         refine sX6 31 3 1 20 hHeld ?_
         refine one_ (i := 2) (N := some 21) (bq 31 7) rfl rfl (by kernel_rfl) (by decide) (fun K hK => ?_)
         refine gA Try.func88 #[.int .i64 x.f0, .int .i64 0, .int .i64 1000] ?_
         with_reducible refine (within_calls x.f0 0 1000 _ _ hA.out).mono ?_
         rintro e w2 ⟨rfl, hb⟩
         refine ⟨_, rfl, ?_⟩
         have HB2 := aM (below_then (Below.refl W1.heap.size W1).drew (Nat.le_refl _) hb)
         clear hb
         refine hK.out _ _ ⟨(HY.out w2 HB2.out).1, (HY.out w2 HB2.out).2.1, (HY.out w2 HB2.out).2.2.1, (HY.out w2 HB2.out).2.2.2.1, (HY.out w2 HB2.out).2.2.2.2.1, (HY.out w2 HB2.out).2.2.2.2.2⟩ (fun hHeld => ?_)
         clear hK K
         refine nM 21 ?_
         refine pX 31 15 3 22 ?_
         refine pX 31 31 4 23 ?_
         refine pX 31 63 5 24 ?_
         refine sX6 31 127 6 25 hHeld ?_
         refine one_ (i := 7) (N := some 26) (bq 31 255) rfl rfl (by kernel_rfl) (by decide) (fun K hK => ?_)
         refine gA Try.func88 #[.int .i64 x.f1, .int .i64 1, .int .i64 1000000] ?_
         with_reducible refine (within_calls x.f1 1 1000000 _ _ hB.out).mono ?_
         rintro e w3 ⟨rfl, hb⟩
         refine ⟨_, rfl, ?_⟩
         have HB3 := aM (below_step HB2.out hb)
         clear hb
         refine hK.out _ _ ⟨(HY.out w3 HB3.out).1, (HY.out w3 HB3.out).2.1, (HY.out w3 HB3.out).2.2.1, (HY.out w3 HB3.out).2.2.2.1, (HY.out w3 HB3.out).2.2.2.2.1, (HY.out w3 HB3.out).2.2.2.2.2⟩ (fun hHeld => ?_)
         clear hK K
         refine nM 26 ?_
         refine pX 31 511 8 27 ?_
         refine pX 31 1023 9 28 ?_
         refine pX 31 2047 10 29 ?_
         refine pX 31 4095 11 30 ?_
         refine pX 31 8191 12 31 ?_
         refine sX6 31 16383 13 32 hHeld ?_
         refine sX6 31 32767 14 33 hHeld ?_
         refine pX 31 65535 15 34 ?_
         refine pX 31 131071 16 35 ?_
         refine pX 31 262143 17 36 ?_
         refine pX 31 524287 18 37 ?_
         refine pX 31 1048575 19 38 ?_
         refine pX 31 2097151 20 39 ?_
         refine pX 31 6291455 22 41 ?_
         refine pX 31 14680063 23 42 ?_
         refine sX6 31 16777215 21 40 hHeld ?_
         refine pX 31 33554431 24 43 ?_
         refine sX6 31 67108863 25 44 hHeld ?_
         refine sX6 31 134217727 26 45 hHeld ?_
         refine one_ (i := 27) (N := some 46) (bq 31 268435455) rfl rfl (by kernel_rfl) (by decide) (fun K hK => ?_)
         refine gA Try.func144 #[.agg #[.int .i64 y.f0, .int .i64 y.f1], .agg #[.int .i64 x.f0, .int .i64 x.f1]] ?_
         with_reducible refine (before_calls y x _).mono ?_
         rintro e w4 ⟨r, rfl, hr, hb⟩
         refine ⟨_, rfl, ?_⟩
         have HB4 := aM (below_step HB3.out hb)
         clear hb
         rw [hP.out] at hr
         refine hK.out _ _ ⟨(HY.out w4 HB4.out).1, (HY.out w4 HB4.out).2.1, (HY.out w4 HB4.out).2.2.1, (HY.out w4 HB4.out).2.2.2.1, (HY.out w4 HB4.out).2.2.2.2.1, (HY.out w4 HB4.out).2.2.2.2.2⟩ (fun hHeld => ?_)
         clear hK K
         refine nM 46 ?_
         refine pX 31 536870911 28 47 ?_
         refine pX 31 1073741823 29 48 ?_
         refine pX 31 2147483647 30 49 ?_
         refine done_ (by kernel_rfl) ?_
         go_wp2
         go_ret
         refine ⟨?_, below_then HB1.out (by have := HL.1; have := HL.2; omega) HB4.out⟩
         rw [bad_entry l (j + 1) HJ.out (by rw [entry_succ l j y x HYE.out HX.out, hP.out]; simp)]
         rfl
     ·replace hB := aM (decide_eq_false hB)
      refine start_ (n := 31) (S := fun w' => w'.cell? ⟨wr.heap.size, 0, none⟩ = some (.int .i64 x.f0) ∧ w'.cell? ⟨wr.heap.size, 1, none⟩ = some (.int .i64 x.f1) ∧ w'.cell? ⟨w.heap.size, 0, none⟩ = some (.slice (some ad) l.length c)) (ds := []) (bq 31 0) (by kernel_rfl) rfl (by kernel_rfl) ⟨(HH.out W1.drew (Below.refl W1.heap.size W1).drew).1, (HH.out W1.drew (Below.refl W1.heap.size W1).drew).2.1, (HH.out W1.drew (Below.refl W1.heap.size W1).drew).2.2⟩ (fun hHeld => ?_)
      refine pX 31 1 0 19 ?_
      refine sX3 31 3 1 20 hHeld ?_
      refine one_ (i := 2) (N := some 21) (bq 31 7) rfl rfl (by kernel_rfl) (by decide) (fun K hK => ?_)
      refine gA Try.func88 #[.int .i64 x.f0, .int .i64 0, .int .i64 1000] ?_
      with_reducible refine (within_calls x.f0 0 1000 _ _ hA.out).mono ?_
      rintro e w2 ⟨rfl, hb⟩
      refine ⟨_, rfl, ?_⟩
      have HB2 := aM (below_then (Below.refl W1.heap.size W1).drew (Nat.le_refl _) hb)
      clear hb
      refine hK.out _ _ ⟨(HH.out w2 HB2.out).1, (HH.out w2 HB2.out).2.1, (HH.out w2 HB2.out).2.2⟩ (fun hHeld => ?_)
      clear hK K
      refine nM 21 ?_
      refine pX 31 15 3 22 ?_
      refine pX 31 31 4 23 ?_
      refine pX 31 63 5 24 ?_
      refine sX3 31 127 6 25 hHeld ?_
      refine one_ (i := 7) (N := some 26) (bq 31 255) rfl rfl (by kernel_rfl) (by decide) (fun K hK => ?_)
      refine gA Try.func88 #[.int .i64 x.f1, .int .i64 1, .int .i64 1000000] ?_
      with_reducible refine (within_calls x.f1 1 1000000 _ _ hB.out).mono ?_
      rintro e w3 ⟨rfl, hb⟩
      refine ⟨_, rfl, ?_⟩
      have HB3 := aM (below_step HB2.out hb)
      clear hb
      refine hK.out _ _ ⟨(HH.out w3 HB3.out).1, (HH.out w3 HB3.out).2.1, (HH.out w3 HB3.out).2.2⟩ (fun hHeld => ?_)
      clear hK K
      refine nM 26 ?_
      refine pX 31 511 8 27 ?_
      refine pX 31 1023 9 28 ?_
      refine pX 31 2047 10 29 ?_
      refine yX 31 4095 11 30 ?_
      refine yX 31 8191 12 31 ?_
      refine yX 31 16383 13 32 ?_
      refine yX 31 32767 14 33 ?_
      refine pX 31 65535 15 34 ?_
      refine pX 31 131071 16 35 ?_
      refine yX 31 262143 17 36 ?_
      refine yX 31 524287 18 37 ?_
      refine yX 31 1048575 19 38 ?_
      refine yX 31 2097151 20 39 ?_
      refine yX 31 4194303 21 40 ?_
      refine yX 31 8388607 22 41 ?_
      refine yX 31 16777215 23 42 ?_
      refine yX 31 33554431 24 43 ?_
      refine yX 31 67108863 25 44 ?_
      refine yX 31 134217727 26 45 ?_
      refine yX 31 268435455 27 46 ?_
      refine yX 31 536870911 28 47 ?_
      refine yX 31 1073741823 29 48 ?_
      refine pX 31 2147483647 30 49 ?_
      refine done_ (by kernel_rfl) ?_
      go_wp2
      go_ret
      refine ⟨?_, below_then HB1.out (by have := HL.1; have := HL.2; omega) HB3.out⟩
      rw [bad_entry l i hlt (by unfold entryOK; simp only [← HX.out]; rw [hB.out]; simp)]
      rfl
    ·replace hA := aM (decide_eq_false hA)
     refine start_ (n := 31) (S := fun w' => w'.cell? ⟨wr.heap.size, 0, none⟩ = some (.int .i64 x.f0) ∧ w'.cell? ⟨wr.heap.size, 1, none⟩ = some (.int .i64 x.f1) ∧ w'.cell? ⟨w.heap.size, 0, none⟩ = some (.slice (some ad) l.length c)) (ds := []) (bq 31 0) (by kernel_rfl) rfl (by kernel_rfl) ⟨(HH.out W1.drew (Below.refl W1.heap.size W1).drew).1, (HH.out W1.drew (Below.refl W1.heap.size W1).drew).2.1, (HH.out W1.drew (Below.refl W1.heap.size W1).drew).2.2⟩ (fun hHeld => ?_)
     refine pX 31 1 0 19 ?_
     refine sX3 31 3 1 20 hHeld ?_
     refine one_ (i := 2) (N := some 21) (bq 31 7) rfl rfl (by kernel_rfl) (by decide) (fun K hK => ?_)
     refine gA Try.func88 #[.int .i64 x.f0, .int .i64 0, .int .i64 1000] ?_
     with_reducible refine (within_calls x.f0 0 1000 _ _ hA.out).mono ?_
     rintro e w2 ⟨rfl, hb⟩
     refine ⟨_, rfl, ?_⟩
     have HB2 := aM (below_then (Below.refl W1.heap.size W1).drew (Nat.le_refl _) hb)
     clear hb
     refine hK.out _ _ ⟨(HH.out w2 HB2.out).1, (HH.out w2 HB2.out).2.1, (HH.out w2 HB2.out).2.2⟩ (fun hHeld => ?_)
     clear hK K
     refine nM 21 ?_
     refine pX 31 15 3 22 ?_
     refine pX 31 31 4 23 ?_
     refine yX 31 63 5 24 ?_
     refine yX 31 127 6 25 ?_
     refine yX 31 255 7 26 ?_
     refine yX 31 511 8 27 ?_
     refine pX 31 1023 9 28 ?_
     refine pX 31 2047 10 29 ?_
     refine yX 31 4095 11 30 ?_
     refine yX 31 8191 12 31 ?_
     refine yX 31 16383 13 32 ?_
     refine yX 31 32767 14 33 ?_
     refine pX 31 65535 15 34 ?_
     refine pX 31 131071 16 35 ?_
     refine yX 31 262143 17 36 ?_
     refine yX 31 524287 18 37 ?_
     refine yX 31 1048575 19 38 ?_
     refine yX 31 2097151 20 39 ?_
     refine yX 31 4194303 21 40 ?_
     refine yX 31 8388607 22 41 ?_
     refine yX 31 16777215 23 42 ?_
     refine yX 31 33554431 24 43 ?_
     refine yX 31 67108863 25 44 ?_
     refine yX 31 134217727 26 45 ?_
     refine yX 31 268435455 27 46 ?_
     refine yX 31 536870911 28 47 ?_
     refine yX 31 1073741823 29 48 ?_
     refine pX 31 2147483647 30 49 ?_
     refine done_ (by kernel_rfl) ?_
     go_wp2
     go_ret
     refine ⟨?_, below_then HB1.out (by have := HL.1; have := HL.2; omega) HB2.out⟩
     rw [bad_entry l i hlt (by unfold entryOK; simp only [← HX.out]; rw [hA.out]; simp)]
     rfl
   ·obtain rfl : i = l.length := by omega
    go_wp2
    go_ret
    refine ⟨?_, HB.out⟩
    unfold rankOK
    rw [HE.out, decide_eq_true (show l.length ≤ 60 by have := h60.out; omega)]
    rfl
end Go.Proofs.Ytaomjndfjmfelaa.Rank
end

section
namespace Go.Proofs.Ytaomjndfjmfelaa.Meet
set_option linter.unusedVariables false
set_option linter.unusedSimpArgs false
open Go.RowKit Go.Proofs.Ytaomjndfjmfelaa.PQ Go.Proofs.YtaomjndfjmfelaaW.PrintWords Go.Proofs.YtaomjndfjmfelaaW.PrintLast Go.Proofs.YtaomjndfjmfelaaW.PrintMore Go.Proofs.Ytaomjndfjmfelaa.Pre Go.Proofs.Ytaomjndfjmfelaa.Rank
def isId (id : Int) (x : Sc) : Bool := x.f0 == id
theorem rd_sc (l : List Sc) (i : Nat) (h : i < l.length) : rd_T79 l (i : Int) = l[i] := by
 unfold rd_T79
 rw [Int.toNat_natCast, List.getD_eq_getElem?_getD, List.getElem?_eq_getElem h]
 rfl
theorem lit_calls (x : Sc) (id : Int) (bq : Nat) (w : World) (hcl : w.cell? ⟨bq, 0, none⟩ = some (.int .i64 id)) : Calls Try.prog 142 #[.agg #[.int .i64 x.f0, .int .i64 x.f1], .pointer (some ⟨bq, 0, none⟩)] w fun e w' => e = .returned (.bool (isId id x)) ∧ Below w.heap.size w w' := by
 have HB := aM (below_alloc (Below.refl w.heap.size w) (.cells #[.int .i64 x.f0, .int .i64 x.f1] 79))
 have hc2 : (w.alloc (.cells #[.int .i64 x.f0, .int .i64 x.f1] 79)).cell? ⟨bq, 0, none⟩ = some (.int .i64 id) := (HB.out.cell (World.block_lt_of_cell? w _ hcl)).trans hcl
 clear hcl
 unfold isId
 go_enter Try.func142, Try.ntmps142
 go_wp2
 go_ret
 exact ⟨by first | rfl | simp, HB.out⟩
set_option maxHeartbeats 1000000 in
theorem index_calls (A : Option Addr) (c : Nat) (l : List Sc) (id : Int) (bq : Nat) (w : World) (hcl : ∀ w', Below w.heap.size w w' → w'.cell? ⟨bq, 0, none⟩ = some (.int .i64 id)) (hr : Kd.C k79 w A l.length l) (hl : l.length ≤ 1048576) :
  Calls Try.prog 158 #[.slice A l.length c, .func (.func 142) #[] #[.pointer (some ⟨bq, 0, none⟩)]] w fun e w' => ∃ r : Int, e = .returned (.int .i64 r) ∧ decide ((0 : Int) ≤ r) = l.any (isId id) ∧ Below w.heap.size w w' := by
 have HR := aM hr
 have HL := aM hl
 have HCL := aM hcl
 clear hr hl hcl
 go_enter Try.func158, Try.ntmps158
 go_wp2
 go_loopg [8] l.length (fun kq v8 w' => ∃ i : Nat, v8 = .int .i64 (i : Int) ∧ i ≤ l.length ∧ kq = l.length - i ∧ Aside0 ((l.take i).any (isId id) = false) ∧ Aside0 (Below w.heap.size w w'))
 case atStart => exact ⟨0, rfl, by omega, by omega, ⟨by simp⟩, ⟨Below.refl _ _⟩⟩
 case round =>
  obtain ⟨i, rfl, hi, hk, HE, HB⟩ := hrel
  by_cases hlt : i < l.length
  ·have HI := aM hlt
   have p1 : (0 : Int) ≤ (i : Int) := by omega
   have q1 : (i : Int) < (l.length : Int) := by omega
   obtain ⟨ad, rfl, hx0, hx1⟩ := at_T79 HR.out (i : Int) p1 q1
   replace hx0 := (HB.out.cell (World.block_lt_of_cell? w _ hx0)).trans hx0
   replace hx1 := (HB.out.cell (World.block_lt_of_cell? w _ hx1)).trans hx1
   rw [Int.toNat_natCast, rd_sc l i hlt] at hx0 hx1
   obtain ⟨x, hxe⟩ : ∃ x, x = l[i] := ⟨_, rfl⟩
   rw [← hxe] at hx0 hx1
   have HT : Aside0 ((l.take (i + 1)).any (isId id) = isId id x) := ⟨by rw [List.take_succ_eq_append_getElem hlt, List.any_append, HE.out, ← hxe]; simp⟩
   have HM : Aside0 (isId id x = true → l.any (isId id) = true) := ⟨fun h => List.any_eq_true.2 ⟨x, by rw [hxe]; exact List.getElem_mem hlt, h⟩⟩
   clear hxe
   obtain ⟨b, hb⟩ : ∃ b, b = isId id x := ⟨_, rfl⟩
   have HBB := aM hb
   clear hb
   cases b with
   | true =>
    go_wp2_with (first | (go_at_call 142; go_loud ((with_reducible refine (lit_calls x id bq _ (HCL.out _ HB.out)).mono ?_); rintro e w2 ⟨rfl, hb⟩; rw [← HBB.out]; have HB2 := aM (below_step HB.out hb); clear hb)))
    go_ret
    exact ⟨_, rfl, by rw [HM.out HBB.out.symm]; simp, HB2.out⟩
   | false =>
    go_wp2_with (first | (go_at_call 142; go_loud ((with_reducible refine (lit_calls x id bq _ (HCL.out _ HB.out)).mono ?_); rintro e w2 ⟨rfl, hb⟩; rw [← HBB.out]; have HB2 := aM (below_step HB.out hb); clear hb)))
    go_roundg (l.length - (i + 1))
    case measure => have := HI.out; omega
    case rel => exact ⟨i + 1, by have := HL.out; have := HI.out; first | go_num | (rw [w64 (by omega) (by omega)]; go_num), by have := HI.out; omega, by omega, ⟨HT.out.trans HBB.out.symm⟩, HB2⟩
  ·obtain rfl : i = l.length := by omega
   go_wp2
   go_ret
   exact ⟨-1, rfl, by rw [show l.any (isId id) = false from by have h_ := HE.out; rwa [List.take_length] at h_]; rfl, HB.out⟩
theorem contains_calls (A : Option Addr) (c : Nat) (l : List Sc) (id : Int) (bq : Nat) (w : World) (hcl : ∀ w', Below w.heap.size w w' → w'.cell? ⟨bq, 0, none⟩ = some (.int .i64 id)) (hr : Kd.C k79 w A l.length l) (hl : l.length ≤ 1048576) :
  Calls Try.prog 141 #[.slice A l.length c, .func (.func 142) #[] #[.pointer (some ⟨bq, 0, none⟩)]] w fun e w' => e = .returned (.bool (l.any (isId id))) ∧ Below w.heap.size w w' := by
 have HR := aM hr
 have HL := aM hl
 have HCL := aM hcl
 clear hr hl hcl
 go_enter Try.func141, Try.ntmps141
 go_wp2_with (first | (go_at_call 158; go_loud ((with_reducible refine (index_calls A c l id bq _ HCL.out HR.out HL.out).mono ?_); rintro e w2 ⟨r, rfl, hr2, hb⟩; have HB2 := aM hb; clear hb)))
 go_ret
 exact ⟨rfl, HB2.out⟩
end Go.Proofs.Ytaomjndfjmfelaa.Meet
end

section
namespace Go.Proofs.Ytaomjndfjmfelaa.RankG
set_option linter.unusedVariables false
set_option linter.unusedSimpArgs false
open Go.RowKit Go.Maps Go.ChangeMaps Go.Proofs.Ytaomjndfjmfelaa.PQ Go.Proofs.YtaomjndfjmfelaaW.PrintWords Go.Proofs.YtaomjndfjmfelaaW.PrintLast Go.Proofs.YtaomjndfjmfelaaW.PrintMore Go.Proofs.Ytaomjndfjmfelaa.Pre
abbrev Rk := S77
theorem lit_calls (A : Option Addr) (c : Nat) (l : List Rank.Sc) (w : World) (hr : Kd.C k79 w A l.length l) (hc : l.length ≤ c) :
  Calls Try.prog 110 #[.agg #[.slice A l.length c]] w fun e w' => e = .returned (.bool (!Rank.rankOK l)) ∧ Below w.heap.size w w' := by
 have HR := aM hr
 have HC := aM hc
 have HC0 : Aside0 ((w.alloc (.cells #[.slice A l.length c] 77)).cell? ⟨w.heap.size, 0, none⟩ = some (.slice A l.length c)) := ⟨by simp⟩
 go_enter Try.func110, Try.ntmps110
 have hc0 := HC0.out
 clear hr hc
 go_wp2_with (first | (go_at_call 111; with_reducible refine (Rank.ok_calls A c l _ (Kd.C_alloc HR.out _) HC.out).mono ?_; rintro e w2 ⟨rfl, hb⟩; have HB := aM (below_then (below_alloc (Below.refl w.heap.size w) _) (by simp) hb); clear hb))
 go_ret
 exact ⟨rfl, HB.out⟩
def bad (x : Rk) : Bool := !Rank.rankOK x.f0
def good (l : List Rk) : Bool := decide (l.length ≤ 5) && !l.any bad
set_option maxHeartbeats 1000000 in
theorem index_calls (A : Option Addr) (c : Nat) (l : List Rk) (w : World) (hr : Kd.C k77 w A l.length l) (hc : l.length ≤ c) (hlen : l.length ≤ 5) :
  Calls Try.prog 147 #[.slice A l.length c, .func (.func 110) #[] #[]] w fun e w' => ∃ r : Int, e = .returned (.int .i64 r) ∧ decide ((0 : Int) ≤ r) = l.any bad ∧ Below w.heap.size w w' := by
 have HR := aM hr
 have HL := aM hlen
 go_enter Try.func147, Try.ntmps147
 go_wp2
 go_loopg [8] l.length (fun kq v8 w' => ∃ i : Nat, v8 = .int .i64 (i : Int) ∧ i ≤ l.length ∧ kq = l.length - i ∧ Aside0 ((l.take i).any bad = false) ∧ Aside0 (Below w.heap.size w w'))
 case atStart => exact ⟨0, rfl, by omega, by omega, ⟨by simp⟩, ⟨Below.refl _ _⟩⟩
 case round =>
  obtain ⟨i, rfl, hi, hk, HE, HB⟩ := hrel
  by_cases hlt : i < l.length
  ·have HI := aM hlt
   have p1 : (0 : Int) ≤ (i : Int) := by omega
   have q1 : (i : Int) < (l.length : Int) := by omega
   obtain ⟨ad, A1, c1, rfl, hx0, hl1, hC1⟩ := at_T77 HR.out (i : Int) p1 q1
   replace hx0 := (HB.out.cell (World.block_lt_of_cell? w _ hx0)).trans hx0
   rw [Int.toNat_natCast] at hx0
   have HC1 := aM hC1
   have HL1 := aM hl1
   obtain ⟨x, hxe⟩ : ∃ x, x = rd_T77 l (i : Int) := ⟨_, rfl⟩
   rw [← hxe] at hx0 HC1 HL1
   have HX := aM hxe
   have e1 : l[i] = x := by
    rw [hxe]
    unfold rd_T77
    rw [Int.toNat_natCast, List.getD_eq_getElem?_getD, List.getElem?_eq_getElem hlt]
    rfl
   have HT : Aside0 ((l.take (i + 1)).any bad = bad x) := ⟨by rw [List.take_succ_eq_append_getElem hlt, List.any_append, HE.out, e1]; simp⟩
   have HM : Aside0 (bad x = true → l.any bad = true) := ⟨fun h => List.any_eq_true.2 ⟨x, by rw [← e1]; exact List.getElem_mem hlt, h⟩⟩
   clear hxe hC1 hl1 e1
   replace p1 := eq_true p1
   replace q1 := eq_true q1
   by_cases hb0 : bad x = true
   ·replace hb0 := aM hb0
    go_wp2_with (first | (go_at_call 110; go_loud (with_reducible refine (lit_calls A1 c1 x.f0 _ (Kd.C_below HC1.out HB.out) HL1.out).mono ?_; rintro e w2 ⟨rfl, hb⟩; rw [← bad.eq_1, hb0.out]; have HB2 := aM (below_step HB.out hb); clear hb)))
    go_ret
    exact ⟨_, rfl, by rw [HM.out hb0.out]; simp, HB2.out⟩
   ·replace hb0 := aM (Bool.eq_false_iff.2 hb0)
    go_wp2_with (first | (go_at_call 110; go_loud (with_reducible refine (lit_calls A1 c1 x.f0 _ (Kd.C_below HC1.out HB.out) HL1.out).mono ?_; rintro e w2 ⟨rfl, hb⟩; rw [← bad.eq_1, hb0.out]; have HB2 := aM (below_step HB.out hb); clear hb)))
    go_roundg (l.length - (i + 1))
    case measure => have := HI.out; omega
    case rel => exact ⟨i + 1, by have := HL.out; have := HI.out; go_num, by have := HI.out; omega, by omega, ⟨HT.out.trans hb0.out⟩, HB2⟩
  ·obtain rfl : i = l.length := by omega
   go_wp2
   go_ret
   exact ⟨-1, rfl, by rw [show l.any bad = false from by have h_ := HE.out; rwa [List.take_length] at h_]; rfl, HB.out⟩
theorem contains_calls (A : Option Addr) (c : Nat) (l : List Rk) (w : World) (hr : Kd.C k77 w A l.length l) (hc : l.length ≤ c) (hlen : l.length ≤ 5) :
  Calls Try.prog 109 #[.slice A l.length c, .func (.func 110) #[] #[]] w fun e w' => e = .returned (.bool (l.any bad)) ∧ Below w.heap.size w w' := by
 have HR := aM hr
 go_enter Try.func109, Try.ntmps109
 go_wp2_with (first | (go_at_call 147; with_reducible refine (index_calls A c l _ HR.out hc hlen).mono ?_; rintro e w2 ⟨r, rfl, hr2, hb⟩; have HB2 := aM hb; clear hb))
 go_ret
 exact ⟨rfl, HB2.out⟩
theorem goodR_calls (A : Option Addr) (c : Nat) (l : List Rk) (w : World) (hr : Kd.C k77 w A l.length l) (hc : l.length ≤ c) :
  Calls Try.prog 58 #[.slice A l.length c] w fun e w' => e = .returned (.bool (good l)) ∧ Below w.heap.size w w' := by
 have HR := aM hr
 have HC := aM hc
 go_enter Try.func58, Try.ntmps58
 by_cases h5 : l.length ≤ 5
 ·have h5b : decide ((l.length : Int) ≤ 5) = true := decide_eq_true (by omega)
  have H5 := aM h5
  clear h5
  go_wp2_with (first | (go_at_call 109; with_reducible refine (contains_calls A c l _ HR.out HC.out H5.out).mono ?_; rintro e w2 ⟨rfl, hb⟩; have HB2 := aM hb; clear hb))
  go_ret
  refine ⟨?_, HB2.out⟩
  unfold good
  rw [decide_eq_true H5.out]
  simp
 ·have h5b : decide ((l.length : Int) ≤ 5) = false := decide_eq_false (by omega)
  have H5 := aM h5
  clear h5
  go_wp2
  go_ret
  refine ⟨?_, Below.refl _ _⟩
  unfold good
  rw [decide_eq_false H5.out]
  simp
end Go.Proofs.Ytaomjndfjmfelaa.RankG
end

section
namespace Go.Proofs.Ytaomjndfjmfelaa.RankP
set_option linter.unusedVariables false
set_option linter.unusedSimpArgs false
open Go.RowKit Go.Proofs.Ytaomjndfjmfelaa.PQ Go.Proofs.YtaomjndfjmfelaaW.PrintWords Go.Proofs.YtaomjndfjmfelaaW.PrintLast Go.Proofs.Ytaomjndfjmfelaa.Pre Go.Proofs.Ytaomjndfjmfelaa.Rank Go.Proofs.Ytaomjndfjmfelaa.RankG
theorem rd_at (l : List Sc) (i : Nat) (h : i < l.length) : rd_T79 l (i : Int) = l[i] := by
 unfold rd_T79
 rw [Int.toNat_natCast, List.getD_eq_getElem?_getD, List.getElem?_eq_getElem h]
 rfl
theorem rd_atR (l : List Rk) (i : Nat) (h : i < l.length) : rd_T77 l (i : Int) = l[i] := by
 unfold rd_T77
 rw [Int.toNat_natCast, List.getD_eq_getElem?_getD, List.getElem?_eq_getElem h]
 rfl
theorem in_ev (a b c : Int) : spec_l1In.f a b c = some (decide (b ≤ a ∧ a ≤ c)) := by
 unfold spec_l1In.f
 by_cases h1 : a ≥ b
 ·rw [if_pos h1]
  congr 1
  by_cases h2 : a ≤ c
  ·rw [decide_eq_true h2, decide_eq_true ⟨h1, h2⟩]
  ·rw [decide_eq_false h2, decide_eq_false (fun e => h2 e.2)]
 ·rw [if_neg h1, decide_eq_false (fun e => h1 e.1)]
theorem less_ev (y x : Sc) : spec_l11Less.f y.f0 y.f1 x.f0 x.f1 = some (Rank.ahead y x) := by
 unfold spec_l11Less.f Rank.ahead
 by_cases h1 : y.f1 > x.f1
 ·rw [if_pos h1]
  simp [show x.f1 < y.f1 from h1]
 ·rw [if_neg h1]
  by_cases h2 : y.f1 = x.f1
  ·rw [if_pos h2]
   simp [h2]
  ·rw [if_neg h2]
   have h3 : ¬ x.f1 < y.f1 := h1
   have h4 : ¬ x.f1 = y.f1 := fun e => h2 e.symm
   simp [h3, h4]
end Go.Proofs.Ytaomjndfjmfelaa.RankP
end

section
namespace Go.Proofs.Ytaomjndfjmfelaa.RankS
set_option linter.unusedVariables false
open Go.RowKit Go.Proofs.Ytaomjndfjmfelaa.PQ Go.Proofs.YtaomjndfjmfelaaW.PrintWords Go.Proofs.YtaomjndfjmfelaaW.PrintLast Go.Proofs.Ytaomjndfjmfelaa.Pre Go.Proofs.Ytaomjndfjmfelaa.Rank Go.Proofs.Ytaomjndfjmfelaa.RankG Go.Proofs.Ytaomjndfjmfelaa.RankP
def sum1 (id : Int) (s : Int) (l : List Sc) : Int := l.foldl (fun s x => if x.f0 = id then wrap64 (s + x.f1) else s) s
def sumR (id : Int) (L : List Rk) : Int := L.foldl (fun s x => sum1 id s x.f0) 0
theorem impl_sumOf_1 (id : Int) (L : List Rk) (x11 x12 : Int) (l : List Sc) (hl : l.length ≤ 1048576) (r : Int) : ∀ (n i : Nat) (s : Int), i + n = l.length → Evt (fun k => impl_sumOf.l0 k id (sum1 id s (l.drop i)) L x11 (wrap64 (x12 + 1))) r → Evt (fun k => impl_sumOf.l1 k id s L x11 x12 l (l.length : Int) (i : Int)) r := by
 intro n
 induction n with
 | zero =>
  intro i s hi hn
  rw [List.drop_of_length_le (by omega)] at hn
  exact Evt.step (fun k => impl_sumOf.l1.eq_2 _ _ _ _ _ _ _ _ k) (Evt.neg (by omega) hn)
 | succ n ih =>
  intro i s hi hn
  have hlt : i < l.length := by omega
  refine Evt.step (fun k => impl_sumOf.l1.eq_2 _ _ _ _ _ _ _ _ k) (Evt.pos (by omega) (Evt.pos (by omega) (Evt.pos (by omega) ?_)))
  rw [rd_at l i hlt, w64 (n := (i : Int) + 1) (by omega) (by omega)]
  rw [List.drop_eq_getElem_cons hlt] at hn
  by_cases he : l[i].f0 = id
  ·refine Evt.pos he (ih (i + 1) _ (by omega) ?_)
   have e : sum1 id s (l[i] :: l.drop (i + 1)) = sum1 id (wrap64 (s + l[i].f1)) (l.drop (i + 1)) := by
    unfold sum1
    rw [List.foldl_cons, if_pos he]
   rw [e] at hn
   exact hn
  ·refine Evt.neg he (ih (i + 1) _ (by omega) ?_)
   have e : sum1 id s (l[i] :: l.drop (i + 1)) = sum1 id s (l.drop (i + 1)) := by
    unfold sum1
    rw [List.foldl_cons, if_neg he]
   rw [e] at hn
   exact hn
theorem impl_sumOf_ev (id : Int) (L : List Rk) (hL : L.length ≤ 1048576) (hx : ∀ x ∈ L, x.f0.length ≤ 1048576) : Evt (fun k => impl_sumOf.f k L id) (sumR id L) := by
 have key : ∀ (n i : Nat) (s : Int), i + n = L.length → Evt (fun k => impl_sumOf.l0 k id s L (L.length : Int) (i : Int)) ((L.drop i).foldl (fun s x => sum1 id s x.f0) s) := by
  intro n
  induction n with
  | zero =>
   intro i s hi
   rw [List.drop_of_length_le (by omega)]
   exact Evt.step (fun k => impl_sumOf.l0.eq_2 _ _ _ _ _ k) (Evt.neg (by omega) (Evt.const _))
  | succ n ih =>
   intro i s hi
   have hlt : i < L.length := by omega
   refine Evt.step (fun k => impl_sumOf.l0.eq_2 _ _ _ _ _ k) (Evt.pos (by omega) (Evt.pos (by omega) (Evt.pos (by omega) ?_)))
   rw [rd_atR L i hlt, List.drop_eq_getElem_cons hlt, List.foldl_cons]
   refine impl_sumOf_1 id L (L.length : Int) (i : Int) L[i].f0 (hx _ (List.getElem_mem _)) _ L[i].f0.length 0 s (by omega) ?_
   rw [List.drop_zero, w64 (n := (i : Int) + 1) (by omega) (by omega)]
   exact ih (i + 1) _ (by omega)
 exact key L.length 0 0 (by omega)
theorem spec_l11Sum_1 (id : Int) (L : List Rk) (x11 x12 : Int) (l : List Sc) (hl : l.length ≤ 1048576) (r : Int) : ∀ (n i : Nat) (s : Int), i + n = l.length → Evt (fun k => spec_l11Sum.l0 k id (sum1 id s (l.drop i)) L x11 (wrap64 (x12 + 1))) r → Evt (fun k => spec_l11Sum.l1 k id s L x11 x12 l (l.length : Int) (i : Int)) r := by
 intro n
 induction n with
 | zero =>
  intro i s hi hn
  rw [List.drop_of_length_le (by omega)] at hn
  exact Evt.step (fun k => spec_l11Sum.l1.eq_2 _ _ _ _ _ _ _ _ k) (Evt.neg (by omega) hn)
 | succ n ih =>
  intro i s hi hn
  have hlt : i < l.length := by omega
  refine Evt.step (fun k => spec_l11Sum.l1.eq_2 _ _ _ _ _ _ _ _ k) (Evt.pos (by omega) (Evt.pos (by omega) (Evt.pos (by omega) ?_)))
  rw [rd_at l i hlt, w64 (n := (i : Int) + 1) (by omega) (by omega)]
  rw [List.drop_eq_getElem_cons hlt] at hn
  by_cases he : l[i].f0 = id
  ·refine Evt.pos he (ih (i + 1) _ (by omega) ?_)
   have e : sum1 id s (l[i] :: l.drop (i + 1)) = sum1 id (wrap64 (s + l[i].f1)) (l.drop (i + 1)) := by
    unfold sum1
    rw [List.foldl_cons, if_pos he]
   rw [e] at hn
   exact hn
  ·refine Evt.neg he (ih (i + 1) _ (by omega) ?_)
   have e : sum1 id s (l[i] :: l.drop (i + 1)) = sum1 id s (l.drop (i + 1)) := by
    unfold sum1
    rw [List.foldl_cons, if_neg he]
   rw [e] at hn
   exact hn
theorem spec_l11Sum_ev (id : Int) (L : List Rk) (hL : L.length ≤ 1048576) (hx : ∀ x ∈ L, x.f0.length ≤ 1048576) : Evt (fun k => spec_l11Sum.f k L id) (sumR id L) := by
 have key : ∀ (n i : Nat) (s : Int), i + n = L.length → Evt (fun k => spec_l11Sum.l0 k id s L (L.length : Int) (i : Int)) ((L.drop i).foldl (fun s x => sum1 id s x.f0) s) := by
  intro n
  induction n with
  | zero =>
   intro i s hi
   rw [List.drop_of_length_le (by omega)]
   exact Evt.step (fun k => spec_l11Sum.l0.eq_2 _ _ _ _ _ k) (Evt.neg (by omega) (Evt.const _))
  | succ n ih =>
   intro i s hi
   have hlt : i < L.length := by omega
   refine Evt.step (fun k => spec_l11Sum.l0.eq_2 _ _ _ _ _ k) (Evt.pos (by omega) (Evt.pos (by omega) (Evt.pos (by omega) ?_)))
   rw [rd_atR L i hlt, List.drop_eq_getElem_cons hlt, List.foldl_cons]
   refine spec_l11Sum_1 id L (L.length : Int) (i : Int) L[i].f0 (hx _ (List.getElem_mem _)) _ L[i].f0.length 0 s (by omega) ?_
   rw [List.drop_zero, w64 (n := (i : Int) + 1) (by omega) (by omega)]
   exact ih (i + 1) _ (by omega)
 exact key L.length 0 0 (by omega)
end Go.Proofs.Ytaomjndfjmfelaa.RankS
end

section
namespace Go.Proofs.Ytaomjndfjmfelaa.Meet
set_option linter.unusedVariables false
set_option linter.unusedSimpArgs false
open Go.RowKit Go.Proofs.Ytaomjndfjmfelaa.PQ Go.Proofs.YtaomjndfjmfelaaW.PrintWords Go.Proofs.YtaomjndfjmfelaaW.PrintLast Go.Proofs.YtaomjndfjmfelaaW.PrintMore Go.Proofs.Ytaomjndfjmfelaa.Pre Go.Proofs.Ytaomjndfjmfelaa.Rank Go.Proofs.Ytaomjndfjmfelaa.RankG
theorem beside4 {W w3 w4 : World} {g t e base : Nat} {α : Type} {d : Kd α} {ok : Nat → Prop} {v : Value} {xs : List α} {cells : Array Value} (h : W.heap[g]? = some (.cells cells t (0, 0))) (hb : Below W.heap.size W w3) (ho : d.R e W base ok v xs) (hg : w3.grownBy w4 v.ownBlock) (ht : e ≠ t) : w4.heap[g]? = some (.cells cells t (0, 0)) := by
 have hlt : g < W.heap.size := by
  rcases Nat.lt_or_ge g W.heap.size with h1 | h1
  ·exact h1
  ·rw [Array.getElem?_eq_none h1] at h
   cases h
 exact (hg.block g (Nat.lt_of_lt_of_le hlt hb.size) (Kd.R_ne ho h ht)).trans ((hb.block g hlt).trans h)
theorem cell0 {W : World} {b t : Nat} {u v : Value} (h : W.heap[b]? = some (.cells #[u, v] t (0, 0))) : W.cell? ⟨b, 0, none⟩ = some u := by
 unfold World.cell?
 rw [show W.heap[(⟨b, 0, none⟩ : Addr).block]? = _ from h]
 rfl
theorem cell1 {W : World} {b t : Nat} {u v : Value} (h : W.heap[b]? = some (.cells #[u, v] t (0, 0))) : W.cell? ⟨b, 1, none⟩ = some v := by
 unfold World.cell?
 rw [show W.heap[(⟨b, 1, none⟩ : Addr).block]? = _ from h]
 rfl
theorem froz1 {W : World} {b t : Nat} {u v : Value} (h : W.heap[b]? = some (.cells #[u, v] t (0, 0))) : W.frozen? ⟨b, 1, none⟩ = false := by
 unfold World.frozen?
 rw [show W.heap[(⟨b, 1, none⟩ : Addr).block]? = _ from h]
 rfl
theorem cellq {W : World} {b t : Nat} {v : Value} (h : W.heap[b]? = some (.cells #[v] t (0, 0))) : W.cell? ⟨b, 0, none⟩ = some v := by
 unfold World.cell?
 rw [show W.heap[(⟨b, 0, none⟩ : Addr).block]? = _ from h]
 rfl
theorem at_new (w : World) (o : Obj) : (w.alloc o).heap[w.heap.size]? = some o := by
 show (w.heap.push o)[w.heap.size]? = some o
 simp
theorem lt_some {W : World} {b : Nat} {o : Obj} (h : W.heap[b]? = some o) : b < W.heap.size := by
 rcases Nat.lt_or_ge b W.heap.size with h1 | h1
 ·exact h1
 ·rw [Array.getElem?_eq_none h1] at h
  cases h
/-- Those that were met, one more. -/
def met (L : List Rk) (id : Int) (list : List Sc) : List Sc := if list.any (isId id) = true then list else list ++ [⟨id, RankS.sumR id L⟩]
set_option maxRecDepth 100000 in
set_option maxHeartbeats 4000000 in
theorem meet_calls (w0 : World) (AL : Option Addr) (cL : Nat) (L : List Rk) (b : Nat) (v : Value) (list : List Sc) (id : Int) (w : World) (hw0 : Below w0.heap.size w0 w) (hrl : Kd.C k77 w0 AL L.length L) (hcl : L.length ≤ cL) (hL : L.length ≤ 1048576) (hLx : ∀ x ∈ L, x.f0.length ≤ 1048576) (hb0 : w0.heap.size ≤ b) (hnb : w.heap[b]? = some (.cells #[.slice AL L.length cL, v] 123 (0, 0))) (ho : Kd.R k79 79 w w0.heap.size (fun _ => True) v list) (hln : list.length ≤ 100000) :
  Calls Try.prog 100 #[.pointer (some ⟨b, 0, none⟩), .int .i64 id] w fun e w' => e = .returned (.tuple #[]) ∧ ∃ v', w'.heap[b]? = some (.cells #[.slice AL L.length cL, v'] 123 (0, 0)) ∧ Kd.R k79 79 w' w0.heap.size (fun _ => True) v' (met L id list) ∧ Below w0.heap.size w0 w' := by
 obtain ⟨Av, cv, rfl, hcv, hCv⟩ := Kd.R_reads ho
 obtain ⟨Wa, hWa⟩ : ∃ Wa, Wa = w.alloc (.cells #[.int .i64 id] 3) := ⟨_, rfl⟩
 have HWa : Aside0 (Below w.heap.size w Wa) := ⟨by subst hWa; exact below_alloc (Below.refl _ _) _⟩
 have HQa : Aside0 (Wa.heap[w.heap.size]? = some (.cells #[.int .i64 id] 3 (0, 0))) := ⟨by subst hWa; exact at_new w _⟩
 have HNa : Aside0 (Wa.heap[b]? = some (.cells #[.slice AL L.length cL, .slice Av list.length cv] 123 (0, 0))) := ⟨(HWa.out.block b (lt_some hnb)).trans hnb⟩
 have HRL := aM hrl
 have HCL0 := aM hcl
 have HLN := aM hln
 have HOa := aM (Kd.R_below ho HWa.out)
 have HW0a := aM (below_step hw0 HWa.out)
 have HCa := aM (Kd.C_below hCv HWa.out)
 have HB0 := aM hb0
 obtain ⟨ks, hks⟩ := (RankS.impl_sumOf_ev id L hL hLx).ex
 have HE := aM hks
 obtain ⟨s, hs⟩ : ∃ s, s = RankS.sumR id L := ⟨_, rfl⟩
 rw [← hs] at HE
 have HSS := aM hs
 have h1 : (w.alloc (.cells #[.int .i64 id] 3)).cell? ⟨b, 1, none⟩ = some (.slice Av list.length cv) := by rw [← hWa]; exact cell1 HNa.out
 obtain ⟨bb, hbb⟩ : ∃ bb, bb = list.any (isId id) := ⟨_, rfl⟩
 have HBB := aM hbb
 clear hw0 hrl hcl hL hLx hb0 hnb ho hln hcv hCv hks hs hbb
 go_enter Try.func100, Try.ntmps100
 cases bb with
 | true =>
  go_wp2_with (first | (go_at_call 141; go_loud (rw [← hWa]; (with_reducible refine (contains_calls Av cv list id w.heap.size Wa (fun w' hb => (hb.cell (lt_some HQa.out)).trans (cellq HQa.out)) HCa.out (by have := HLN.out; omega)).mono ?_); rintro e W ⟨rfl, hb⟩; rw [← HBB.out]; have HNB := aM ((hb.block b (lt_some HNa.out)).trans HNa.out); have HNQ := aM ((hb.block w.heap.size (lt_some HQa.out)).trans HQa.out); have HO := aM (Kd.R_below HOa.out hb); have HW0 := aM (below_step HW0a.out hb); clear hb h1)))
  go_end0
  refine ⟨rfl, _, HNB.out, ?_, HW0.out⟩
  unfold met
  rw [if_pos HBB.out.symm]
  exact HO.out
 | false =>
  go_wp2_with (first | (go_at_call 141; go_loud (rw [← hWa]; (with_reducible refine (contains_calls Av cv list id w.heap.size Wa (fun w' hb => (hb.cell (lt_some HQa.out)).trans (cellq HQa.out)) HCa.out (by have := HLN.out; omega)).mono ?_); rintro e W ⟨rfl, hb⟩; rw [← HBB.out]; have HNB := aM ((hb.block b (lt_some HNa.out)).trans HNa.out); have HNQ := aM ((hb.block w.heap.size (lt_some HQa.out)).trans HQa.out); have HO := aM (Kd.R_below HOa.out hb); have HW0 := aM (below_step HW0a.out hb); clear hb h1)))
  have HH : Aside0 (∀ w', Below W.heap.size W w' → w'.cell? ⟨b, 0, none⟩ = some (.slice AL L.length cL) ∧ w'.cell? ⟨b, 1, none⟩ = some (.slice Av list.length cv) ∧ w'.cell? ⟨w.heap.size, 0, none⟩ = some (.int .i64 id)) := ⟨fun w' hb => ⟨(hb.cell (lt_some HNB.out)).trans (cell0 HNB.out), (hb.cell (lt_some HNB.out)).trans (cell1 HNB.out), (hb.cell (lt_some HNQ.out)).trans (cellq HNQ.out)⟩⟩
  refine start_ (n := 18) (S := fun w' => w'.cell? ⟨b, 0, none⟩ = some (.slice AL L.length cL) ∧ w'.cell? ⟨b, 1, none⟩ = some (.slice Av list.length cv) ∧ w'.cell? ⟨w.heap.size, 0, none⟩ = some (.int .i64 id)) (ds := [17]) (bq 18 0) (by kernel_rfl) rfl (by kernel_rfl) ⟨(HH.out W.drew (Below.refl W.heap.size W).drew).1, (HH.out W.drew (Below.refl W.heap.size W).drew).2.1, (HH.out W.drew (Below.refl W.heap.size W).drew).2.2⟩ (fun hHeld => ?_)
  refine pX 18 1 0 11 ?_
  refine pX 18 3 1 12 ?_
  refine pX 18 7 2 13 ?_
  refine pX 18 15 3 14 ?_
  refine pX 18 79 6 17 ?_
  refine pX 18 207 7 18 ?_
  refine pX 18 463 8 19 ?_
  refine sX3 18 479 4 15 hHeld ?_
  refine sX3 18 511 5 16 hHeld ?_
  refine sX3 18 1023 9 20 hHeld ?_
  refine sX3 18 2047 10 21 hHeld ?_
  refine one_ (i := 11) (N := some 22) (bq 18 4095) rfl rfl (by kernel_rfl) (by decide) (fun K hK => ?_)
  refine gA Try.func113 #[.slice AL L.length cL, .int .i64 id] ?_
  with_reducible refine (impl_sumOf.calls ks AL cL L id s _ (Kd.C_below HRL.out HW0.out.drew) HCL0.out HE.out).mono ?_
  rintro e w3 ⟨rfl, hb⟩
  refine ⟨_, rfl, ?_⟩
  have HB3 := aM (below_then (Below.refl W.heap.size W).drew (Nat.le_refl _) hb)
  clear hb
  refine hK.out _ _ ⟨(HH.out w3 HB3.out).1, (HH.out w3 HB3.out).2.1, (HH.out w3 HB3.out).2.2⟩ (fun hHeld => ?_)
  clear hK K
  refine nM 22 ?_
  refine pX 18 8191 12 23 ?_
  refine one_ (i := 13) (N := some 24) (bq 18 16383) rfl rfl (by kernel_rfl) (by decide) (fun K hK => ?_)
  refine value_ (w1 := ?_) (v := ?_) (by rfl) rfl ?_ ?_
  rotate_left 2
  ·go_simp
   constructor
   ·rfl
   ·rfl
  refine hK.out _ _ ⟨(HH.out _ (below_alloc HB3.out _)).1, (HH.out _ (below_alloc HB3.out _)).2.1, (HH.out _ (below_alloc HB3.out _)).2.2⟩ (fun hHeld => ?_)
  clear hK K
  refine nM 24 ?_
  refine one_ (i := 14) (N := some 25) (bq 18 32767) rfl rfl (by kernel_rfl) (by decide) (fun K hK => ?_)
  refine Kd.R_append_step k79 (w0 := w0) w0.heap.size (by rfl) (.tmp 15) (.tmp 24) 61 79 _ 16 rfl Try.underlying61 info79 rfl (by decide) (by decide) (.slice Av list.length cv) list (⟨id, s⟩ : Sc) _ (fun _ => True) (fun _ => False) rfl rfl (k79_mkM _ _ _ _) (fun _ h => h.elim) (fun _ _ => trivial) (Kd.R_below HO.out HB3.out) (below_step HW0.out HB3.out) (below_size (below_step HW0.out HB3.out)) (by have := HLN.out; omega) ?_
  intro v1 w4 ho1 hb1 hg1 hat1
  obtain ⟨A4, c4, e4⟩ := Kd.R_slice ho1
  subst e4
  have HO1 := aM ho1
  have HB1 := aM hb1
  have HN4 := aM (beside4 HNB.out HB3.out HO.out hg1 (by decide))
  have hf4 := froz1 HN4.out
  have HQ4 := aM (beside4 HNQ.out HB3.out HO.out hg1 (by decide))
  clear hat1 hg1 ho1 hb1
  refine hK.out _ _ ⟨cell0 HN4.out, cell1 HN4.out, cellq HQ4.out⟩ (fun hHeld => ?_)
  clear hK K
  refine nM 25 ?_
  refine pX 18 65535 15 26 ?_
  refine pX 18 131071 16 27 ?_
  refine last_ (i := 17) (N := none) #[true, true, true, true, true, true, true, true, true, true, true, true, true, true, true, true, true, true] rfl rfl (by kernel_rfl) (by decide) (fun K hK => ?_)
  refine skip_ (w1 := ?_) (by rfl) rfl ?_ ?_
  rotate_left
  ·go_simp
   rfl
  refine hK.out _ _ ?_
  clear hK K
  refine done_ (by kernel_rfl) ?_
  have hN5 := heap_setCell_same w4 b 1 _ _ (.slice A4 (list.length + 1) c4) HN4.out
  go_wp2
  go_end0
  refine ⟨rfl, _, hN5, ?_, below_set HB1.out HB0.out⟩
  unfold met
  rw [if_neg (by rw [← HBB.out]; simp), ← HSS.out]
  have e5 : (list ++ [(⟨id, s⟩ : Sc)]).length = list.length + 1 := by simp
  rw [e5] at HO1
  exact Kd.R_set HO1.out HN4.out (by decide) 1 _
end Go.Proofs.Ytaomjndfjmfelaa.Meet
end

section
namespace Go.Proofs.Ytaomjndfjmfelaa.PQ
open Go.RowKit Go.Proofs.YtaomjndfjmfelaaW.PrintWords Go.Proofs.YtaomjndfjmfelaaW.PrintLast Go.Proofs.YtaomjndfjmfelaaW.PrintMore
attribute [local go_sem] max2_int min2_int max_two min_two max_three min_three max_four min_four
set_option linter.unusedVariables false
set_option linter.unusedSimpArgs false
def impl_GoodRankings.f (l0 : List (S77)) : Option Bool := some (RankG.good l0)
theorem impl_GoodRankings.calls (A0 : Option Addr) (c0 : Nat) (l0 : List (S77)) (r : Bool) (w : World) (hr0 : Kd.C k77 w A0 l0.length l0) (hc0 : l0.length ≤ c0) (h : impl_GoodRankings.f l0 = some r) :
  Calls Try.prog 58 #[.slice A0 l0.length c0] w fun e w' => e = .returned (.bool r) ∧ Below w.heap.size w w' := by
 obtain rfl := Option.some.inj h
 exact RankG.goodR_calls A0 c0 l0 w hr0 hc0

end Go.Proofs.Ytaomjndfjmfelaa.PQ
end
