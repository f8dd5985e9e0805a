/- Several texts in one: what the claim's last text rests on. No conditions. -/
import Derived.Test.YtjknkeipginpcaaMTb13
import Derived.Test.YtjknkeipginpcaaMTb20
import Derived.Test.YtjknkeipginpcaaMTb5
import Derived.Test.YtjknkeipginpcaaMTb19
section
/- Treaps: how deep a treap is. No conditions. -/
namespace Go.Proofs.Ytjknkeipginpcaa.TrG
set_option linter.unusedVariables false
set_option linter.unusedSimpArgs false
open Go.RowKit Go.Proofs.Ytjknkeipginpcaa.PQ Go.Proofs.YtjknkeipginpcaaW.PrintWords Go.Proofs.YtjknkeipginpcaaW.PrintLast Go.Proofs.YtjknkeipginpcaaW.PrintMore Go.Proofs.Ytjknkeipginpcaa.Pre Go.Proofs.Ytjknkeipginpcaa.Tr Go.Proofs.Ytjknkeipginpcaa.Pr Go.Proofs.Ytjknkeipginpcaa.Po

theorem child_in {L : List Lb} {l : List KV} (h : Good L l) (i : Nat) (hi : i < L.length) : (L[i].f2 = -1 ∨ ((i : Int) < L[i].f2 ∧ L[i].f2 < (L.length : Int))) ∧ (L[i].f3 = -1 ∨ ((i : Int) < L[i].f3 ∧ L[i].f3 < (L.length : Int))) := by
  have hc := (enc_chs l.length l 0 (Nat.le_refl _)).1
  rw [h.2.2] at hc
  have hl := h.len
  have hb := hc i hi
  have hm : ∀ c, c ∈ [L[i].f2, L[i].f3] → c ≠ -1 → ((i : Int) < c ∧ c < (L.length : Int)) := by
    intro c hc hne
    have := hb c (List.mem_filter.2 ⟨hc, decide_eq_true hne⟩)
    omega
  constructor
  · by_cases h1 : L[i].f2 = -1
    · exact .inl h1
    · exact .inr (hm _ (by simp) h1)
  · by_cases h1 : L[i].f3 = -1
    · exact .inl h1
    · exact .inr (hm _ (by simp) h1)
/-- How many limbs lie from one down at most. -/
def dp (L : List Lb) : Nat → Int → Int
  | 0, _ => 0
  | f + 1, k => if k < 0 then 0 else 1 + max (dp L f (rd_T71 L k).f2) (dp L f (rd_T71 L k).f3)
theorem dp_neg (L : List Lb) (f : Nat) (k : Int) (h : k < 0) : dp L f k = 0 := by
  cases f with
  | zero => rfl
  | succ f => unfold dp; rw [if_pos h]
theorem dp_bd (L : List Lb) : ∀ (f : Nat) (k : Int), 0 ≤ dp L f k ∧ dp L f k ≤ (f : Int)
  | 0, k => ⟨by simp [dp], by simp [dp]⟩
  | f + 1, k => by
    have h1 := dp_bd L f (rd_T71 L k).f2
    have h2 := dp_bd L f (rd_T71 L k).f3
    unfold dp
    split <;> omega
set_option maxHeartbeats 1000000 in
set_option maxRecDepth 100000 in
theorem deepAt (L : List Lb) (A : Option Addr) (c tb : Nat)
    (hL : L.length ≤ 60) (hch : ∀ (i : Nat) (hi : i < L.length), (L[i].f2 = -1 ∨ ((i : Int) < L[i].f2 ∧ L[i].f2 < (L.length : Int))) ∧ (L[i].f3 = -1 ∨ ((i : Int) < L[i].f3 ∧ L[i].f3 < (L.length : Int)))) : ∀ (f : Nat) (k : Int) (w : World), Kd.C k71 w A L.length L → w.heap[tb]? = some (.cells #[.slice A L.length c] 29 (0, 0)) → f ≤ 60 → (k = -1 ∨ (0 ≤ k ∧ k < (L.length : Int) ∧ (L.length : Int) - k ≤ (f : Int))) →
    Calls Try.prog 52 #[.pointer (some ⟨tb, 0, none⟩), .int .i64 k] w fun e w' => e = .returned (.int .i64 (dp L f k)) ∧ ∃ m, w' = w.drewN m := by
  intro f
  induction f with
  | zero =>
    intro k w hC ht hf hk
    obtain rfl : k = -1 := hk.elim id (fun h => by omega)
    go_enter Try.func52, Try.ntmps52
    go_wp2
    go_ret
    exact ⟨rfl, 0, rfl⟩
  | succ f ih =>
    intro k w hC ht hf hk
    by_cases hk1 : k = -1
    · subst hk1
      rw [dp_neg L _ _ (by omega)]
      go_enter Try.func52, Try.ntmps52
      go_wp2
      go_ret
      exact ⟨rfl, 0, rfl⟩
    · obtain ⟨h0, h1, h2⟩ := hk.resolve_left hk1
      obtain ⟨i, rfl⟩ := Int.eq_ofNat_of_zero_le h0
      have hi : i < L.length := by omega
      have hc2 := hch i hi
      rw [← rdL L i hi] at hc2
      have HI := Aside0.mk (fun (k : Int) (q : Nat) (h : k = -1 ∨ (0 ≤ k ∧ k < (L.length : Int) ∧ (L.length : Int) - k ≤ (f : Int))) => ih k (w.drewN q) (Kd.C_below hC (pw_below_drewN (Below.refl _ _) _)) ht (by omega) h)
      have H2 := Aside0.mk (hc2.1.imp id (fun h => (⟨by omega, by omega, by omega⟩ : 0 ≤ (rd_T71 L (i : Int)).f2 ∧ (rd_T71 L (i : Int)).f2 < (L.length : Int) ∧ (L.length : Int) - (rd_T71 L (i : Int)).f2 ≤ (f : Int))))
      have H3 := Aside0.mk (hc2.2.imp id (fun h => (⟨by omega, by omega, by omega⟩ : 0 ≤ (rd_T71 L (i : Int)).f3 ∧ (rd_T71 L (i : Int)).f3 < (L.length : Int) ∧ (L.length : Int) - (rd_T71 L (i : Int)).f3 ≤ (f : Int))))
      have ed : dp L (f + 1) (i : Int) = 1 + max (dp L f (rd_T71 L (i : Int)).f2) (dp L f (rd_T71 L (i : Int)).f3) := by
        conv => lhs; unfold dp
        rw [if_neg (by omega)]
      have b1 := dp_bd L f (rd_T71 L (i : Int)).f2
      have b2 := dp_bd L f (rd_T71 L (i : Int)).f3
      obtain ⟨ad, e, g0, g1, g2, g3⟩ := at_T71 hC (i : Int) (by omega) (by omega)
      rw [Int.toNat_natCast] at g0 g1 g2 g3
      subst e
      generalize rd_T71 L (i : Int) = x at *
      obtain ⟨d1, hd1⟩ : ∃ d, dp L f x.f2 = d := ⟨_, rfl⟩
      obtain ⟨d2, hd2⟩ : ∃ d, dp L f x.f3 = d := ⟨_, rfl⟩
      rw [hd1] at b1
      rw [hd2] at b2
      rw [ed, hd1, hd2]
      have HD1 := Aside0.mk hd1
      have HD2 := Aside0.mk hd2
      have c1 : w.cell? ⟨tb, 0, none⟩ = some (.slice (some ad) L.length c) := (blk_cell ht 0).trans rfl
      have b3 : 0 ≤ d1 := b1.1
      have b4 : d1 ≤ 60 := by omega
      have b5 : 0 ≤ d2 := b2.1
      have b6 : d2 ≤ 60 := by omega
      have hi2 : (i : Int) < (L.length : Int) := by omega
      clear ih hc2 hch hC ht ed b1 b2 hd1 hd2 hk hk1 h0 h1 h2 g0 g1 hi hf hL
      go_enter Try.func52, Try.ntmps52
      go_wp2
      go_quiet ((go_at_call 52; exact Calls.quiet_of (HI.out _ _ (by first | exact H2.out | exact H3.out))))
      go_wp2
      go_ret
      refine ⟨?_, _, rfl⟩
      show Ending.returned (.int .i64 (wrap64 (1 + max (dp L f x.f2) (dp L f x.f3)))) = Ending.returned (.int .i64 (1 + max d1 d2))
      rw [HD1.out, HD2.out, w64 (by omega) (by omega)]
/-- What DeepIn answers. -/
def ansD (L : List Lb) : Int × Bool := if (ansP L).2 = true then (if L.length = 0 then (0, true) else (dp L L.length 0, true)) else (0, false)
set_option maxHeartbeats 1000000 in
set_option maxRecDepth 100000 in
theorem deepIn (L : List Lb) (A : Option Addr) (c : Nat) (w : World) (hC : Kd.C k71 w A L.length L) (hc1 : L.length ≤ c) (hLL : L.length ≤ 1048576) :
    Calls Try.prog 21 #[.agg #[.slice A L.length c]] w fun e w' => e = .returned (.tuple #[.int .i64 (ansD L).1, .bool (ansD L).2]) ∧ Below w.heap.size w w' := by
  obtain ⟨wA, hwA⟩ : ∃ wA, wA = w.alloc (.cells #[.slice A L.length c] 29) := ⟨_, rfl⟩
  have HWA := Aside0.mk hwA
  have HTA := Aside0.mk (show wA.heap[w.heap.size]? = some (.cells #[.slice A L.length c] 29 (0, 0)) by rw [hwA]; exact at_new _ _)
  have HBA := Aside0.mk (show Below w.heap.size w wA by rw [hwA]; exact below_alloc (Below.refl _ _) _)
  have HSA := Aside0.mk (show wA.heap.size = w.heap.size + 1 by rw [hwA]; exact new_size _ _)
  have ct : (w.alloc (.cells #[.slice A L.length c] 29)).cell? ⟨w.heap.size, 0, none⟩ = some (.slice A L.length c) := by rw [← hwA]; exact (blk_cell HTA.out 0).trans rfl
  have HCA := Aside0.mk (Kd.C_below hC HBA.out)
  have hP : impl_GoodTreap.f L = some (ansP L).2 := by
    unfold impl_GoodTreap.f
    rw [show impl_pairsOf.f L = some (ansP L) from if_pos hLL]
    rfl
  have HG := Aside0.mk (impl_GoodTreap.calls A c L (ansP L).2 wA HCA.out hc1 hP)
  have HAD := Aside0.mk (show ansD L = _ from rfl)
  have hlb : (L.length : Int) ≤ 1048576 := by omega
  by_cases hg : (ansP L).2 = true
  · obtain ⟨l, hl⟩ : ∃ l, Good L l := ⟨_, ansP_true hg⟩
    have h60 : L.length ≤ 60 := by have := hl.len; have := hl.1; omega
    have HCH := Aside0.mk (child_in hl)
    by_cases h0 : L.length = 0
    · have ea : ansD L = (0, true) := by unfold ansD; rw [if_pos hg, if_pos h0]
      rw [ea]
      rw [hg] at HG
      have z0 : (L.length : Int) = 0 := by omega
      clear hC hc1 hLL hP hwA hl HAD hg ea h60 h0
      go_enter Try.func21, Try.ntmps21
      go_upto_region 3 with (go_at_call 16; rw [← HWA.out]; go_loud ((with_reducible refine HG.out.mono ?_); rintro e w4 ⟨rfl, hb⟩; have HB4 := Aside0.mk hb; clear hb))
      have ct4 : w4.cell? ⟨w.heap.size, 0, none⟩ = some (.slice A L.length c) := (blk_cell ((HB4.out.block w.heap.size (by have := HSA.out; omega)).trans HTA.out) 0).trans rfl
      clear ct
      go_wp2
      go_ret2
      exact ⟨rfl, HBA.out.trans (HB4.out.mono (by have := HSA.out; omega))⟩
    · have ea : ansD L = (dp L L.length 0, true) := by unfold ansD; rw [if_pos hg, if_neg h0]
      rw [ea]
      rw [hg] at HG
      have z0 : ¬ (L.length : Int) = 0 := by omega
      have HH0 := Aside0.mk h0
      have HLL := Aside0.mk h60
      obtain ⟨d, hd⟩ : ∃ d, d = dp L L.length 0 := ⟨_, rfl⟩
      rw [← hd]
      have HD := Aside0.mk hd
      clear hC hc1 hLL hP hwA hl HAD hg ea h60 h0 hd
      go_enter Try.func21, Try.ntmps21
      go_upto_region 3 with (go_at_call 16; rw [← HWA.out]; go_loud ((with_reducible refine HG.out.mono ?_); rintro e w4 ⟨rfl, hb⟩; have HB4 := Aside0.mk hb; clear hb))
      have HT4 := Aside0.mk ((HB4.out.block w.heap.size (by have := HSA.out; omega)).trans HTA.out)
      have ct4 : w4.cell? ⟨w.heap.size, 0, none⟩ = some (.slice A L.length c) := (blk_cell HT4.out 0).trans rfl
      have HDD := Aside0.mk (deepAt L A c w.heap.size HLL.out HCH.out L.length 0 w4 (Kd.C_below HCA.out HB4.out) HT4.out HLL.out (.inr ⟨by omega, by have := HH0.out; omega, by omega⟩))
      rw [← HD.out] at HDD
      clear ct
      go_wp2_with (go_at_call 52; go_loud ((with_reducible refine HDD.out.mono ?_); rintro e w5 ⟨rfl, m5, rfl⟩))
      go_ret2
      exact ⟨rfl, pw_below_drewN (HBA.out.trans (HB4.out.mono (by have := HSA.out; omega))) _⟩
  · have ea : ansD L = (0, false) := by unfold ansD; rw [if_neg hg]
    rw [ea]
    have hg2 : (ansP L).2 = false := by simpa using hg
    rw [hg2] at HG
    clear hC hc1 hLL hP hwA HAD hg ea hg2
    go_enter Try.func21, Try.ntmps21
    go_wp2_with (go_at_call 16; rw [← HWA.out]; go_loud ((with_reducible refine HG.out.mono ?_); rintro e w4 ⟨rfl, hb⟩; have HB4 := Aside0.mk hb; clear hb))
    go_ret2
    exact ⟨rfl, HBA.out.trans (HB4.out.mono (by have := HSA.out; omega))⟩
end Go.Proofs.Ytjknkeipginpcaa.TrG
end

section
-- Written by a program of this session (pprint.py) out of the translation's print; Lean checks it.
namespace Go.Proofs.Ytjknkeipginpcaa.PQ
open Go.RowKit Go.Proofs.YtjknkeipginpcaaW.PrintWords Go.Proofs.YtjknkeipginpcaaW.PrintLast Go.Proofs.YtjknkeipginpcaaW.PrintMore
attribute [local go_sem] max2_int min2_int max_two min_two max_three min_three max_four min_four   -- for this text's walks alone
set_option linter.unusedVariables false
set_option linter.unusedSimpArgs false

--OWNPART impl_DeepIn
/-! ### impl_DeepIn: function 21, by hand -/
--NEEDS loop.example/g00274/impl.GoodTreap
--NEEDS loop.example/g00274/spec.l7Of
--IMPORT TrD
def impl_DeepIn.f (l0_0 : List (S71)) : Option (Int × Bool) := if l0_0.length ≤ 1048576 then some (TrG.ansD l0_0) else none
theorem impl_DeepIn.calls (A0_0 : Option Addr) (c0_0 : Nat) (l0_0 : List (S71)) (r1 : Int) (r2 : Bool) (w : World) (hr0_0 : Kd.C k71 w A0_0 l0_0.length l0_0) (hc0_0 : l0_0.length ≤ c0_0) (h : impl_DeepIn.f l0_0 = some (r1, r2)) :
    Calls Try.prog 21 #[.agg #[.slice A0_0 l0_0.length c0_0]] w fun e w' => e = .returned (.tuple #[.int .i64 r1, .bool r2]) ∧ Below w.heap.size w w' := by
  unfold impl_DeepIn.f at h
  split at h
  · rename_i hs
    have h1 := Option.some.inj h
    have := TrG.deepIn l0_0 A0_0 c0_0 w hr0_0 hc0_0 hs
    rw [h1] at this
    exact this
  · cases h

end Go.Proofs.Ytjknkeipginpcaa.PQ
end

section
-- Written by a program of this session (pprint.py) out of the translation's print; Lean checks it.
namespace Go.Proofs.Ytjknkeipginpcaa.PQ
open Go.RowKit Go.Proofs.YtjknkeipginpcaaW.PrintWords Go.Proofs.YtjknkeipginpcaaW.PrintLast Go.Proofs.YtjknkeipginpcaaW.PrintMore
attribute [local go_sem] max2_int min2_int max_two min_two max_three min_three max_four min_four   -- for this text's walks alone
set_option linter.unusedVariables false
set_option linter.unusedSimpArgs false

/-! ### laws_FnExactDeepIn: function 5 -/
def laws_FnExactDeepIn.j0 : Nat → Bool → List (S99) → List (S71) → Option (Bool)
  | 0, _, _, _ => none
  | k + 1, x34, x310000, x320000 => if x34 = true then (some false) else ((laws_toTreap.f k x310000).bind fun t322 => ((laws_eqTreap.f k x320000 t322).bind fun t325 => (if t325 = true then (some true) else (some false))))
def laws_FnExactDeepIn.f (k : Nat) (l0_0 : List (S99)) : Option (Bool) := (laws_szTreap.f k l0_0 1048576).bind fun t310 => (if t310 < 0 then (some true) else ((laws_toTreap.f k l0_0).bind fun t311 => ((spec_DeepIn.f k t311).bind fun bt314 => ((laws_toTreap.f k l0_0).bind fun t316 => ((impl_DeepIn.f t316).bind fun bt320 => (if bt320.1 = bt314.1 then (laws_FnExactDeepIn.j0 k (bt320.2 != bt314.2) l0_0 t316) else (laws_FnExactDeepIn.j0 k true l0_0 t316)))))))
theorem laws_FnExactDeepIn.mono_l : ∀ k, (∀ y0 y1 y2, LeO (laws_FnExactDeepIn.j0 k y0 y1 y2) (laws_FnExactDeepIn.j0 (k + 1) y0 y1 y2))
  | 0 => fun _ _ _ r h => by simp [laws_FnExactDeepIn.j0] at h
  | k + 1 => by
    have ih0 := laws_FnExactDeepIn.mono_l k
    · intro y0 y1 y2
      unfold laws_FnExactDeepIn.j0
      repeat' first
      | (with_reducible exact ih0 _ _ _)
      | (with_reducible exact laws_eqTreap.mono _ _ _)
      | (with_reducible exact laws_szTreap.mono _ _ _)
      | (with_reducible exact laws_toTreap.mono _ _)
      | (with_reducible exact spec_DeepIn.mono _ _)
      | (with_reducible exact LeO.refl _)
      | (with_reducible exact LeO.none _)
      | (with_reducible refine LeO.ite ?_ ?_)
      | (with_reducible refine LeO.bind ?_ (fun _ => ?_))
      | exact ih0 _ _ _
      | exact laws_eqTreap.mono _ _ _
      | exact laws_szTreap.mono _ _ _
      | exact laws_toTreap.mono _ _
      | exact spec_DeepIn.mono _ _
      | exact LeO.none _
      | refine LeO.ite ?_ ?_
      | refine LeO.bind ?_ (fun _ => ?_)
theorem laws_FnExactDeepIn.mono : ∀ a0 k, LeO (laws_FnExactDeepIn.f k a0) (laws_FnExactDeepIn.f (k + 1) a0) := by
  intro a0 k
  have ih0 := laws_FnExactDeepIn.mono_l k
  unfold laws_FnExactDeepIn.f
  repeat' first
      | (with_reducible exact ih0 _ _ _)
      | (with_reducible exact laws_eqTreap.mono _ _ _)
      | (with_reducible exact laws_szTreap.mono _ _ _)
      | (with_reducible exact laws_toTreap.mono _ _)
      | (with_reducible exact spec_DeepIn.mono _ _)
      | (with_reducible exact LeO.refl _)
      | (with_reducible exact LeO.none _)
      | (with_reducible refine LeO.ite ?_ ?_)
      | (with_reducible refine LeO.bind ?_ (fun _ => ?_))
      | exact ih0 _ _ _
      | exact laws_eqTreap.mono _ _ _
      | exact laws_szTreap.mono _ _ _
      | exact laws_toTreap.mono _ _
      | exact spec_DeepIn.mono _ _
      | exact LeO.none _
      | refine LeO.ite ?_ ?_
      | refine LeO.bind ?_ (fun _ => ?_)
set_option maxHeartbeats 8000000 in
set_option maxRecDepth 100000 in
theorem laws_FnExactDeepIn.calls (k : Nat) (A0_0 : Option Addr) (c0_0 : Nat) (l0_0 : List (S99)) (r : Bool) (w : World) (hr0_0 : Kd.C k99 w A0_0 l0_0.length l0_0) (hc0_0 : l0_0.length ≤ c0_0) (h : laws_FnExactDeepIn.f k l0_0 = some r) :
    Calls Try.prog 5 #[.agg #[.slice A0_0 l0_0.length c0_0]] w fun e w' => e = .returned (.bool r) ∧ Below w.heap.size w w' := by
  have hu24 := Try.underlying24
  have hu29 := Try.underlying29
  have HR0_0 := Aside0.mk hr0_0
  have HC0_0 := Aside0.mk hc0_0
  clear hr0_0 hc0_0
  have HB := Aside0.mk (Below.refl w.heap.size w)
  have H : ((laws_szTreap.f k l0_0 1048576).bind fun t310 => (if t310 < 0 then (some true) else ((laws_toTreap.f k l0_0).bind fun t311 => ((spec_DeepIn.f k t311).bind fun bt314 => ((laws_toTreap.f k l0_0).bind fun t316 => ((impl_DeepIn.f t316).bind fun bt320 => (if bt320.1 = bt314.1 then (laws_FnExactDeepIn.j0 k (bt320.2 != bt314.2) l0_0 t316) else (laws_FnExactDeepIn.j0 k true l0_0 t316)))))))) = some r := h
  clear h
  replace H := Option.bind_eq_some_iff.mp H
  obtain ⟨t310, A20, H⟩ := H
  replace H : (if t310 < 0 then (some true) else ((laws_toTreap.f k l0_0).bind fun t311 => ((spec_DeepIn.f k t311).bind fun bt314 => ((laws_toTreap.f k l0_0).bind fun t316 => ((impl_DeepIn.f t316).bind fun bt320 => (if bt320.1 = bt314.1 then (laws_FnExactDeepIn.j0 k (bt320.2 != bt314.2) l0_0 t316) else (laws_FnExactDeepIn.j0 k true l0_0 t316))))))) = some r := H
  have A2 := Aside0.mk A20
  clear A20
  by_cases c3 : t310 < 0
  · rw [if_pos c3] at H
    have c3b0 : decide (t310 < 0) = true := decide_eq_true c3
    clear c3
    obtain rfl := Option.some.inj H
    go_enter Try.func5, Try.ntmps5
    go_wp2_with (first | ((with_reducible refine gate_dst (N := 1) rfl ?_); refine box_event ?hg (N := 1) ?hd (cs := #[.slice A0_0 l0_0.length c0_0]) (t := 24) ?hr ?_; (case hd => rfl); (case hg => rfl); (case hr => first | (go_simp; done) | (go_simp; rfl)); intro gb309 hg w4 hbox hb; have n0_ := Aside0.mk (below_step (by repeat (first | (with_reducible first | exact HB.out | apply below_alloc | apply pw_below_drewN | apply below_drew1) | exact HB.out)) hb); have n1_ := Aside0.mk (hbox); have n2_ := Aside0.mk ((by rw [hg]; exact (below_size (by repeat (first | (with_reducible first | exact HB.out | apply below_alloc | apply pw_below_drewN | apply below_drew1) | exact HB.out))) : w.heap.size ≤ gb309)); have n3_ := Aside0.mk ((by rw [hg]; exact (below_size (by repeat (first | (with_reducible first | exact HB.out | apply below_alloc | apply pw_below_drewN | apply below_drew1) | exact HB.out))) : w.heap.size ≤ gb309)); clear HB; have HB := n0_; have BK309 := n1_; have GW309 := n2_; have GE309 := n3_; clear n0_ n1_ n2_ n3_; clear hb hbox hg; have hcz5_0 : w4.cell? ⟨gb309, 0, none⟩ = some (.slice A0_0 l0_0.length c0_0) := (blk_cell BK309.out 0).trans rfl; have hfz5_0 := blk_frozen BK309.out 0) | ((with_reducible refine gate_callee (f := 13) rfl ?_); refine goesL_ (some 11) rfl rfl Try.func13 (by kernel_rfl) rfl #[.agg #[.slice A0_0 l0_0.length c0_0], .int .i64 1048576] rfl (by (try simp only [List.map_toArray, List.map_cons, List.map_nil]); first | done | rfl | (simp only [List.length_drop, List.length_take]; rfl)) ?_; (with_reducible refine (laws_szTreap.calls k _ _ l0_0 1048576 t310 _ ?side1 ?side2 A2.out).mono ?_); (case side1 => repeat (first | exact (Kd.C_below HR0_0.out HB.out) | (with_reducible refine Kd.C_alloc ?_ _) | (with_reducible refine Kd.C_drewN ?_ _) | (with_reducible refine Kd.C_drew ?_))); (case side2 => exact HC0_0.out); rintro e w6 ⟨rfl, hb⟩; refine ⟨_, rfl, ?_⟩; have n0_ := Aside0.mk (blk_below (g := gb309) (o := .cells #[.slice A0_0 l0_0.length c0_0] 24 (0, 0)) (by (with_reducible repeat (first | refine blk_drewN ?_ _ | refine blk_drew ?_ | refine blk_alloc ?_ _)); exact BK309.out) hb); have n1_ := Aside0.mk (below_step (by repeat (first | (with_reducible first | exact HB.out | apply below_alloc | apply pw_below_drewN | apply below_drew1 | refine below_set ?_ GE309.out) | exact HB.out)) hb); clear BK309; clear HB; have BK309 := n0_; have HB := n1_; clear n0_ n1_; (try clear hb); (try clear hb2); (try clear hk); (try clear hi)))
    go_ret
    exact ⟨by first | rfl | (simp [errW_none, errW_some] <;> rfl) | (simp [*, errW_none, errW_some] <;> rfl), by repeat (first | (with_reducible first | exact HB.out | apply below_alloc | apply pw_below_drewN | apply below_drew1 | refine below_set ?_ GE309.out) | exact HB.out)⟩
  · rw [if_neg c3] at H
    have c3b0 : decide (t310 < 0) = false := decide_eq_false c3
    clear c3
    replace H := Option.bind_eq_some_iff.mp H
    obtain ⟨t311, A70, H⟩ := H
    replace H : ((spec_DeepIn.f k t311).bind fun bt314 => ((laws_toTreap.f k l0_0).bind fun t316 => ((impl_DeepIn.f t316).bind fun bt320 => (if bt320.1 = bt314.1 then (laws_FnExactDeepIn.j0 k (bt320.2 != bt314.2) l0_0 t316) else (laws_FnExactDeepIn.j0 k true l0_0 t316))))) = some r := H
    have A7 := Aside0.mk A70
    clear A70
    replace H := Option.bind_eq_some_iff.mp H
    obtain ⟨⟨t314, t315⟩, A80, H⟩ := H
    replace H : ((laws_toTreap.f k l0_0).bind fun t316 => ((impl_DeepIn.f t316).bind fun bt320 => (if bt320.1 = t314 then (laws_FnExactDeepIn.j0 k (bt320.2 != t315) l0_0 t316) else (laws_FnExactDeepIn.j0 k true l0_0 t316)))) = some r := H
    have A8 := Aside0.mk A80
    clear A80
    replace H := Option.bind_eq_some_iff.mp H
    obtain ⟨t316, A90, H⟩ := H
    replace H : ((impl_DeepIn.f t316).bind fun bt320 => (if bt320.1 = t314 then (laws_FnExactDeepIn.j0 k (bt320.2 != t315) l0_0 t316) else (laws_FnExactDeepIn.j0 k true l0_0 t316))) = some r := H
    have A9 := Aside0.mk A90
    clear A90
    replace H := Option.bind_eq_some_iff.mp H
    obtain ⟨⟨t320, t321⟩, A100, H⟩ := H
    replace H : (if t320 = t314 then (laws_FnExactDeepIn.j0 k (t321 != t315) l0_0 t316) else (laws_FnExactDeepIn.j0 k true l0_0 t316)) = some r := H
    have A10 := Aside0.mk A100
    clear A100
    have HC11 := Aside0.mk H
    clear H
    go_enter Try.func5, Try.ntmps5
    go_upto_region 8 with (first | ((with_reducible refine gate_dst (N := 1) rfl ?_); refine box_event ?hg (N := 1) ?hd (cs := #[.slice A0_0 l0_0.length c0_0]) (t := 24) ?hr ?_; (case hd => rfl); (case hg => rfl); (case hr => first | (go_simp; done) | (go_simp; rfl)); intro gb309 hg w12 hbox hb; have n0_ := Aside0.mk (below_step (by repeat (first | (with_reducible first | exact HB.out | apply below_alloc | apply pw_below_drewN | apply below_drew1) | exact HB.out)) hb); have n1_ := Aside0.mk (hbox); have n2_ := Aside0.mk ((by rw [hg]; exact (below_size (by repeat (first | (with_reducible first | exact HB.out | apply below_alloc | apply pw_below_drewN | apply below_drew1) | exact HB.out))) : w.heap.size ≤ gb309)); have n3_ := Aside0.mk ((by rw [hg]; exact (below_size (by repeat (first | (with_reducible first | exact HB.out | apply below_alloc | apply pw_below_drewN | apply below_drew1) | exact HB.out))) : w.heap.size ≤ gb309)); clear HB; have HB := n0_; have BK309 := n1_; have GW309 := n2_; have GE309 := n3_; clear n0_ n1_ n2_ n3_; clear hb hbox hg; have hcz13_0 : w12.cell? ⟨gb309, 0, none⟩ = some (.slice A0_0 l0_0.length c0_0) := (blk_cell BK309.out 0).trans rfl; have hfz13_0 := blk_frozen BK309.out 0) | ((with_reducible refine gate_callee (f := 13) rfl ?_); refine goesL_ (some 11) rfl rfl Try.func13 (by kernel_rfl) rfl #[.agg #[.slice A0_0 l0_0.length c0_0], .int .i64 1048576] rfl (by (try simp only [List.map_toArray, List.map_cons, List.map_nil]); first | done | rfl | (simp only [List.length_drop, List.length_take]; rfl)) ?_; (with_reducible refine (laws_szTreap.calls k _ _ l0_0 1048576 t310 _ ?side1 ?side2 A2.out).mono ?_); (case side1 => repeat (first | exact (Kd.C_below HR0_0.out HB.out) | (with_reducible refine Kd.C_alloc ?_ _) | (with_reducible refine Kd.C_drewN ?_ _) | (with_reducible refine Kd.C_drew ?_))); (case side2 => exact HC0_0.out); rintro e w14 ⟨rfl, hb⟩; refine ⟨_, rfl, ?_⟩; have n0_ := Aside0.mk (blk_below (g := gb309) (o := .cells #[.slice A0_0 l0_0.length c0_0] 24 (0, 0)) (by (with_reducible repeat (first | refine blk_drewN ?_ _ | refine blk_drew ?_ | refine blk_alloc ?_ _)); exact BK309.out) hb); have n1_ := Aside0.mk (below_step (by repeat (first | (with_reducible first | exact HB.out | apply below_alloc | apply pw_below_drewN | apply below_drew1 | refine below_set ?_ GE309.out) | exact HB.out)) hb); clear BK309; clear HB; have BK309 := n0_; have HB := n1_; clear n0_ n1_; (try clear hb); (try clear hb2); (try clear hk); (try clear hi); have hcz15_0 : w14.cell? ⟨gb309, 0, none⟩ = some (.slice A0_0 l0_0.length c0_0) := (blk_cell BK309.out 0).trans rfl; have hfz15_0 := blk_frozen BK309.out 0) | ((with_reducible refine gate_callee (f := 15) rfl ?_); refine goesL_ (some 16) rfl rfl Try.func15 (by kernel_rfl) rfl #[.agg #[.slice A0_0 l0_0.length c0_0]] rfl (by (try simp only [List.map_toArray, List.map_cons, List.map_nil]); first | done | rfl | (simp only [List.length_drop, List.length_take]; rfl)) ?_; (with_reducible refine (laws_toTreap.calls k _ _ l0_0 t311 _ ?side1 ?side2 A7.out).mono ?_); (case side1 => repeat (first | exact (Kd.C_below HR0_0.out HB.out) | (with_reducible refine Kd.C_alloc ?_ _) | (with_reducible refine Kd.C_drewN ?_ _) | (with_reducible refine Kd.C_drew ?_))); (case side2 => exact HC0_0.out); rintro e w16 ⟨v312, rfl, ho0, hb⟩; refine ⟨_, rfl, ?_⟩; have n0_ := Aside0.mk (Kd.R_lower ho0 (below_size (by repeat (first | (with_reducible first | exact HB.out | apply below_alloc | apply pw_below_drewN | apply below_drew1 | refine below_set ?_ GE309.out) | exact HB.out)))); have n1_ := Aside0.mk (blk_below (g := gb309) (o := .cells #[.slice A0_0 l0_0.length c0_0] 24 (0, 0)) (by (with_reducible repeat (first | refine blk_drewN ?_ _ | refine blk_drew ?_ | refine blk_alloc ?_ _)); exact BK309.out) hb); have n2_ := Aside0.mk (below_step (by repeat (first | (with_reducible first | exact HB.out | apply below_alloc | apply pw_below_drewN | apply below_drew1 | refine below_set ?_ GE309.out) | exact HB.out)) hb); clear BK309; clear HB; have HO313 := n0_; have BK309 := n1_; have HB := n2_; clear n0_ n1_ n2_; (try clear hb); (try clear hb2); (try clear hk); (try clear hi); (try clear ho0); obtain ⟨Ao17, co17, eo17⟩ := Kd.R_slice HO313.out; subst eo17) | ((with_reducible refine gate_callee (f := 20) rfl ?_); refine goesL_ (some 17) rfl rfl Try.func20 (by kernel_rfl) rfl #[.agg #[.slice Ao17 t311.length co17]] rfl (by (try simp only [List.map_toArray, List.map_cons, List.map_nil]); first | done | rfl | (simp only [List.length_drop, List.length_take]; rfl)) ?_; (with_reducible refine (spec_DeepIn.calls k _ _ t311 t314 t315 _ ?side1 ?side2 A8.out).mono ?_); (case side1 => repeat (first | exact (Kd.R_reads' HO313.out).2.2 | (with_reducible refine Kd.C_alloc ?_ _) | (with_reducible refine Kd.C_drewN ?_ _) | (with_reducible refine Kd.C_drew ?_))); (case side2 => exact (Kd.R_reads' HO313.out).2.1); rintro e w18 ⟨rfl, hb⟩; refine ⟨_, rfl, ?_⟩; have n0_ := Aside0.mk (Kd.R_below (by (with_reducible repeat (first | apply Kd.R_alloc | apply Kd.R_drewN | apply Kd.R_drew)); exact HO313.out) hb); have n1_ := Aside0.mk (blk_below (g := gb309) (o := .cells #[.slice A0_0 l0_0.length c0_0] 24 (0, 0)) (by (with_reducible repeat (first | refine blk_drewN ?_ _ | refine blk_drew ?_ | refine blk_alloc ?_ _)); exact BK309.out) hb); have n2_ := Aside0.mk (below_step (by repeat (first | (with_reducible first | exact HB.out | apply below_alloc | apply pw_below_drewN | apply below_drew1 | refine below_set ?_ GE309.out) | exact HB.out)) hb); clear HO313; clear BK309; clear HB; have HO313 := n0_; have BK309 := n1_; have HB := n2_; clear n0_ n1_ n2_; (try clear hb); (try clear hb2); (try clear hk); (try clear hi); have hcz19_0 : w18.cell? ⟨gb309, 0, none⟩ = some (.slice A0_0 l0_0.length c0_0) := (blk_cell BK309.out 0).trans rfl; have hfz19_0 := blk_frozen BK309.out 0) | ((with_reducible refine gate_callee (f := 15) rfl ?_); refine goesL_ (some 21) rfl rfl Try.func15 (by kernel_rfl) rfl #[.agg #[.slice A0_0 l0_0.length c0_0]] rfl (by (try simp only [List.map_toArray, List.map_cons, List.map_nil]); first | done | rfl | (simp only [List.length_drop, List.length_take]; rfl)) ?_; (with_reducible refine (laws_toTreap.calls k _ _ l0_0 t316 _ ?side1 ?side2 A9.out).mono ?_); (case side1 => repeat (first | exact (Kd.C_below HR0_0.out HB.out) | (with_reducible refine Kd.C_alloc ?_ _) | (with_reducible refine Kd.C_drewN ?_ _) | (with_reducible refine Kd.C_drew ?_))); (case side2 => exact HC0_0.out); rintro e w20 ⟨v317, rfl, ho0, hb⟩; refine ⟨_, rfl, ?_⟩; have n0_ := Aside0.mk (Kd.R_elder' (by (with_reducible repeat (first | apply Kd.R_alloc | apply Kd.R_drewN | apply Kd.R_drew)); exact HO313.out) (Kd.R_base ho0) hb); have n1_ := Aside0.mk (Kd.R_lower (Kd.R_new' ho0 (Kd.R_lt (by (with_reducible repeat (first | apply Kd.R_alloc | apply Kd.R_drewN | apply Kd.R_drew)); exact HO313.out))) (below_size (by repeat (first | (with_reducible first | exact HB.out | apply below_alloc | apply pw_below_drewN | apply below_drew1 | refine below_set ?_ GE309.out) | exact HB.out)))); have n2_ := Aside0.mk (blk_below (g := gb309) (o := .cells #[.slice A0_0 l0_0.length c0_0] 24 (0, 0)) (by (with_reducible repeat (first | refine blk_drewN ?_ _ | refine blk_drew ?_ | refine blk_alloc ?_ _)); exact BK309.out) hb); have n3_ := Aside0.mk (below_step (by repeat (first | (with_reducible first | exact HB.out | apply below_alloc | apply pw_below_drewN | apply below_drew1 | refine below_set ?_ GE309.out) | exact HB.out)) hb); clear HO313; clear BK309; clear HB; have HO313 := n0_; have HO318 := n1_; have BK309 := n2_; have HB := n3_; clear n0_ n1_ n2_ n3_; (try clear hb); (try clear hb2); (try clear hk); (try clear hi); (try clear ho0)) | ((with_reducible refine gate_dst (N := 6) rfl ?_); refine box_event ?hg (N := 6) ?hd (cs := #[.slice none 0 0]) (t := 29) ?hr ?_; (case hd => rfl); (case hg => rfl); (case hr => first | (go_simp; done) | (go_simp; rfl)); intro gb319 hg w21 hbox hb; have n0_ := Aside0.mk (Kd.R_below (by (with_reducible repeat (first | apply Kd.R_alloc | apply Kd.R_drewN | apply Kd.R_drew)); exact HO313.out) hb); have n1_ := Aside0.mk (Kd.R_below (by (with_reducible repeat (first | apply Kd.R_alloc | apply Kd.R_drewN | apply Kd.R_drew)); exact HO318.out) hb); have n2_ := Aside0.mk (blk_below (g := gb309) (o := .cells #[.slice A0_0 l0_0.length c0_0] 24 (0, 0)) (by (with_reducible repeat (first | refine blk_drewN ?_ _ | refine blk_drew ?_ | refine blk_alloc ?_ _)); exact BK309.out) hb); have n3_ := Aside0.mk (below_step (by repeat (first | (with_reducible first | exact HB.out | apply below_alloc | apply pw_below_drewN | apply below_drew1 | refine below_set ?_ GE309.out) | exact HB.out)) hb); have n4_ := Aside0.mk (hbox); have n5_ := Aside0.mk ((by rw [hg]; exact (below_size (by repeat (first | (with_reducible first | exact HB.out | apply below_alloc | apply pw_below_drewN | apply below_drew1 | refine below_set ?_ GE309.out) | exact HB.out))) : w.heap.size ≤ gb319)); have n6_ := Aside0.mk ((by rw [hg]; exact (below_size (by repeat (first | (with_reducible first | exact HB.out | apply below_alloc | apply pw_below_drewN | apply below_drew1 | refine below_set ?_ GE309.out) | exact HB.out))) : w.heap.size ≤ gb319)); have n7_ := Aside0.mk ((by rw [hg]; exact Nat.ne_of_lt (blk_lt (g := gb309) (o := .cells #[.slice A0_0 l0_0.length c0_0] 24 (0, 0)) (by (with_reducible repeat (first | refine blk_drewN ?_ _ | refine blk_drew ?_ | refine blk_alloc ?_ _)); exact BK309.out)) : gb309 ≠ gb319)); have n8_ := Aside0.mk ((by rw [hg]; exact Nat.ne_of_gt (blk_lt (g := gb309) (o := .cells #[.slice A0_0 l0_0.length c0_0] 24 (0, 0)) (by (with_reducible repeat (first | refine blk_drewN ?_ _ | refine blk_drew ?_ | refine blk_alloc ?_ _)); exact BK309.out)) : gb319 ≠ gb309)); clear HO313; clear HO318; clear BK309; clear HB; have HO313 := n0_; have HO318 := n1_; have BK309 := n2_; have HB := n3_; have BK319 := n4_; have GW319 := n5_; have GE319 := n6_; have NB309_319 := n7_; have NB319_309 := n8_; clear n0_ n1_ n2_ n3_ n4_ n5_ n6_ n7_ n8_; clear hb hbox hg; obtain ⟨Ao22, co22, eo22⟩ := Kd.R_slice HO318.out; subst eo22; have hnb23 := NB319_309.out; have hnc23 := NB309_319.out; have hcz24_0 : w21.cell? ⟨gb319, 0, none⟩ = some (.slice none 0 0) := (blk_cell BK319.out 0).trans rfl; have hfz24_0 := blk_frozen BK319.out 0) | ((with_reducible refine gate_callee (f := 21) rfl ?_); refine goesL_ (some 24) rfl rfl Try.func21 (by kernel_rfl) rfl #[.agg #[.slice Ao22 t316.length co22]] rfl (by (try simp only [List.map_toArray, List.map_cons, List.map_nil]); first | done | rfl | (simp only [List.length_drop, List.length_take]; rfl)) ?_; (with_reducible refine (impl_DeepIn.calls _ _ t316 t320 t321 _ ?side1 ?side2 A10.out).mono ?_); (case side1 => refine (Kd.R_reads' (e := 71) (base := w.heap.size) (ok := fun k_ => (True ∧ some k_ ≠ (.slice Ao17 t311.length co17 : Value).ownBlock)) (n := t316.length) (c := co22) ?_).2.2; exact (by (with_reducible repeat (first | apply Kd.R_alloc | apply Kd.R_drewN | apply Kd.R_drew)); exact (Kd.R_mono (Kd.R_far (p := ⟨gb319, 0, none⟩) (Kd.R_types HO318.out BK319.out (by decide)) (fun _ hk => hk.2) (.slice Ao22 t316.length co22)) (fun _ h_ => h_.1)))); (case side2 => exact (Kd.R_reads' HO318.out).2.1); rintro e w25 ⟨rfl, hb⟩; refine ⟨_, rfl, ?_⟩; have n0_ := Aside0.mk (Kd.R_below (by (with_reducible repeat (first | apply Kd.R_alloc | apply Kd.R_drewN | apply Kd.R_drew)); exact (Kd.R_mono (Kd.R_far (p := ⟨gb319, 0, none⟩) (Kd.R_types HO313.out BK319.out (by decide)) (fun _ hk => hk.2) (.slice Ao22 t316.length co22)) (fun _ h_ => h_.1))) hb); have n1_ := Aside0.mk (Kd.R_below (by (with_reducible repeat (first | apply Kd.R_alloc | apply Kd.R_drewN | apply Kd.R_drew)); exact (Kd.R_mono (Kd.R_far (p := ⟨gb319, 0, none⟩) (Kd.R_types HO318.out BK319.out (by decide)) (fun _ hk => hk.2) (.slice Ao22 t316.length co22)) (fun _ h_ => h_.1))) hb); have n2_ := Aside0.mk (blk_below (g := gb309) (o := .cells #[.slice A0_0 l0_0.length c0_0] 24 (0, 0)) (by (with_reducible repeat (first | refine blk_drewN ?_ _ | refine blk_drew ?_ | refine blk_alloc ?_ _)); refine blk_far ?_ NB309_319.out _; (with_reducible repeat (first | refine blk_drewN ?_ _ | refine blk_drew ?_ | refine blk_alloc ?_ _)); exact BK309.out) hb); have n3_ := Aside0.mk (blk_below (g := gb319) (o := .cells #[.slice Ao22 t316.length co22] 29 (0, 0)) (by (with_reducible repeat (first | refine blk_drewN ?_ _ | refine blk_drew ?_ | refine blk_alloc ?_ _)); refine blk_put (cs := #[.slice none 0 0]) ?_ 0 _ rfl; (with_reducible repeat (first | refine blk_drewN ?_ _ | refine blk_drew ?_ | refine blk_alloc ?_ _)); exact BK319.out) hb); have n4_ := Aside0.mk (below_step (by repeat (first | (with_reducible first | exact HB.out | apply below_alloc | apply pw_below_drewN | apply below_drew1 | refine below_set ?_ GE309.out | refine below_set ?_ GE319.out) | exact HB.out)) hb); clear HO313; clear HO318; clear BK309; clear BK319; clear HB; have HO313 := n0_; have HO318 := n1_; have BK309 := n2_; have BK319 := n3_; have HB := n4_; clear n0_ n1_ n2_ n3_ n4_; (try clear hb); (try clear hb2); (try clear hk); (try clear hi)))
    (try simp only [Act.put, List.setIfInBounds_toArray, List.set_cons_zero, List.set_cons_succ])
    go_cut [34] (fun v34 wc => ∃ (kq : Nat) (x34_10 : Bool), v34 = .bool x34_10 ∧ Aside0 (laws_FnExactDeepIn.j0 kq x34_10 l0_0 t316 = some r) ∧ Aside0 (kq ≤ k) ∧ Aside0 (Kd.R k71 71 wc w.heap.size (fun _ => True) (.slice Ao22 t316.length co22) t316) ∧ Aside0 (wc.heap[gb309]? = some (.cells #[(.slice A0_0 l0_0.length c0_0)] 24 (0, 0))) ∧ Aside0 (wc.heap[gb319]? = some (.cells #[(.slice Ao22 t316.length co22)] 29 (0, 0))) ∧ Aside0 (Below w.heap.size w wc))
    case first =>
      have H := HC11.out
      clear HC11
      by_cases c26 : t320 = t314
      · rw [if_pos c26] at H
        have c26b0 : (t320 == t314) = true := beq_iff_eq.mpr c26
        have c26b1 : (t320 != t314) = false := bne_eq_false_iff_eq.mpr c26
        clear c26
        (first | rw [c26b0] | (simp only [i64_w, i32_w]; rw [c26b0]) | skip)
        have H' := Aside0.mk H
        clear H
        go_wp2
        go_meet
        case rel => exact ⟨_, ((t321 != t315)), (by first | rfl | (simp; done) | (simp [*]; done)), H', ⟨by first | omega | exact Nat.le_refl _⟩, ⟨by (with_reducible repeat (first | apply Kd.R_alloc | apply Kd.R_drewN | apply Kd.R_drew)); exact Kd.R_mono HO318.out (fun _ hk => trivial)⟩, ⟨by (with_reducible repeat (first | refine blk_drewN ?_ _ | refine blk_drew ?_ | refine blk_alloc ?_ _)); exact BK309.out⟩, ⟨by (with_reducible repeat (first | refine blk_drewN ?_ _ | refine blk_drew ?_ | refine blk_alloc ?_ _)); exact BK319.out⟩, ⟨by repeat (first | (with_reducible first | exact HB.out | apply below_alloc | apply pw_below_drewN | apply below_drew1 | refine below_set ?_ GE309.out | refine below_set ?_ GE319.out) | exact HB.out)⟩⟩
      · rw [if_neg c26] at H
        have c26b0 : (t320 == t314) = false := beq_eq_false_iff_ne.mpr c26
        have c26b1 : (t320 != t314) = true := bne_iff_ne.mpr c26
        (first | rw [c26b0] | (simp only [i64_w, i32_w]; rw [c26b0]) | skip)
        have H' := Aside0.mk H
        clear H
        go_wp2
        go_meet
        case rel => exact ⟨_, (true), (by first | rfl | (simp; done) | (simp [*]; done)), H', ⟨by first | omega | exact Nat.le_refl _⟩, ⟨by (with_reducible repeat (first | apply Kd.R_alloc | apply Kd.R_drewN | apply Kd.R_drew)); exact Kd.R_mono HO318.out (fun _ hk => trivial)⟩, ⟨by (with_reducible repeat (first | refine blk_drewN ?_ _ | refine blk_drew ?_ | refine blk_alloc ?_ _)); exact BK309.out⟩, ⟨by (with_reducible repeat (first | refine blk_drewN ?_ _ | refine blk_drew ?_ | refine blk_alloc ?_ _)); exact BK319.out⟩, ⟨by repeat (first | (with_reducible first | exact HB.out | apply below_alloc | apply pw_below_drewN | apply below_drew1 | refine below_set ?_ GE309.out | refine below_set ?_ GE319.out) | exact HB.out)⟩⟩
    case rest =>
      clear HC11
      try clear c1
      try clear c2
      try clear p2
      try clear c3
      try clear c3b0
      try clear c5
      try clear c13
      try clear c15
      try clear c20
      try clear c21
      try clear c23
      try clear c26
      try clear c26b0
      try clear c26b1
      try clear hcz13_0
      try clear hcz15_0
      try clear hcz19_0
      try clear hcz24_0
      try clear hcz5_0
      try clear hfz13_0
      try clear hfz15_0
      try clear hfz19_0
      try clear hfz24_0
      try clear hfz5_0
      obtain ⟨kq, x34_10, rfl, HA, HJ10, HO_320000, BK309, BK319, HB⟩ := hcut
      cases kq with
      | zero => exact absurd HA.out (by simp [laws_FnExactDeepIn.j0])
      | succ kj10 =>
        have H := HA.out
        clear HA
        simp only [laws_FnExactDeepIn.j0] at H
        by_cases c27 : x34_10 = true
        · subst c27
          have H1 : (some false) = some r := by rw [if_pos rfl] at H; exact H
          clear H
          have H := H1
          clear H1
          obtain rfl := Option.some.inj H
          go_wp2
          go_ret
          exact ⟨by first | rfl | (simp [errW_none, errW_some] <;> rfl) | (simp [*, errW_none, errW_some] <;> rfl), by repeat (first | (with_reducible first | exact HB.out | apply below_alloc | apply pw_below_drewN | apply below_drew1 | refine below_set ?_ GE309.out | refine below_set ?_ GE319.out) | exact HB.out)⟩
        · replace c27 := Bool.eq_false_iff.mpr c27
          subst c27
          have H1 : ((laws_toTreap.f kj10 l0_0).bind fun t322 => ((laws_eqTreap.f kj10 t316 t322).bind fun t325 => (if t325 = true then (some true) else (some false)))) = some r := by rw [if_neg (show ¬ (false = true) by decide)] at H; exact H
          clear H
          have H := H1
          clear H1
          replace H := Option.bind_eq_some_iff.mp H
          obtain ⟨t322, A280, H⟩ := H
          replace H : ((laws_eqTreap.f kj10 t316 t322).bind fun t325 => (if t325 = true then (some true) else (some false))) = some r := H
          have A28 := Aside0.mk A280
          clear A280
          replace H := Option.bind_eq_some_iff.mp H
          obtain ⟨t325, A290, H⟩ := H
          replace H : (if t325 = true then (some true) else (some false)) = some r := H
          have A29 := Aside0.mk A290
          clear A290
          by_cases c30 : t325 = true
          · subst c30
            have H1 : (some true) = some r := by rw [if_pos rfl] at H; exact H
            clear H
            have H := H1
            clear H1
            obtain rfl := Option.some.inj H
            try go_wp2
            have n0_ := Aside0.mk (Kd.R_drew HO_320000.out)
            have n1_ := Aside0.mk (blk_drew BK309.out)
            have n2_ := Aside0.mk (blk_drew BK319.out)
            have n3_ := Aside0.mk (below_drew1 HB.out)
            clear HO_320000
            clear BK309
            clear BK319
            clear HB
            have HO_320000 := n0_
            have BK309 := n1_
            have BK319 := n2_
            have HB := n3_
            clear n0_ n1_ n2_ n3_
            refine start_ (n := 5) (S := fun w' => w'.cell? ⟨gb319, 0, none⟩ = some (.slice Ao22 t316.length co22) ∧ w'.cell? ⟨gb309, 0, none⟩ = some (.slice A0_0 l0_0.length c0_0)) (ds := []) #[false, false, false, false, false] (by kernel_rfl) rfl rfl ⟨(blk_cell BK319.out 0).trans rfl, (blk_cell BK309.out 0).trans rfl⟩ (fun hHeld => ?_)
            generalize wc.drew = w31 at HO_320000 BK309 BK319 HB hHeld ⊢
            refine take_ (i := 0) (N := some 35) (v := ?_) (a' := ?_) #[true, false, false, false, false] rfl rfl (by kernel_rfl) (fun _ _ _ h => h) (Or.inl ⟨by rfl, ?_⟩) hHeld ?_ ?_
            rotate_left
            · rintro w' ⟨s0, s1⟩
              go_simp
              with_reducible rfl
            rotate_left
            · simp only [Act.put, List.setIfInBounds_toArray, List.set_cons_zero, List.set_cons_succ, i64_w, i32_w]
              rfl
            refine take_ (i := 1) (N := some 36) (v := ?_) (a' := ?_) #[true, true, false, false, false] rfl rfl (by kernel_rfl) (fun _ _ _ h => h) (Or.inl ⟨by rfl, ?_⟩) hHeld ?_ ?_
            rotate_left
            · rintro w' ⟨s0, s1⟩
              go_simp
              with_reducible rfl
            rotate_left
            · simp only [Act.put, List.setIfInBounds_toArray, List.set_cons_zero, List.set_cons_succ, i64_w, i32_w]
              rfl
            refine one_ (i := 2) (N := some 37) #[true, true, true, false, false] rfl rfl (by kernel_rfl) (by decide) (fun K hK => ?_)
            refine goes_ Try.func15 (by kernel_rfl) rfl #[.agg #[.slice A0_0 l0_0.length c0_0]] (by rfl) rfl rfl (by (try simp only [List.map_toArray, List.map_cons, List.map_nil]); first | done | rfl | (simp only [List.length_drop, List.length_take]; rfl)) ?_
            with_reducible refine (laws_toTreap.calls kj10 _ _ l0_0 t322 _ ?side1 ?side2 A28.out).mono ?_
            (case side1 => repeat (first | exact (Kd.C_below HR0_0.out HB.out) | (with_reducible refine Kd.C_alloc ?_ _) | (with_reducible refine Kd.C_drewN ?_ _) | (with_reducible refine Kd.C_drew ?_)))
            (case side2 => exact HC0_0.out)
            rintro e w32 ⟨v323, rfl, ho0, hb⟩
            refine ⟨_, rfl, ?_⟩
            have n0_ := Aside0.mk (Kd.R_elder' (by (with_reducible repeat (first | apply Kd.R_alloc | apply Kd.R_drewN | apply Kd.R_drew)); exact HO_320000.out) (Kd.R_base ho0) hb)
            have n1_ := Aside0.mk (Kd.R_lower (Kd.R_new' ho0 (Kd.R_lt (by (with_reducible repeat (first | apply Kd.R_alloc | apply Kd.R_drewN | apply Kd.R_drew)); exact HO_320000.out))) (below_size (by repeat (first | (with_reducible first | exact HB.out | apply below_alloc | apply pw_below_drewN | apply below_drew1 | refine below_set ?_ GE309.out | refine below_set ?_ GE319.out) | exact HB.out))))
            have n2_ := Aside0.mk (blk_below (g := gb309) (o := .cells #[.slice A0_0 l0_0.length c0_0] 24 (0, 0)) (by (with_reducible repeat (first | refine blk_drewN ?_ _ | refine blk_drew ?_ | refine blk_alloc ?_ _)); exact BK309.out) hb)
            have n3_ := Aside0.mk (blk_below (g := gb319) (o := .cells #[.slice Ao22 t316.length co22] 29 (0, 0)) (by (with_reducible repeat (first | refine blk_drewN ?_ _ | refine blk_drew ?_ | refine blk_alloc ?_ _)); exact BK319.out) hb)
            have n4_ := Aside0.mk (below_step (by repeat (first | (with_reducible first | exact HB.out | apply below_alloc | apply pw_below_drewN | apply below_drew1 | refine below_set ?_ GE309.out | refine below_set ?_ GE319.out) | exact HB.out)) hb)
            clear HO_320000
            clear BK309
            clear BK319
            clear HB
            have HO_320000 := n0_
            have HO324 := n1_
            have BK309 := n2_
            have BK319 := n3_
            have HB := n4_
            clear n0_ n1_ n2_ n3_ n4_
            (try clear hb)
            (try clear hb2)
            (try clear hk)
            (try clear hi)
            (try clear ho0)
            obtain ⟨Ao33, co33, eo33⟩ := Kd.R_slice HO324.out
            (first | subst eo33 | (injection eo33 with f1_ f2_ f3_; have f4_ := f1_.symm; have f5_ := f3_.symm; clear f1_ f2_ f3_; subst f4_; subst f5_))
            refine hK.out _ _ ⟨(blk_cell BK319.out 0).trans rfl, (blk_cell BK309.out 0).trans rfl⟩ (fun hHeld => ?_)
            clear hK K
            refine norm_ (a' := ?_) ?_ ?_
            rotate_left
            · show Act.put _ (some 37) _ = _
              simp only [Act.put, List.setIfInBounds_toArray, List.set_cons_zero, List.set_cons_succ, i64_w, i32_w]
              rfl
            refine one_ (i := 3) (N := some 38) #[true, true, true, true, false] rfl rfl (by kernel_rfl) (by decide) (fun K hK => ?_)
            refine goes_ Try.func17 (by kernel_rfl) rfl #[.agg #[.slice Ao22 t316.length co22], .agg #[.slice Ao33 t322.length co33]] (by rfl) rfl rfl (by (try simp only [List.map_toArray, List.map_cons, List.map_nil]); first | done | rfl | (simp only [List.length_drop, List.length_take]; rfl)) ?_
            with_reducible refine (laws_eqTreap.calls kj10 _ _ t316 _ _ t322 true _ ?side1 ?side2 ?side3 ?side4 A29.out).mono ?_
            (case side1 => repeat (first | exact (Kd.R_reads' HO_320000.out).2.2 | (with_reducible refine Kd.C_alloc ?_ _) | (with_reducible refine Kd.C_drewN ?_ _) | (with_reducible refine Kd.C_drew ?_)))
            (case side2 => exact (Kd.R_reads' HO_320000.out).2.1)
            (case side3 => repeat (first | exact (Kd.R_reads' HO324.out).2.2 | (with_reducible refine Kd.C_alloc ?_ _) | (with_reducible refine Kd.C_drewN ?_ _) | (with_reducible refine Kd.C_drew ?_)))
            (case side4 => exact (Kd.R_reads' HO324.out).2.1)
            rintro e w34 ⟨rfl, hb⟩
            refine ⟨_, rfl, ?_⟩
            have n0_ := Aside0.mk (Kd.R_below (by (with_reducible repeat (first | apply Kd.R_alloc | apply Kd.R_drewN | apply Kd.R_drew)); exact HO_320000.out) hb)
            have n1_ := Aside0.mk (Kd.R_below (by (with_reducible repeat (first | apply Kd.R_alloc | apply Kd.R_drewN | apply Kd.R_drew)); exact HO324.out) hb)
            have n2_ := Aside0.mk (blk_below (g := gb309) (o := .cells #[.slice A0_0 l0_0.length c0_0] 24 (0, 0)) (by (with_reducible repeat (first | refine blk_drewN ?_ _ | refine blk_drew ?_ | refine blk_alloc ?_ _)); exact BK309.out) hb)
            have n3_ := Aside0.mk (blk_below (g := gb319) (o := .cells #[.slice Ao22 t316.length co22] 29 (0, 0)) (by (with_reducible repeat (first | refine blk_drewN ?_ _ | refine blk_drew ?_ | refine blk_alloc ?_ _)); exact BK319.out) hb)
            have n4_ := Aside0.mk (below_step (by repeat (first | (with_reducible first | exact HB.out | apply below_alloc | apply pw_below_drewN | apply below_drew1 | refine below_set ?_ GE309.out | refine below_set ?_ GE319.out) | exact HB.out)) hb)
            clear HO_320000
            clear HO324
            clear BK309
            clear BK319
            clear HB
            have HO_320000 := n0_
            have HO324 := n1_
            have BK309 := n2_
            have BK319 := n3_
            have HB := n4_
            clear n0_ n1_ n2_ n3_ n4_
            (try clear hb)
            (try clear hb2)
            (try clear hk)
            (try clear hi)
            refine hK.out _ _ ⟨(blk_cell BK319.out 0).trans rfl, (blk_cell BK309.out 0).trans rfl⟩ (fun hHeld => ?_)
            clear hK K
            refine norm_ (a' := ?_) ?_ ?_
            rotate_left
            · show Act.put _ (some 38) _ = _
              simp only [Act.put, List.setIfInBounds_toArray, List.set_cons_zero, List.set_cons_succ, i64_w, i32_w]
              rfl
            refine pure_ (i := 4) (N := some 39) (v := ?_) (a' := ?_) #[true, true, true, true, true] rfl rfl (by kernel_rfl) (fun _ _ _ h => h) (Or.inl ⟨by rfl, ?_⟩) ?_ ?_
            rotate_left
            · intro w'
              go_simp
              with_reducible rfl
            rotate_left
            · simp only [Act.put, List.setIfInBounds_toArray, List.set_cons_zero, List.set_cons_succ, i64_w, i32_w]
              rfl
            refine done_ (by kernel_rfl) ?_
            try go_wp2
            go_ret
            exact ⟨by first | rfl | (simp [errW_none, errW_some] <;> rfl) | (simp [*, errW_none, errW_some] <;> rfl), by repeat (first | (with_reducible first | exact HB.out | apply below_alloc | apply pw_below_drewN | apply below_drew1 | refine below_set ?_ GE309.out | refine below_set ?_ GE319.out) | exact HB.out)⟩
          · replace c30 := Bool.eq_false_iff.mpr c30
            subst c30
            have H1 : (some false) = some r := by rw [if_neg (show ¬ (false = true) by decide)] at H; exact H
            clear H
            have H := H1
            clear H1
            obtain rfl := Option.some.inj H
            try go_wp2
            have n0_ := Aside0.mk (Kd.R_drew HO_320000.out)
            have n1_ := Aside0.mk (blk_drew BK309.out)
            have n2_ := Aside0.mk (blk_drew BK319.out)
            have n3_ := Aside0.mk (below_drew1 HB.out)
            clear HO_320000
            clear BK309
            clear BK319
            clear HB
            have HO_320000 := n0_
            have BK309 := n1_
            have BK319 := n2_
            have HB := n3_
            clear n0_ n1_ n2_ n3_
            refine start_ (n := 5) (S := fun w' => w'.cell? ⟨gb319, 0, none⟩ = some (.slice Ao22 t316.length co22) ∧ w'.cell? ⟨gb309, 0, none⟩ = some (.slice A0_0 l0_0.length c0_0)) (ds := []) #[false, false, false, false, false] (by kernel_rfl) rfl rfl ⟨(blk_cell BK319.out 0).trans rfl, (blk_cell BK309.out 0).trans rfl⟩ (fun hHeld => ?_)
            generalize wc.drew = w35 at HO_320000 BK309 BK319 HB hHeld ⊢
            refine take_ (i := 0) (N := some 35) (v := ?_) (a' := ?_) #[true, false, false, false, false] rfl rfl (by kernel_rfl) (fun _ _ _ h => h) (Or.inl ⟨by rfl, ?_⟩) hHeld ?_ ?_
            rotate_left
            · rintro w' ⟨s0, s1⟩
              go_simp
              with_reducible rfl
            rotate_left
            · simp only [Act.put, List.setIfInBounds_toArray, List.set_cons_zero, List.set_cons_succ, i64_w, i32_w]
              rfl
            refine take_ (i := 1) (N := some 36) (v := ?_) (a' := ?_) #[true, true, false, false, false] rfl rfl (by kernel_rfl) (fun _ _ _ h => h) (Or.inl ⟨by rfl, ?_⟩) hHeld ?_ ?_
            rotate_left
            · rintro w' ⟨s0, s1⟩
              go_simp
              with_reducible rfl
            rotate_left
            · simp only [Act.put, List.setIfInBounds_toArray, List.set_cons_zero, List.set_cons_succ, i64_w, i32_w]
              rfl
            refine one_ (i := 2) (N := some 37) #[true, true, true, false, false] rfl rfl (by kernel_rfl) (by decide) (fun K hK => ?_)
            refine goes_ Try.func15 (by kernel_rfl) rfl #[.agg #[.slice A0_0 l0_0.length c0_0]] (by rfl) rfl rfl (by (try simp only [List.map_toArray, List.map_cons, List.map_nil]); first | done | rfl | (simp only [List.length_drop, List.length_take]; rfl)) ?_
            with_reducible refine (laws_toTreap.calls kj10 _ _ l0_0 t322 _ ?side1 ?side2 A28.out).mono ?_
            (case side1 => repeat (first | exact (Kd.C_below HR0_0.out HB.out) | (with_reducible refine Kd.C_alloc ?_ _) | (with_reducible refine Kd.C_drewN ?_ _) | (with_reducible refine Kd.C_drew ?_)))
            (case side2 => exact HC0_0.out)
            rintro e w36 ⟨v323, rfl, ho0, hb⟩
            refine ⟨_, rfl, ?_⟩
            have n0_ := Aside0.mk (Kd.R_elder' (by (with_reducible repeat (first | apply Kd.R_alloc | apply Kd.R_drewN | apply Kd.R_drew)); exact HO_320000.out) (Kd.R_base ho0) hb)
            have n1_ := Aside0.mk (Kd.R_lower (Kd.R_new' ho0 (Kd.R_lt (by (with_reducible repeat (first | apply Kd.R_alloc | apply Kd.R_drewN | apply Kd.R_drew)); exact HO_320000.out))) (below_size (by repeat (first | (with_reducible first | exact HB.out | apply below_alloc | apply pw_below_drewN | apply below_drew1 | refine below_set ?_ GE309.out | refine below_set ?_ GE319.out) | exact HB.out))))
            have n2_ := Aside0.mk (blk_below (g := gb309) (o := .cells #[.slice A0_0 l0_0.length c0_0] 24 (0, 0)) (by (with_reducible repeat (first | refine blk_drewN ?_ _ | refine blk_drew ?_ | refine blk_alloc ?_ _)); exact BK309.out) hb)
            have n3_ := Aside0.mk (blk_below (g := gb319) (o := .cells #[.slice Ao22 t316.length co22] 29 (0, 0)) (by (with_reducible repeat (first | refine blk_drewN ?_ _ | refine blk_drew ?_ | refine blk_alloc ?_ _)); exact BK319.out) hb)
            have n4_ := Aside0.mk (below_step (by repeat (first | (with_reducible first | exact HB.out | apply below_alloc | apply pw_below_drewN | apply below_drew1 | refine below_set ?_ GE309.out | refine below_set ?_ GE319.out) | exact HB.out)) hb)
            clear HO_320000
            clear BK309
            clear BK319
            clear HB
            have HO_320000 := n0_
            have HO324 := n1_
            have BK309 := n2_
            have BK319 := n3_
            have HB := n4_
            clear n0_ n1_ n2_ n3_ n4_
            (try clear hb)
            (try clear hb2)
            (try clear hk)
            (try clear hi)
            (try clear ho0)
            obtain ⟨Ao37, co37, eo37⟩ := Kd.R_slice HO324.out
            (first | subst eo37 | (injection eo37 with f1_ f2_ f3_; have f4_ := f1_.symm; have f5_ := f3_.symm; clear f1_ f2_ f3_; subst f4_; subst f5_))
            refine hK.out _ _ ⟨(blk_cell BK319.out 0).trans rfl, (blk_cell BK309.out 0).trans rfl⟩ (fun hHeld => ?_)
            clear hK K
            refine norm_ (a' := ?_) ?_ ?_
            rotate_left
            · show Act.put _ (some 37) _ = _
              simp only [Act.put, List.setIfInBounds_toArray, List.set_cons_zero, List.set_cons_succ, i64_w, i32_w]
              rfl
            refine one_ (i := 3) (N := some 38) #[true, true, true, true, false] rfl rfl (by kernel_rfl) (by decide) (fun K hK => ?_)
            refine goes_ Try.func17 (by kernel_rfl) rfl #[.agg #[.slice Ao22 t316.length co22], .agg #[.slice Ao37 t322.length co37]] (by rfl) rfl rfl (by (try simp only [List.map_toArray, List.map_cons, List.map_nil]); first | done | rfl | (simp only [List.length_drop, List.length_take]; rfl)) ?_
            with_reducible refine (laws_eqTreap.calls kj10 _ _ t316 _ _ t322 false _ ?side1 ?side2 ?side3 ?side4 A29.out).mono ?_
            (case side1 => repeat (first | exact (Kd.R_reads' HO_320000.out).2.2 | (with_reducible refine Kd.C_alloc ?_ _) | (with_reducible refine Kd.C_drewN ?_ _) | (with_reducible refine Kd.C_drew ?_)))
            (case side2 => exact (Kd.R_reads' HO_320000.out).2.1)
            (case side3 => repeat (first | exact (Kd.R_reads' HO324.out).2.2 | (with_reducible refine Kd.C_alloc ?_ _) | (with_reducible refine Kd.C_drewN ?_ _) | (with_reducible refine Kd.C_drew ?_)))
            (case side4 => exact (Kd.R_reads' HO324.out).2.1)
            rintro e w38 ⟨rfl, hb⟩
            refine ⟨_, rfl, ?_⟩
            have n0_ := Aside0.mk (Kd.R_below (by (with_reducible repeat (first | apply Kd.R_alloc | apply Kd.R_drewN | apply Kd.R_drew)); exact HO_320000.out) hb)
            have n1_ := Aside0.mk (Kd.R_below (by (with_reducible repeat (first | apply Kd.R_alloc | apply Kd.R_drewN | apply Kd.R_drew)); exact HO324.out) hb)
            have n2_ := Aside0.mk (blk_below (g := gb309) (o := .cells #[.slice A0_0 l0_0.length c0_0] 24 (0, 0)) (by (with_reducible repeat (first | refine blk_drewN ?_ _ | refine blk_drew ?_ | refine blk_alloc ?_ _)); exact BK309.out) hb)
            have n3_ := Aside0.mk (blk_below (g := gb319) (o := .cells #[.slice Ao22 t316.length co22] 29 (0, 0)) (by (with_reducible repeat (first | refine blk_drewN ?_ _ | refine blk_drew ?_ | refine blk_alloc ?_ _)); exact BK319.out) hb)
            have n4_ := Aside0.mk (below_step (by repeat (first | (with_reducible first | exact HB.out | apply below_alloc | apply pw_below_drewN | apply below_drew1 | refine below_set ?_ GE309.out | refine below_set ?_ GE319.out) | exact HB.out)) hb)
            clear HO_320000
            clear HO324
            clear BK309
            clear BK319
            clear HB
            have HO_320000 := n0_
            have HO324 := n1_
            have BK309 := n2_
            have BK319 := n3_
            have HB := n4_
            clear n0_ n1_ n2_ n3_ n4_
            (try clear hb)
            (try clear hb2)
            (try clear hk)
            (try clear hi)
            refine hK.out _ _ ⟨(blk_cell BK319.out 0).trans rfl, (blk_cell BK309.out 0).trans rfl⟩ (fun hHeld => ?_)
            clear hK K
            refine norm_ (a' := ?_) ?_ ?_
            rotate_left
            · show Act.put _ (some 38) _ = _
              simp only [Act.put, List.setIfInBounds_toArray, List.set_cons_zero, List.set_cons_succ, i64_w, i32_w]
              rfl
            refine pure_ (i := 4) (N := some 39) (v := ?_) (a' := ?_) #[true, true, true, true, true] rfl rfl (by kernel_rfl) (fun _ _ _ h => h) (Or.inl ⟨by rfl, ?_⟩) ?_ ?_
            rotate_left
            · intro w'
              go_simp
              with_reducible rfl
            rotate_left
            · simp only [Act.put, List.setIfInBounds_toArray, List.set_cons_zero, List.set_cons_succ, i64_w, i32_w]
              rfl
            refine done_ (by kernel_rfl) ?_
            try go_wp2
            go_ret
            exact ⟨by first | rfl | (simp [errW_none, errW_some] <;> rfl) | (simp [*, errW_none, errW_some] <;> rfl), by repeat (first | (with_reducible first | exact HB.out | apply below_alloc | apply pw_below_drewN | apply below_drew1 | refine below_set ?_ GE309.out | refine below_set ?_ GE319.out) | exact HB.out)⟩

/-- THE ONE PURE STATEMENT of laws_FnExactDeepIn. -/
def laws_FnExactDeepIn.Pure : Prop := ∀ (l0_0 : List (S99)), (l0_0.length ≤ maxLen ∧ ∀ x_ ∈ l0_0, (x_.f0.size ≤ maxLen ∧ (x_.f1.size ≤ maxLen ∧ ((Lit.int .i64 x_.f2).wf = true ∧ (Lit.int .i64 x_.f3).wf = true)))) → ∃ k, laws_FnExactDeepIn.f k l0_0 = some true
theorem laws_FnExactDeepIn.walk (P : laws_FnExactDeepIn.Pure) (A0_0 : Option Addr) (c0_0 : Nat) (l0_0 : List (S99)) (w : World) (hr0_0 : Kd.C k99 w A0_0 l0_0.length l0_0) (hc0_0 : l0_0.length ≤ c0_0) (w0_0 : (l0_0.length ≤ maxLen ∧ ∀ x_ ∈ l0_0, (x_.f0.size ≤ maxLen ∧ (x_.f1.size ≤ maxLen ∧ ((Lit.int .i64 x_.f2).wf = true ∧ (Lit.int .i64 x_.f3).wf = true))))) :
    Calls Try.prog 5 #[.agg #[.slice A0_0 l0_0.length c0_0]] w fun e w' => e = .returned (.bool true) ∧ Below w.heap.size w w' := by
  obtain ⟨k, h⟩ := P l0_0 w0_0
  refine (laws_FnExactDeepIn.calls k _ _ l0_0 true w hr0_0 hc0_0 h).mono ?_
  rintro e w' ⟨rfl, hd⟩
  exact ⟨rfl, hd⟩

end Go.Proofs.Ytjknkeipginpcaa.PQ
end

section
/- The law FnExactDeepIn returns true at every treap. No conditions. -/
namespace Go.Proofs.Ytjknkeipginpcaa.Pure
open Go.RowKit Go.Proofs.Ytjknkeipginpcaa.PQ Go.Proofs.YtjknkeipginpcaaW.PrintWords Go.Proofs.YtjknkeipginpcaaW.PrintLast Go.Proofs.Ytjknkeipginpcaa.Pre Go.Proofs.Ytjknkeipginpcaa.TrG Go.Proofs.Ytjknkeipginpcaa.Tr Go.Proofs.Ytjknkeipginpcaa.Po

theorem deepS_ev (L : List Lb) (hL : L.length ≤ 60) (hch : ∀ (i : Nat) (hi : i < L.length), (L[i].f2 = -1 ∨ ((i : Int) < L[i].f2 ∧ L[i].f2 < (L.length : Int))) ∧ (L[i].f3 = -1 ∨ ((i : Int) < L[i].f3 ∧ L[i].f3 < (L.length : Int)))) : ∀ (f : Nat) (k1 : Int), f ≤ 60 → (k1 = -1 ∨ (0 ≤ k1 ∧ k1 < (L.length : Int) ∧ (L.length : Int) - k1 ≤ (f : Int))) → Evt (fun k => spec_l7Deep.f k L k1) (dp L f k1) := by
  intro f
  induction f with
  | zero =>
    intro k1 hf hk
    obtain rfl : k1 = -1 := hk.elim id (fun h => by omega)
    exact Evt.step (fun k => spec_l7Deep.f.eq_2 _ _ k) (Evt.pos (by omega) (Evt.const _))
  | succ f ih =>
    intro k1 hf hk
    by_cases hk1 : k1 = -1
    · subst hk1
      rw [dp_neg L _ _ (by omega)]
      exact Evt.step (fun k => spec_l7Deep.f.eq_2 _ _ k) (Evt.pos (by omega) (Evt.const _))
    · obtain ⟨h0, h1, h2⟩ := hk.resolve_left hk1
      obtain ⟨i, rfl⟩ := Int.eq_ofNat_of_zero_le h0
      have hi : i < L.length := by omega
      have hc2 := hch i hi
      rw [← rdL L i hi] at hc2
      have i1 := ih (rd_T71 L (i : Int)).f2 (by omega) (hc2.1.imp id (fun h => by omega))
      have i2 := ih (rd_T71 L (i : Int)).f3 (by omega) (hc2.2.imp id (fun h => by omega))
      have b1 := dp_bd L f (rd_T71 L (i : Int)).f2
      have b2 := dp_bd L f (rd_T71 L (i : Int)).f3
      have ed : dp L (f + 1) (i : Int) = 1 + max (dp L f (rd_T71 L (i : Int)).f2) (dp L f (rd_T71 L (i : Int)).f3) := by
        conv => lhs; unfold dp
        rw [if_neg (by omega)]
      rw [ed]
      refine Evt.step (fun k => spec_l7Deep.f.eq_2 _ _ k) (Evt.neg (by omega) (Evt.pos (by omega) (Evt.pos (by omega) (Evt.bind i1 (Evt.bind i2 ?_)))))
      generalize dp L f (rd_T71 L (i : Int)).f2 = d1 at *
      generalize dp L f (rd_T71 L (i : Int)).f3 = d2 at *
      by_cases hd : d2 > d1
      · refine Evt.pos hd ((Evt.const _).eq ?_)
        rw [w64 (by omega) (by omega)]
        omega
      · refine Evt.neg hd ((Evt.const _).eq ?_)
        rw [w64 (by omega) (by omega)]
        omega
theorem deep_both (L : List Lb) (hm : L.length ≤ 1048576) : Evt (fun k => spec_DeepIn.f k L) (ansD L) := by
  unfold spec_DeepIn.f spec_GoodTreap.f ansD
  rcases both L with ⟨l, hg, h1, h2⟩ | ⟨h1, _, h2⟩
  · have h60 : L.length ≤ 60 := by have := hg.len; have := hg.1; omega
    refine Evt.bind (Evt.bind h2 (Evt.const _)) (Evt.pos rfl ?_)
    rw [h1, if_pos rfl]
    by_cases h0 : L.length = 0
    · rw [if_pos h0]
      exact Evt.pos (by omega) (Evt.const _)
    · rw [if_neg h0]
      exact Evt.neg (by omega) (Evt.bind (deepS_ev L h60 (child_in hg) L.length 0 h60 (.inr ⟨by omega, by omega, by omega⟩)) (Evt.const _))
  · rw [if_neg (by rw [h1]; decide)]
    exact Evt.bind (Evt.bind h2 (Evt.const _)) (Evt.neg (by decide) (Evt.const _))
theorem FnExactDeepIn : laws_FnExactDeepIn.Pure := by
  intro l hw
  refine Evt.ex (r := true) ?_
  obtain ⟨t, ht, h2⟩ := sz_ev l hw.1 (fun x hx => ⟨(hw.2 x hx).1, (hw.2 x hx).2.1⟩)
  unfold laws_FnExactDeepIn.f
  refine Evt.bind ht ?_
  by_cases hc : t < 0
  · exact Evt.pos hc (Evt.const _)
  · refine Evt.neg hc ?_
    obtain ⟨hl, _⟩ := h2 (by omega)
    have hto := to_ev l hl
    have hm : (l.map cvL).length ≤ 1048576 := by rw [List.length_map]; exact hl
    generalize l.map cvL = L at hto hm
    refine Evt.bind hto (Evt.bind (deep_both L hm) (Evt.bind hto ?_))
    rw [show impl_DeepIn.f L = some (ansD L) from if_pos hm]
    refine Evt.bsome (Evt.pos rfl ?_)
    first | exact Evt.pos rfl (Evt.bind hto (Evt.bind (eq_ev L hm) (Evt.pos rfl (Evt.const _)))) | exact Evt.neg (by simp) (Evt.bind hto (Evt.bind (eq_ev L hm) (Evt.pos rfl (Evt.const _)))) | exact Evt.step (fun k => laws_FnExactDeepIn.j0.eq_2 _ _ _ k) (Evt.neg (by simp) (Evt.bind hto (Evt.bind (eq_ev L hm) (Evt.pos rfl (Evt.const _)))))
end Go.Proofs.Ytjknkeipginpcaa.Pure
end
