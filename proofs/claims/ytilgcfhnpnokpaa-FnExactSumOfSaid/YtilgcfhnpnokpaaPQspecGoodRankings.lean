-- Written by a program of this session (pprint.py) out of the translation's print; Lean checks it.
import Derived.Test.YtilgcfhnpnokpaaPQx0
import Derived.Test.YtilgcfhnpnokpaaPQspecl1In
import Derived.Test.YtilgcfhnpnokpaaPQspecl11Less
namespace Go.Proofs.Ytilgcfhnpnokpaa.PQ
open Go.RowKit Go.Proofs.YtilgcfhnpnokpaaW.PrintWords Go.Proofs.YtilgcfhnpnokpaaW.PrintLast Go.Proofs.YtilgcfhnpnokpaaW.PrintMore
attribute [local go_sem] max2_int min2_int max_two min_two max_three min_three max_four min_four   -- for this text's walks alone
set_option linter.unusedVariables false
set_option linter.unusedSimpArgs false

/-! ### spec_GoodRankings: function 39 -/
mutual
def spec_GoodRankings.l0 : Nat → List (S108) → List (S108) → Int → Int → Option (Bool)
  | 0, _, _, _, _ => none
  | k + 1, x0, x9, x10, x11 => if x11 < x10 then (if 0 ≤ x11 then (if x11 < (x9.length : Int) then (spec_GoodRankings.l1 k x0 x9 x10 x11 ((rd_T108 x9 x11).f0) (((rd_T108 x9 x11).f0).length : Int) 0 ((rd_T108 x9 x11).f0)) else (none)) else (none)) else (some (decide ((x0.length : Int) ≤ 5)))
def spec_GoodRankings.l1 : Nat → List (S108) → List (S108) → Int → Int → List (S110) → Int → Int → List (S110) → Option (Bool)
  | 0, _, _, _, _, _, _, _, _ => none
  | k + 1, x0, x9, x10, x11, x16, x17, x18, x331000 => if x18 < x17 then (if 0 ≤ x18 then (if x18 < (x16.length : Int) then ((spec_l1In.f ((rd_T110 x16 x18).f1) 1 1000000).bind fun t333 => (if t333 = true then ((spec_l1In.f ((rd_T110 x16 x18).f0) 0 1000).bind fun t334 => (spec_GoodRankings.j2 k x0 x18 x9 x10 x11 x16 x17 x18 (!t334) x331000 ((rd_T110 x16 x18).f0) ((rd_T110 x16 x18).f1))) else (spec_GoodRankings.j2 k x0 x18 x9 x10 x11 x16 x17 x18 true x331000 ((rd_T110 x16 x18).f0) ((rd_T110 x16 x18).f1)))) else (none)) else (none)) else (if (x331000.length : Int) > 60 then (some false) else (spec_GoodRankings.l0 k x0 x9 x10 (wrap64 (x11 + 1))))
def spec_GoodRankings.j2 : Nat → List (S108) → Int → List (S108) → Int → Int → List (S110) → Int → Int → Bool → List (S110) → Int → Int → Option (Bool)
  | 0, _, _, _, _, _, _, _, _, _, _, _, _ => none
  | k + 1, x0, x5, x9, x10, x11, x16, x17, x18, x32, x331000, x333000, x333001 => if x32 = true then (some false) else (if x5 > 0 then (if 0 ≤ (wrap64 (x5 - 1)) then (if (wrap64 (x5 - 1)) < (x331000.length : Int) then ((spec_l11Less.f ((rd_T110 x331000 (wrap64 (x5 - 1))).f0) ((rd_T110 x331000 (wrap64 (x5 - 1))).f1) x333000 x333001).bind fun t336 => (spec_GoodRankings.j3 k x0 x5 x9 x10 x11 x16 x17 x18 (!t336) x331000 x333000 x333001)) else (none)) else (none)) else (spec_GoodRankings.j3 k x0 x5 x9 x10 x11 x16 x17 x18 false x331000 x333000 x333001))
def spec_GoodRankings.j3 : Nat → List (S108) → Int → List (S108) → Int → Int → List (S110) → Int → Int → Bool → List (S110) → Int → Int → Option (Bool)
  | 0, _, _, _, _, _, _, _, _, _, _, _, _ => none
  | k + 1, x0, x5, x9, x10, x11, x16, x17, x18, x45, x331000, x333000, x333001 => if x45 = true then (some false) else (if 0 ≤ x5 then (if x5 ≤ (x331000.length : Int) then ((some (x331000.take (x5 : Int).toNat : List (S110))).bind fun y337 => (spec_GoodRankings.l2 k x0 x9 x10 x11 x16 x17 x18 y337 (y337.length : Int) 0 x331000 x333000 x333001)) else (none)) else (none))
def spec_GoodRankings.l2 : Nat → List (S108) → List (S108) → Int → Int → List (S110) → Int → Int → List (S110) → Int → Int → List (S110) → Int → Int → Option (Bool)
  | 0, _, _, _, _, _, _, _, _, _, _, _, _, _ => none
  | k + 1, x0, x9, x10, x11, x16, x17, x18, x49, x50, x51, x331000, x333000, x333001 => if x51 < x50 then (if 0 ≤ x51 then (if x51 < (x49.length : Int) then (if ((rd_T110 x49 x51).f0) = x333000 then (some false) else (spec_GoodRankings.l2 k x0 x9 x10 x11 x16 x17 x18 x49 x50 (wrap64 (x51 + 1)) x331000 x333000 x333001)) else (none)) else (none)) else (spec_GoodRankings.l1 k x0 x9 x10 x11 x16 x17 (wrap64 (x18 + 1)) x331000)
end
def spec_GoodRankings.f (k : Nat) (l0 : List (S108)) : Option (Bool) := spec_GoodRankings.l0 k l0 l0 (l0.length : Int) 0
theorem spec_GoodRankings.mono_l : ∀ k, (∀ y0 y1 y2 y3, LeO (spec_GoodRankings.l0 k y0 y1 y2 y3) (spec_GoodRankings.l0 (k + 1) y0 y1 y2 y3)) ∧ (∀ y0 y1 y2 y3 y4 y5 y6 y7, LeO (spec_GoodRankings.l1 k y0 y1 y2 y3 y4 y5 y6 y7) (spec_GoodRankings.l1 (k + 1) y0 y1 y2 y3 y4 y5 y6 y7)) ∧ (∀ y0 y1 y2 y3 y4 y5 y6 y7 y8 y9 y10 y11, LeO (spec_GoodRankings.j2 k y0 y1 y2 y3 y4 y5 y6 y7 y8 y9 y10 y11) (spec_GoodRankings.j2 (k + 1) y0 y1 y2 y3 y4 y5 y6 y7 y8 y9 y10 y11)) ∧ (∀ y0 y1 y2 y3 y4 y5 y6 y7 y8 y9 y10 y11, LeO (spec_GoodRankings.j3 k y0 y1 y2 y3 y4 y5 y6 y7 y8 y9 y10 y11) (spec_GoodRankings.j3 (k + 1) y0 y1 y2 y3 y4 y5 y6 y7 y8 y9 y10 y11)) ∧ (∀ y0 y1 y2 y3 y4 y5 y6 y7 y8 y9 y10 y11 y12, LeO (spec_GoodRankings.l2 k y0 y1 y2 y3 y4 y5 y6 y7 y8 y9 y10 y11 y12) (spec_GoodRankings.l2 (k + 1) y0 y1 y2 y3 y4 y5 y6 y7 y8 y9 y10 y11 y12))
  | 0 => ⟨fun _ _ _ _ r h => by simp [spec_GoodRankings.l0] at h, fun _ _ _ _ _ _ _ _ r h => by simp [spec_GoodRankings.l1] at h, fun _ _ _ _ _ _ _ _ _ _ _ _ r h => by simp [spec_GoodRankings.j2] at h, fun _ _ _ _ _ _ _ _ _ _ _ _ r h => by simp [spec_GoodRankings.j3] at h, fun _ _ _ _ _ _ _ _ _ _ _ _ _ r h => by simp [spec_GoodRankings.l2] at h⟩
  | k + 1 => by
    obtain ⟨ih0, ih1, ih2, ih3, ih4⟩ := spec_GoodRankings.mono_l k
    refine ⟨?_, ?_, ?_, ?_, ?_⟩
    · intro y0 y1 y2 y3
      unfold spec_GoodRankings.l0
      repeat' first
      | (with_reducible exact ih0 _ _ _ _)
      | (with_reducible exact ih1 _ _ _ _ _ _ _ _)
      | (with_reducible exact ih2 _ _ _ _ _ _ _ _ _ _ _ _)
      | (with_reducible exact ih3 _ _ _ _ _ _ _ _ _ _ _ _)
      | (with_reducible exact ih4 _ _ _ _ _ _ _ _ _ _ _ _ _)
      | (with_reducible exact LeO.refl _)
      | (with_reducible exact LeO.none _)
      | (with_reducible refine LeO.ite ?_ ?_)
      | (with_reducible refine LeO.bind ?_ (fun _ => ?_))
      | exact ih0 _ _ _ _
      | exact ih1 _ _ _ _ _ _ _ _
      | exact ih2 _ _ _ _ _ _ _ _ _ _ _ _
      | exact ih3 _ _ _ _ _ _ _ _ _ _ _ _
      | exact ih4 _ _ _ _ _ _ _ _ _ _ _ _ _
      | exact LeO.none _
      | refine LeO.ite ?_ ?_
      | refine LeO.bind ?_ (fun _ => ?_)
    · intro y0 y1 y2 y3 y4 y5 y6 y7
      unfold spec_GoodRankings.l1
      repeat' first
      | (with_reducible exact ih0 _ _ _ _)
      | (with_reducible exact ih1 _ _ _ _ _ _ _ _)
      | (with_reducible exact ih2 _ _ _ _ _ _ _ _ _ _ _ _)
      | (with_reducible exact ih3 _ _ _ _ _ _ _ _ _ _ _ _)
      | (with_reducible exact ih4 _ _ _ _ _ _ _ _ _ _ _ _ _)
      | (with_reducible exact LeO.refl _)
      | (with_reducible exact LeO.none _)
      | (with_reducible refine LeO.ite ?_ ?_)
      | (with_reducible refine LeO.bind ?_ (fun _ => ?_))
      | exact ih0 _ _ _ _
      | exact ih1 _ _ _ _ _ _ _ _
      | exact ih2 _ _ _ _ _ _ _ _ _ _ _ _
      | exact ih3 _ _ _ _ _ _ _ _ _ _ _ _
      | exact ih4 _ _ _ _ _ _ _ _ _ _ _ _ _
      | exact LeO.none _
      | refine LeO.ite ?_ ?_
      | refine LeO.bind ?_ (fun _ => ?_)
    · intro y0 y1 y2 y3 y4 y5 y6 y7 y8 y9 y10 y11
      unfold spec_GoodRankings.j2
      repeat' first
      | (with_reducible exact ih0 _ _ _ _)
      | (with_reducible exact ih1 _ _ _ _ _ _ _ _)
      | (with_reducible exact ih2 _ _ _ _ _ _ _ _ _ _ _ _)
      | (with_reducible exact ih3 _ _ _ _ _ _ _ _ _ _ _ _)
      | (with_reducible exact ih4 _ _ _ _ _ _ _ _ _ _ _ _ _)
      | (with_reducible exact LeO.refl _)
      | (with_reducible exact LeO.none _)
      | (with_reducible refine LeO.ite ?_ ?_)
      | (with_reducible refine LeO.bind ?_ (fun _ => ?_))
      | exact ih0 _ _ _ _
      | exact ih1 _ _ _ _ _ _ _ _
      | exact ih2 _ _ _ _ _ _ _ _ _ _ _ _
      | exact ih3 _ _ _ _ _ _ _ _ _ _ _ _
      | exact ih4 _ _ _ _ _ _ _ _ _ _ _ _ _
      | exact LeO.none _
      | refine LeO.ite ?_ ?_
      | refine LeO.bind ?_ (fun _ => ?_)
    · intro y0 y1 y2 y3 y4 y5 y6 y7 y8 y9 y10 y11
      unfold spec_GoodRankings.j3
      repeat' first
      | (with_reducible exact ih0 _ _ _ _)
      | (with_reducible exact ih1 _ _ _ _ _ _ _ _)
      | (with_reducible exact ih2 _ _ _ _ _ _ _ _ _ _ _ _)
      | (with_reducible exact ih3 _ _ _ _ _ _ _ _ _ _ _ _)
      | (with_reducible exact ih4 _ _ _ _ _ _ _ _ _ _ _ _ _)
      | (with_reducible exact LeO.refl _)
      | (with_reducible exact LeO.none _)
      | (with_reducible refine LeO.ite ?_ ?_)
      | (with_reducible refine LeO.bind ?_ (fun _ => ?_))
      | exact ih0 _ _ _ _
      | exact ih1 _ _ _ _ _ _ _ _
      | exact ih2 _ _ _ _ _ _ _ _ _ _ _ _
      | exact ih3 _ _ _ _ _ _ _ _ _ _ _ _
      | exact ih4 _ _ _ _ _ _ _ _ _ _ _ _ _
      | exact LeO.none _
      | refine LeO.ite ?_ ?_
      | refine LeO.bind ?_ (fun _ => ?_)
    · intro y0 y1 y2 y3 y4 y5 y6 y7 y8 y9 y10 y11 y12
      unfold spec_GoodRankings.l2
      repeat' first
      | (with_reducible exact ih0 _ _ _ _)
      | (with_reducible exact ih1 _ _ _ _ _ _ _ _)
      | (with_reducible exact ih2 _ _ _ _ _ _ _ _ _ _ _ _)
      | (with_reducible exact ih3 _ _ _ _ _ _ _ _ _ _ _ _)
      | (with_reducible exact ih4 _ _ _ _ _ _ _ _ _ _ _ _ _)
      | (with_reducible exact LeO.refl _)
      | (with_reducible exact LeO.none _)
      | (with_reducible refine LeO.ite ?_ ?_)
      | (with_reducible refine LeO.bind ?_ (fun _ => ?_))
      | exact ih0 _ _ _ _
      | exact ih1 _ _ _ _ _ _ _ _
      | exact ih2 _ _ _ _ _ _ _ _ _ _ _ _
      | exact ih3 _ _ _ _ _ _ _ _ _ _ _ _
      | exact ih4 _ _ _ _ _ _ _ _ _ _ _ _ _
      | exact LeO.none _
      | refine LeO.ite ?_ ?_
      | refine LeO.bind ?_ (fun _ => ?_)
theorem spec_GoodRankings.mono : ∀ a0 k, LeO (spec_GoodRankings.f k a0) (spec_GoodRankings.f (k + 1) a0) := by
  intro a0 k
  obtain ⟨ih0, ih1, ih2, ih3, ih4⟩ := spec_GoodRankings.mono_l k
  unfold spec_GoodRankings.f
  repeat' first
      | (with_reducible exact ih0 _ _ _ _)
      | (with_reducible exact ih1 _ _ _ _ _ _ _ _)
      | (with_reducible exact ih2 _ _ _ _ _ _ _ _ _ _ _ _)
      | (with_reducible exact ih3 _ _ _ _ _ _ _ _ _ _ _ _)
      | (with_reducible exact ih4 _ _ _ _ _ _ _ _ _ _ _ _ _)
      | (with_reducible exact LeO.refl _)
      | (with_reducible exact LeO.none _)
      | (with_reducible refine LeO.ite ?_ ?_)
      | (with_reducible refine LeO.bind ?_ (fun _ => ?_))
      | exact ih0 _ _ _ _
      | exact ih1 _ _ _ _ _ _ _ _
      | exact ih2 _ _ _ _ _ _ _ _ _ _ _ _
      | exact ih3 _ _ _ _ _ _ _ _ _ _ _ _
      | exact ih4 _ _ _ _ _ _ _ _ _ _ _ _ _
      | exact LeO.none _
      | refine LeO.ite ?_ ?_
      | refine LeO.bind ?_ (fun _ => ?_)
def spec_GoodRankings.T9 : Bool × List (List Nat × List Nat) := (true, [([], []), ([0], [0]), ([1], [1]), ([2], [2]), ([3, 2], [2, 3]), ([2], [2]), ([5, 2], [2, 5]), ([4, 6, 2], [2, 4, 6]), ([7, 2], [2, 7]), ([2], [2]), ([8, 9, 2, 2], [2, 8, 9]), ([10, 2], [2, 10]), ([2, 11], [2, 11])])
def spec_GoodRankings.B9 : List Nat := [0, 1, 3, 7, 15, 7, 39, 127, 255, 7, 1023, 2047, 4095]
theorem spec_GoodRankings.tab9 : rtab .any (opsOf Try.f39 9) = spec_GoodRankings.T9 := by kernel_rfl
theorem spec_GoodRankings.bits9 : waitsOk spec_GoodRankings.T9.2 spec_GoodRankings.B9 = true := by kernel_rfl
set_option maxHeartbeats 8000000 in
set_option maxRecDepth 100000 in
theorem spec_GoodRankings.calls (k : Nat) (A0 : Option Addr) (c0 : Nat) (l0 : List (S108)) (r : Bool) (w : World) (hr0 : Kd.C k108 w A0 l0.length l0) (hc0 : l0.length ≤ c0) (h : spec_GoodRankings.f k l0 = some r) :
    Calls Try.prog 39 #[.slice A0 l0.length c0] w fun e w' => e = .returned (.bool r) ∧ Below w.heap.size w w' := by
  have hu108 := Try.underlying108
  have hu110 := Try.underlying110
  have HR0 := Aside0.mk hr0
  have HC0 := Aside0.mk hc0
  clear hr0 hc0
  have HB := Aside0.mk (Below.refl w.heap.size w)
  have H : (spec_GoodRankings.l0 k l0 l0 (l0.length : Int) 0) = some r := h
  clear h
  have H' := Aside0.mk H
  clear H
  go_enter Try.func39, Try.ntmps39
  go_wp2
  go_loopg [11] k (fun kq v11 w' => ∃ (x11_1 : Int), v11 = .int .i64 x11_1 ∧ Aside0 (spec_GoodRankings.l0 kq l0 l0 (l0.length : Int) x11_1 = some r) ∧ Aside0 (kq ≤ k) ∧ Aside0 (Below w.heap.size w w'))
  case atStart => exact ⟨(0), (by first | rfl | (simp; done) | (simp [*]; done)), H', ⟨Nat.le_refl _⟩, ⟨by repeat (first | (with_reducible first | exact HB.out | apply below_alloc | apply pw_below_drewN | apply below_drew1) | exact HB.out)⟩⟩
  case round =>
    clear H'
    obtain ⟨x11_1, rfl, HA, HK1, HB⟩ := hrel
    cases gk with
    | zero => exact absurd HA.out (by simp [spec_GoodRankings.l0])
    | succ k1 =>
      have H := HA.out
      clear HA
      simp only [spec_GoodRankings.l0] at H
      by_cases c2 : x11_1 < (l0.length : Int)
      · rw [if_pos c2] at H
        have c2b0 : decide (x11_1 < (l0.length : Int)) = true := decide_eq_true c2
        clear c2
        by_cases c3 : 0 ≤ x11_1
        · rw [if_pos c3] at H
          have c3b0 : decide (0 ≤ x11_1) = true := decide_eq_true c3
          clear c3
          by_cases c4 : x11_1 < (l0.length : Int)
          · rw [if_pos c4] at H
            have c4b0 : decide (x11_1 < (l0.length : Int)) = true := decide_eq_true c4
            clear c4
            have H' := Aside0.mk H
            clear H
            have p329 : 0 ≤ (x11_1 : Int) := of_decide_eq_true (by first | (with_reducible assumption) | assumption)
            have q329 : x11_1 < (l0.length : Int) := of_decide_eq_true (by first | (with_reducible assumption) | assumption)
            obtain ⟨ad329, A329_0, c329_0, e329, hx329_0, hl329_0, hi329_0⟩ := at_T108 HR0.out x11_1 p329 q329
            cases e329
            try have hz_hx329_0 := Aside0.mk hx329_0
            replace hx329_0 := (HB.out.cell (World.block_lt_of_cell? w _ hx329_0)).trans hx329_0
            have HR329_0 := Aside0.mk hi329_0
            have HC329_0 := Aside0.mk hl329_0
            clear hi329_0 hl329_0
            replace p329 := eq_true p329
            replace q329 := eq_true q329
            go_wp2_with (first | ((with_reducible refine gate_dst (N := 4) rfl ?_); refine box_event ?hg (N := 4) ?hd (cs := #[.slice none 0 0]) (t := 108) ?hr ?_; (case hd => rfl); (case hg => rfl); (case hr => first | (go_simp; done) | (go_simp; rfl)); intro gb330 hg w5 hbox hb; have n0_ := Aside0.mk (below_step (by repeat (first | (with_reducible first | exact HB.out | apply below_alloc | apply pw_below_drewN | apply below_drew1) | exact HB.out)) hb); have n1_ := Aside0.mk (hbox); have n2_ := Aside0.mk ((by rw [hg]; exact (below_size (by repeat (first | (with_reducible first | exact HB.out | apply below_alloc | apply pw_below_drewN | apply below_drew1) | exact HB.out))) : w.heap.size ≤ gb330)); have n3_ := Aside0.mk ((by rw [hg]; exact (below_size (by repeat (first | (with_reducible first | exact HB.out | apply below_alloc | apply pw_below_drewN | apply below_drew1) | exact HB.out))) : w.heap.size ≤ gb330)); clear HB; have HB := n0_; have BK330 := n1_; have GW330 := n2_; have GE330 := n3_; clear n0_ n1_ n2_ n3_; clear hb hbox hg; have hcz6_0 : w5.cell? ⟨gb330, 0, none⟩ = some (.slice none 0 0) := (blk_cell BK330.out 0).trans rfl; have hfz6_0 := blk_frozen BK330.out 0))
            go_loopg [18] k1 (fun kq v18 w' => ∃ (x18_2 : Int), v18 = .int .i64 x18_2 ∧ Aside0 (spec_GoodRankings.l1 kq l0 l0 (l0.length : Int) x11_1 ((rd_T108 l0 x11_1).f0) (((rd_T108 l0 x11_1).f0).length : Int) x18_2 ((rd_T108 l0 x11_1).f0) = some r) ∧ Aside0 (kq ≤ k1) ∧ Aside0 (w'.heap[gb330]? = some (.cells #[(.slice A329_0 ((rd_T108 l0 x11_1).f0).length c329_0)] 108 (0, 0))) ∧ Aside0 (Below w.heap.size w w'))
            case atStart => exact ⟨(0), (by first | rfl | (simp; done) | (simp [*]; done)), H', ⟨Nat.le_refl _⟩, ⟨by (with_reducible repeat (first | refine blk_drewN ?_ _ | refine blk_drew ?_ | refine blk_alloc ?_ _)); refine blk_put (cs := #[.slice none 0 0]) ?_ 0 _ rfl; (with_reducible repeat (first | refine blk_drewN ?_ _ | refine blk_drew ?_ | refine blk_alloc ?_ _)); exact BK330.out⟩, ⟨by repeat (first | (with_reducible first | exact HB.out | apply below_alloc | apply pw_below_drewN | apply below_drew1 | refine below_set ?_ GE330.out) | exact HB.out)⟩⟩
            case round =>
              clear H'
              try clear c2
              try clear c2b0
              try clear p2
              try clear c3
              try clear c3b0
              try clear p3
              try clear q3
              try clear hx3
              try clear c4
              try clear c4b0
              try clear hcz6_0
              try clear hfz6_0
              try clear hx329_0
              try clear p329
              try clear q329
              obtain ⟨x18_2, rfl, HA, HK2, BK330, HB⟩ := hrel
              cases gk with
              | zero => exact absurd HA.out (by simp [spec_GoodRankings.l1])
              | succ k2 =>
                have H := HA.out
                clear HA
                simp only [spec_GoodRankings.l1] at H
                by_cases c7 : x18_2 < (((rd_T108 l0 x11_1).f0).length : Int)
                · rw [if_pos c7] at H
                  have c7b0 : decide (x18_2 < (((rd_T108 l0 x11_1).f0).length : Int)) = true := decide_eq_true c7
                  clear c7
                  by_cases c8 : 0 ≤ x18_2
                  · rw [if_pos c8] at H
                    have c8b0 : decide (0 ≤ x18_2) = true := decide_eq_true c8
                    clear c8
                    by_cases c9 : x18_2 < (((rd_T108 l0 x11_1).f0).length : Int)
                    · rw [if_pos c9] at H
                      have c9b0 : decide (x18_2 < (((rd_T108 l0 x11_1).f0).length : Int)) = true := decide_eq_true c9
                      clear c9
                      have HC10 := Aside0.mk H
                      clear H
                      have p331 : 0 ≤ (x18_2 : Int) := of_decide_eq_true (by first | (with_reducible assumption) | assumption)
                      have q331 : x18_2 < (((rd_T108 l0 x11_1).f0).length : Int) := of_decide_eq_true (by first | (with_reducible assumption) | assumption)
                      obtain ⟨ad331, e331, hx331_0, hx331_1⟩ := at_T110 HR329_0.out x18_2 p331 q331
                      cases e331
                      try have hz_hx331_0 := Aside0.mk hx331_0
                      try have hz_hx331_1 := Aside0.mk hx331_1
                      replace hx331_0 := (HB.out.cell (World.block_lt_of_cell? w _ hx331_0)).trans hx331_0
                      replace hx331_1 := (HB.out.cell (World.block_lt_of_cell? w _ hx331_1)).trans hx331_1
                      replace p331 := eq_true p331
                      replace q331 := eq_true q331
                      go_upto_region 7 with (first | ((with_reducible refine gate_dst (N := 6) rfl ?_); refine box_event ?hg (N := 6) ?hd (cs := #[.int .i64 0, .int .i64 0]) (t := 110) ?hr ?_; (case hd => rfl); (case hg => rfl); (case hr => first | (go_simp; done) | (go_simp; rfl)); intro gb332 hg w11 hbox hb; have n0_ := Aside0.mk (blk_below (g := gb330) (o := .cells #[.slice (some ad331) ((rd_T108 l0 x11_1).f0).length c329_0] 108 (0, 0)) (by (with_reducible repeat (first | refine blk_drewN ?_ _ | refine blk_drew ?_ | refine blk_alloc ?_ _)); exact BK330.out) hb); have n1_ := Aside0.mk (below_step (by repeat (first | (with_reducible first | exact HB.out | apply below_alloc | apply pw_below_drewN | apply below_drew1 | refine below_set ?_ GE330.out) | exact HB.out)) hb); have n2_ := Aside0.mk (hbox); have n3_ := Aside0.mk ((by rw [hg]; exact (below_size (by repeat (first | (with_reducible first | exact HB.out | apply below_alloc | apply pw_below_drewN | apply below_drew1 | refine below_set ?_ GE330.out) | exact HB.out))) : w.heap.size ≤ gb332)); have n4_ := Aside0.mk ((by rw [hg]; exact (below_size (by repeat (first | (with_reducible first | exact HB.out | apply below_alloc | apply pw_below_drewN | apply below_drew1 | refine below_set ?_ GE330.out) | exact HB.out))) : w.heap.size ≤ gb332)); have n5_ := Aside0.mk ((by rw [hg]; exact Nat.ne_of_lt (blk_lt (g := gb330) (o := .cells #[.slice (some ad331) ((rd_T108 l0 x11_1).f0).length c329_0] 108 (0, 0)) (by (with_reducible repeat (first | refine blk_drewN ?_ _ | refine blk_drew ?_ | refine blk_alloc ?_ _)); exact BK330.out)) : gb330 ≠ gb332)); have n6_ := Aside0.mk ((by rw [hg]; exact Nat.ne_of_gt (blk_lt (g := gb330) (o := .cells #[.slice (some ad331) ((rd_T108 l0 x11_1).f0).length c329_0] 108 (0, 0)) (by (with_reducible repeat (first | refine blk_drewN ?_ _ | refine blk_drew ?_ | refine blk_alloc ?_ _)); exact BK330.out)) : gb332 ≠ gb330)); clear BK330; clear HB; have BK330 := n0_; have HB := n1_; have BK332 := n2_; have GW332 := n3_; have GE332 := n4_; have NB330_332 := n5_; have NB332_330 := n6_; clear n0_ n1_ n2_ n3_ n4_ n5_ n6_; clear hb hbox hg; have hnb12 := NB332_330.out; have hnc12 := NB330_332.out; have hcz13_0 : w11.cell? ⟨gb332, 0, none⟩ = some (.int .i64 0) := (blk_cell BK332.out 0).trans rfl; have hcz13_1 : w11.cell? ⟨gb332, 1, none⟩ = some (.int .i64 0) := (blk_cell BK332.out 1).trans rfl; have hfz13_0 := blk_frozen BK332.out 0; have hfz13_1 := blk_frozen BK332.out 1))
                      (try simp only [Act.put, List.setIfInBounds_toArray, List.set_cons_zero, List.set_cons_succ])
                      go_cut [32] (fun v32 wc => ∃ (kq : Nat) (x32_9 : Bool), v32 = .bool x32_9 ∧ Aside0 (spec_GoodRankings.j2 kq l0 x18_2 l0 (l0.length : Int) x11_1 ((rd_T108 l0 x11_1).f0) (((rd_T108 l0 x11_1).f0).length : Int) x18_2 x32_9 ((rd_T108 l0 x11_1).f0) ((rd_T110 ((rd_T108 l0 x11_1).f0) x18_2).f0) ((rd_T110 ((rd_T108 l0 x11_1).f0) x18_2).f1) = some r) ∧ Aside0 (kq ≤ k2) ∧ Aside0 (wc.heap[gb330]? = some (.cells #[(.slice (some ad331) ((rd_T108 l0 x11_1).f0).length c329_0)] 108 (0, 0))) ∧ Aside0 (wc.heap[gb332]? = some (.cells #[.int .i64 ((rd_T110 ((rd_T108 l0 x11_1).f0) x18_2).f0), .int .i64 ((rd_T110 ((rd_T108 l0 x11_1).f0) x18_2).f1)] 110 (0, 0))) ∧ Aside0 (Below w.heap.size w wc))
                      case first =>
                        have H := HC10.out
                        clear HC10
                        replace H := Option.bind_eq_some_iff.mp H
                        obtain ⟨t333, A140, H⟩ := H
                        replace H : (if t333 = true then ((spec_l1In.f ((rd_T110 ((rd_T108 l0 x11_1).f0) x18_2).f0) 0 1000).bind fun t334 => (spec_GoodRankings.j2 k2 l0 x18_2 l0 (l0.length : Int) x11_1 ((rd_T108 l0 x11_1).f0) (((rd_T108 l0 x11_1).f0).length : Int) x18_2 (!t334) ((rd_T108 l0 x11_1).f0) ((rd_T110 ((rd_T108 l0 x11_1).f0) x18_2).f0) ((rd_T110 ((rd_T108 l0 x11_1).f0) x18_2).f1))) else (spec_GoodRankings.j2 k2 l0 x18_2 l0 (l0.length : Int) x11_1 ((rd_T108 l0 x11_1).f0) (((rd_T108 l0 x11_1).f0).length : Int) x18_2 true ((rd_T108 l0 x11_1).f0) ((rd_T110 ((rd_T108 l0 x11_1).f0) x18_2).f0) ((rd_T110 ((rd_T108 l0 x11_1).f0) x18_2).f1))) = some r := H
                        have A14 := Aside0.mk A140
                        clear A140
                        by_cases c15 : t333 = true
                        · subst c15
                          have H1 : ((spec_l1In.f ((rd_T110 ((rd_T108 l0 x11_1).f0) x18_2).f0) 0 1000).bind fun t334 => (spec_GoodRankings.j2 k2 l0 x18_2 l0 (l0.length : Int) x11_1 ((rd_T108 l0 x11_1).f0) (((rd_T108 l0 x11_1).f0).length : Int) x18_2 (!t334) ((rd_T108 l0 x11_1).f0) ((rd_T110 ((rd_T108 l0 x11_1).f0) x18_2).f0) ((rd_T110 ((rd_T108 l0 x11_1).f0) x18_2).f1))) = some r := by rw [if_pos rfl] at H; exact H
                          clear H
                          have H := H1
                          clear H1
                          replace H := Option.bind_eq_some_iff.mp H
                          obtain ⟨t334, A160, H⟩ := H
                          replace H : (spec_GoodRankings.j2 k2 l0 x18_2 l0 (l0.length : Int) x11_1 ((rd_T108 l0 x11_1).f0) (((rd_T108 l0 x11_1).f0).length : Int) x18_2 (!t334) ((rd_T108 l0 x11_1).f0) ((rd_T110 ((rd_T108 l0 x11_1).f0) x18_2).f0) ((rd_T110 ((rd_T108 l0 x11_1).f0) x18_2).f1)) = some r := H
                          have A16 := Aside0.mk A160
                          clear A160
                          have H' := Aside0.mk H
                          clear H
                          have hnb17 := NB332_330.out
                          have hnc17 := NB330_332.out
                          have hcz18_0 : w11.cell? ⟨gb332, 0, none⟩ = some (.int .i64 0) := (blk_cell BK332.out 0).trans rfl
                          have hcz18_1 : w11.cell? ⟨gb332, 1, none⟩ = some (.int .i64 0) := (blk_cell BK332.out 1).trans rfl
                          have hfz18_0 := blk_frozen BK332.out 0
                          have hfz18_1 := blk_frozen BK332.out 1
                          go_wp2_with (first | ((with_reducible refine gate_callee (f := 76) rfl ?_); refine goesL_ (some 25) rfl rfl Try.func76 (by kernel_rfl) rfl #[.int .i64 ((rd_T110 ((rd_T108 l0 x11_1).f0) x18_2).f1), .int .i64 1, .int .i64 1000000] rfl (by (try simp only [List.map_toArray, List.map_cons, List.map_nil]); first | done | rfl | (simp only [List.length_drop, List.length_take]; rfl)) ?_; (with_reducible refine (spec_l1In.calls ((rd_T110 ((rd_T108 l0 x11_1).f0) x18_2).f1) 1 1000000 true _ A14.out).mono ?_); rintro e w' ⟨rfl, ⟨nd, rfl⟩⟩; refine ⟨_, rfl, ?_⟩) | (go_at_call 76; (try simp only [i64_w]); (with_reducible refine (spec_l1In.calls ((rd_T110 ((rd_T108 l0 x11_1).f0) x18_2).f0) 0 1000 t334 _ A16.out).mono ?_); rintro e w' ⟨rfl, ⟨nd, rfl⟩⟩))
                          go_meet
                          case rel => exact ⟨_, (!t334), (by first | rfl | (simp; done) | (simp [*]; done)), H', ⟨by have := HK1.out; have := HK2.out; first | omega | exact Nat.le_refl _⟩, ⟨by (with_reducible repeat (first | refine blk_drewN ?_ _ | refine blk_drew ?_ | refine blk_alloc ?_ _)); refine blk_far ?_ NB330_332.out _; (with_reducible repeat (first | refine blk_drewN ?_ _ | refine blk_drew ?_ | refine blk_alloc ?_ _)); refine blk_far ?_ NB330_332.out _; (with_reducible repeat (first | refine blk_drewN ?_ _ | refine blk_drew ?_ | refine blk_alloc ?_ _)); exact BK330.out⟩, ⟨by (with_reducible repeat (first | refine blk_drewN ?_ _ | refine blk_drew ?_ | refine blk_alloc ?_ _)); refine blk_put (cs := #[.int .i64 ((rd_T110 ((rd_T108 l0 x11_1).f0) x18_2).f0), .int .i64 0]) ?_ 1 _ rfl; (with_reducible repeat (first | refine blk_drewN ?_ _ | refine blk_drew ?_ | refine blk_alloc ?_ _)); refine blk_put (cs := #[.int .i64 0, .int .i64 0]) ?_ 0 _ rfl; (with_reducible repeat (first | refine blk_drewN ?_ _ | refine blk_drew ?_ | refine blk_alloc ?_ _)); exact BK332.out⟩, ⟨by repeat (first | (with_reducible first | exact HB.out | apply below_alloc | apply pw_below_drewN | apply below_drew1 | refine below_set ?_ GE330.out | refine below_set ?_ GE332.out) | exact HB.out)⟩⟩
                        · replace c15 := Bool.eq_false_iff.mpr c15
                          subst c15
                          have H1 : (spec_GoodRankings.j2 k2 l0 x18_2 l0 (l0.length : Int) x11_1 ((rd_T108 l0 x11_1).f0) (((rd_T108 l0 x11_1).f0).length : Int) x18_2 true ((rd_T108 l0 x11_1).f0) ((rd_T110 ((rd_T108 l0 x11_1).f0) x18_2).f0) ((rd_T110 ((rd_T108 l0 x11_1).f0) x18_2).f1)) = some r := by rw [if_neg (show ¬ (false = true) by decide)] at H; exact H
                          clear H
                          have H := H1
                          clear H1
                          have H' := Aside0.mk H
                          clear H
                          have hnb19 := NB332_330.out
                          have hnc19 := NB330_332.out
                          have hcz20_0 : w11.cell? ⟨gb332, 0, none⟩ = some (.int .i64 0) := (blk_cell BK332.out 0).trans rfl
                          have hcz20_1 : w11.cell? ⟨gb332, 1, none⟩ = some (.int .i64 0) := (blk_cell BK332.out 1).trans rfl
                          have hfz20_0 := blk_frozen BK332.out 0
                          have hfz20_1 := blk_frozen BK332.out 1
                          go_wp2_with (first | ((with_reducible refine gate_callee (f := 76) rfl ?_); refine goesL_ (some 25) rfl rfl Try.func76 (by kernel_rfl) rfl #[.int .i64 ((rd_T110 ((rd_T108 l0 x11_1).f0) x18_2).f1), .int .i64 1, .int .i64 1000000] rfl (by (try simp only [List.map_toArray, List.map_cons, List.map_nil]); first | done | rfl | (simp only [List.length_drop, List.length_take]; rfl)) ?_; (with_reducible refine (spec_l1In.calls ((rd_T110 ((rd_T108 l0 x11_1).f0) x18_2).f1) 1 1000000 false _ A14.out).mono ?_); rintro e w' ⟨rfl, ⟨nd, rfl⟩⟩; refine ⟨_, rfl, ?_⟩))
                          go_meet
                          case rel => exact ⟨_, (true), (by first | rfl | (simp; done) | (simp [*]; done)), H', ⟨by have := HK1.out; have := HK2.out; first | omega | exact Nat.le_refl _⟩, ⟨by (with_reducible repeat (first | refine blk_drewN ?_ _ | refine blk_drew ?_ | refine blk_alloc ?_ _)); refine blk_far ?_ NB330_332.out _; (with_reducible repeat (first | refine blk_drewN ?_ _ | refine blk_drew ?_ | refine blk_alloc ?_ _)); refine blk_far ?_ NB330_332.out _; (with_reducible repeat (first | refine blk_drewN ?_ _ | refine blk_drew ?_ | refine blk_alloc ?_ _)); exact BK330.out⟩, ⟨by (with_reducible repeat (first | refine blk_drewN ?_ _ | refine blk_drew ?_ | refine blk_alloc ?_ _)); refine blk_put (cs := #[.int .i64 ((rd_T110 ((rd_T108 l0 x11_1).f0) x18_2).f0), .int .i64 0]) ?_ 1 _ rfl; (with_reducible repeat (first | refine blk_drewN ?_ _ | refine blk_drew ?_ | refine blk_alloc ?_ _)); refine blk_put (cs := #[.int .i64 0, .int .i64 0]) ?_ 0 _ rfl; (with_reducible repeat (first | refine blk_drewN ?_ _ | refine blk_drew ?_ | refine blk_alloc ?_ _)); exact BK332.out⟩, ⟨by repeat (first | (with_reducible first | exact HB.out | apply below_alloc | apply pw_below_drewN | apply below_drew1 | refine below_set ?_ GE330.out | refine below_set ?_ GE332.out) | exact HB.out)⟩⟩
                      case rest =>
                        clear HC10
                        try clear c1
                        try clear c2
                        try clear c2b0
                        try clear p2
                        try clear c3
                        try clear c3b0
                        try clear p3
                        try clear q3
                        try clear hx3
                        try clear c4
                        try clear c4b0
                        try clear c7
                        try clear c7b0
                        try clear c8
                        try clear c8b0
                        try clear c9
                        try clear c9b0
                        try clear c12
                        try clear c15
                        try clear c17
                        try clear c19
                        try clear hcz13_0
                        try clear hcz13_1
                        try clear hcz18_0
                        try clear hcz18_1
                        try clear hcz20_0
                        try clear hcz20_1
                        try clear hcz6_0
                        try clear hfz13_0
                        try clear hfz13_1
                        try clear hfz18_0
                        try clear hfz18_1
                        try clear hfz20_0
                        try clear hfz20_1
                        try clear hfz6_0
                        try clear hx329_0
                        try clear hx331_0
                        try clear hx331_1
                        try clear p2
                        try clear p3
                        try clear p329
                        try clear p331
                        try clear q3
                        try clear q329
                        try clear q331
                        obtain ⟨kq, x32_9, rfl, HA, HJ9, BK330, BK332, HB⟩ := hcut
                        cases kq with
                        | zero => exact absurd HA.out (by simp [spec_GoodRankings.j2])
                        | succ kj9 =>
                          have H := HA.out
                          clear HA
                          simp only [spec_GoodRankings.j2] at H
                          by_cases c21 : x32_9 = true
                          · subst c21
                            have H1 : (some false) = some r := by rw [if_pos rfl] at H; exact H
                            clear H
                            have H := H1
                            clear H1
                            obtain rfl := Option.some.inj H
                            go_wp2
                            go_ret
                            exact ⟨by first | rfl | (simp [errW_none, errW_some] <;> rfl) | (simp [*, errW_none, errW_some] <;> rfl), by repeat (first | (with_reducible first | exact HB.out | apply below_alloc | apply pw_below_drewN | apply below_drew1 | refine below_set ?_ GE330.out | refine below_set ?_ GE332.out) | exact HB.out)⟩
                          · replace c21 := Bool.eq_false_iff.mpr c21
                            subst c21
                            have H1 : (if x18_2 > 0 then (if 0 ≤ (wrap64 (x18_2 - 1)) then (if (wrap64 (x18_2 - 1)) < (((rd_T108 l0 x11_1).f0).length : Int) then ((spec_l11Less.f ((rd_T110 ((rd_T108 l0 x11_1).f0) (wrap64 (x18_2 - 1))).f0) ((rd_T110 ((rd_T108 l0 x11_1).f0) (wrap64 (x18_2 - 1))).f1) ((rd_T110 ((rd_T108 l0 x11_1).f0) x18_2).f0) ((rd_T110 ((rd_T108 l0 x11_1).f0) x18_2).f1)).bind fun t336 => (spec_GoodRankings.j3 kj9 l0 x18_2 l0 (l0.length : Int) x11_1 ((rd_T108 l0 x11_1).f0) (((rd_T108 l0 x11_1).f0).length : Int) x18_2 (!t336) ((rd_T108 l0 x11_1).f0) ((rd_T110 ((rd_T108 l0 x11_1).f0) x18_2).f0) ((rd_T110 ((rd_T108 l0 x11_1).f0) x18_2).f1))) else (none)) else (none)) else (spec_GoodRankings.j3 kj9 l0 x18_2 l0 (l0.length : Int) x11_1 ((rd_T108 l0 x11_1).f0) (((rd_T108 l0 x11_1).f0).length : Int) x18_2 false ((rd_T108 l0 x11_1).f0) ((rd_T110 ((rd_T108 l0 x11_1).f0) x18_2).f0) ((rd_T110 ((rd_T108 l0 x11_1).f0) x18_2).f1))) = some r := by rw [if_neg (show ¬ (false = true) by decide)] at H; exact H
                            clear H
                            have H := H1
                            clear H1
                            have HC22 := Aside0.mk H
                            clear H
                            go_upto_region 9 with (fail)
                            go_cut [45] (fun v45 wc => ∃ (kq : Nat) (x45_21 : Bool), v45 = .bool x45_21 ∧ Aside0 (spec_GoodRankings.j3 kq l0 x18_2 l0 (l0.length : Int) x11_1 ((rd_T108 l0 x11_1).f0) (((rd_T108 l0 x11_1).f0).length : Int) x18_2 x45_21 ((rd_T108 l0 x11_1).f0) ((rd_T110 ((rd_T108 l0 x11_1).f0) x18_2).f0) ((rd_T110 ((rd_T108 l0 x11_1).f0) x18_2).f1) = some r) ∧ Aside0 (kq ≤ kj9) ∧ Aside0 (wc.heap[gb330]? = some (.cells #[(.slice (some ad331) ((rd_T108 l0 x11_1).f0).length c329_0)] 108 (0, 0))) ∧ Aside0 (wc.heap[gb332]? = some (.cells #[.int .i64 ((rd_T110 ((rd_T108 l0 x11_1).f0) x18_2).f0), .int .i64 ((rd_T110 ((rd_T108 l0 x11_1).f0) x18_2).f1)] 110 (0, 0))) ∧ Aside0 (Below w.heap.size w wc))
                            case first =>
                              have H := HC22.out
                              clear HC22
                              by_cases c23 : x18_2 > 0
                              · rw [if_pos c23] at H
                                have c23b0 : decide (0 < x18_2) = true := decide_eq_true c23
                                clear c23
                                (first | rw [c23b0] | (simp only [i64_w, i32_w]; rw [c23b0]) | skip)
                                obtain ⟨ji24, hji24⟩ : ∃ j_ : Int, (wrap64 (x18_2 - 1)) = j_ := ⟨_, rfl⟩
                                replace H : (if 0 ≤ (ji24) then (if (ji24) < (((rd_T108 l0 x11_1).f0).length : Int) then ((spec_l11Less.f ((rd_T110 ((rd_T108 l0 x11_1).f0) (ji24)).f0) ((rd_T110 ((rd_T108 l0 x11_1).f0) (ji24)).f1) ((rd_T110 ((rd_T108 l0 x11_1).f0) x18_2).f0) ((rd_T110 ((rd_T108 l0 x11_1).f0) x18_2).f1)).bind fun t336 => (spec_GoodRankings.j3 kj9 l0 x18_2 l0 (l0.length : Int) x11_1 ((rd_T108 l0 x11_1).f0) (((rd_T108 l0 x11_1).f0).length : Int) x18_2 (!t336) ((rd_T108 l0 x11_1).f0) ((rd_T110 ((rd_T108 l0 x11_1).f0) x18_2).f0) ((rd_T110 ((rd_T108 l0 x11_1).f0) x18_2).f1))) else (none)) else (none)) = some r := by first | (rw [hji24] at H; exact H) | (simp only [hji24] at H ⊢; exact H)
                                have hji24w : (IntKind.i64.wrap (x18_2 - 1)) = ji24 := (i64_w _).trans hji24
                                by_cases c25 : 0 ≤ (ji24)
                                · rw [if_pos c25] at H
                                  have c25b0 : decide (0 ≤ (ji24)) = true := decide_eq_true c25
                                  clear c25
                                  by_cases c26 : (ji24) < (((rd_T108 l0 x11_1).f0).length : Int)
                                  · rw [if_pos c26] at H
                                    have c26b0 : decide ((ji24) < (((rd_T108 l0 x11_1).f0).length : Int)) = true := decide_eq_true c26
                                    clear c26
                                    replace H := Option.bind_eq_some_iff.mp H
                                    obtain ⟨t336, A270, H⟩ := H
                                    replace H : (spec_GoodRankings.j3 kj9 l0 x18_2 l0 (l0.length : Int) x11_1 ((rd_T108 l0 x11_1).f0) (((rd_T108 l0 x11_1).f0).length : Int) x18_2 (!t336) ((rd_T108 l0 x11_1).f0) ((rd_T110 ((rd_T108 l0 x11_1).f0) x18_2).f0) ((rd_T110 ((rd_T108 l0 x11_1).f0) x18_2).f1)) = some r := H
                                    have A27 := Aside0.mk A270
                                    clear A270
                                    have H' := Aside0.mk H
                                    clear H
                                    try go_wp2
                                    have n0_ := Aside0.mk (blk_drew BK330.out)
                                    have n1_ := Aside0.mk (blk_drew BK332.out)
                                    have n2_ := Aside0.mk (below_drew1 HB.out)
                                    clear BK330
                                    clear BK332
                                    clear HB
                                    have BK330 := n0_
                                    have BK332 := n1_
                                    have HB := n2_
                                    clear n0_ n1_ n2_
                                    have p335 : 0 ≤ ((ji24) : Int) := of_decide_eq_true (by first | (with_reducible assumption) | assumption)
                                    have q335 : (ji24) < (((rd_T108 l0 x11_1).f0).length : Int) := of_decide_eq_true (by first | (with_reducible assumption) | assumption)
                                    obtain ⟨ad335, e335, hx335_0, hx335_1⟩ := at_T110 HR329_0.out (ji24) p335 q335
                                    have hw335_1 := hx335_1
                                    have hw335_0 := hx335_0
                                    obtain rfl : ad331 = ad335 := (by injection e335)
                                    try have hz_hx335_0 := Aside0.mk hx335_0
                                    try have hz_hx335_1 := Aside0.mk hx335_1
                                    replace hx335_0 := (HB.out.cell (World.block_lt_of_cell? w _ hx335_0)).trans hx335_0
                                    replace hx335_1 := (HB.out.cell (World.block_lt_of_cell? w _ hx335_1)).trans hx335_1
                                    replace p335 := eq_true p335
                                    replace q335 := eq_true q335
                                    refine start_ (n := 13) (S := fun w' => w'.cell? ⟨gb330, 0, none⟩ = some (.slice (some ad331) ((rd_T108 l0 x11_1).f0).length c329_0) ∧ w'.cell? ⟨gb332, 0, none⟩ = some (.int .i64 ((rd_T110 ((rd_T108 l0 x11_1).f0) x18_2).f0)) ∧ w'.cell? ⟨gb332, 1, none⟩ = some (.int .i64 ((rd_T110 ((rd_T108 l0 x11_1).f0) x18_2).f1)) ∧ w'.cell? (ad331.add (((ji24)).toNat * 2)) = some (.int .i64 ((rd_T110 ((rd_T108 l0 x11_1).f0) (ji24)).f0)) ∧ w'.cell? ⟨(ad331.add (((ji24)).toNat * 2)).block, (ad331.add (((ji24)).toNat * 2)).off + 1, none⟩ = some (.int .i64 ((rd_T110 ((rd_T108 l0 x11_1).f0) (ji24)).f1))) (ds := []) #[false, false, false, false, false, false, false, false, false, false, false, false, false] (by kernel_rfl) rfl rfl ⟨(blk_cell BK330.out 0).trans rfl, (blk_cell BK332.out 0).trans rfl, (blk_cell BK332.out 1).trans rfl, ((HB.out.cell (World.block_lt_of_cell? w _ hw335_0)).trans hw335_0), ((HB.out.cell (World.block_lt_of_cell? w _ hw335_1)).trans hw335_1)⟩ (fun hHeld => ?_); refine with_tabW spec_GoodRankings.tab9 spec_GoodRankings.bits9 (fun HT_ HW_ => ?_)
                                    generalize wc.drew = w28 at BK330 BK332 HB hx335_0 hx335_1 hHeld ⊢
                                    refine pure_ (i := 0) (N := some 33) (v := ?_) (a' := ?_) #[true, false, false, false, false, false, false, false, false, false, false, false, false] rfl rfl (any_of HT_.out (by kernel_rfl)) (fun _ _ _ h => h) (Or.inl ⟨by rfl, ?_⟩) ?_ ?_
                                    rotate_left
                                    · intro w'
                                      go_simp
                                      with_reducible rfl
                                    rotate_left
                                    · simp only [Act.put, List.setIfInBounds_toArray, List.set_cons_zero, List.set_cons_succ, i64_w, i32_w]
                                      rfl
                                    refine pure_ (i := 1) (N := some 34) (v := ?_) (a' := ?_) #[true, true, false, false, false, false, false, false, false, false, false, false, false] rfl rfl (any_of HT_.out (by kernel_rfl)) (fun _ _ _ h => h) (Or.inl ⟨by rfl, ?_⟩) ?_ ?_
                                    rotate_left
                                    · intro w'
                                      go_simp
                                      with_reducible rfl
                                    rotate_left
                                    · simp only [Act.put, List.setIfInBounds_toArray, List.set_cons_zero, List.set_cons_succ, i64_w, i32_w]
                                      rfl
                                    refine pure_ (i := 2) (N := some 35) (v := ?_) (a' := ?_) #[true, true, true, false, false, false, false, false, false, false, false, false, false] rfl rfl (any_of HT_.out (by kernel_rfl)) (fun _ _ _ h => h) (Or.inl ⟨by rfl, ?_⟩) ?_ ?_
                                    rotate_left
                                    · intro w'
                                      go_simp
                                      with_reducible rfl
                                    rotate_left
                                    · simp only [Act.put, List.setIfInBounds_toArray, List.set_cons_zero, List.set_cons_succ, i64_w, i32_w]
                                      rfl
                                    refine pure_ (i := 3) (N := some 36) (v := ?_) (a' := ?_) #[true, true, true, true, false, false, false, false, false, false, false, false, false] rfl rfl (any_of HT_.out (by kernel_rfl)) (fun _ _ _ h => h) (Or.inl ⟨by rfl, ?_⟩) ?_ ?_
                                    rotate_left
                                    · intro w'
                                      go_simp
                                      with_reducible rfl
                                    rotate_left
                                    · simp only [Act.put, List.setIfInBounds_toArray, List.set_cons_zero, List.set_cons_succ, i64_w, i32_w]
                                      rfl
                                    refine pure_ (i := 5) (N := some 38) (v := ?_) (a' := ?_) #[true, true, true, true, false, true, false, false, false, false, false, false, false] rfl rfl (any_of HT_.out (by kernel_rfl)) (fun _ _ _ h => h) (Or.inl ⟨by rfl, ?_⟩) ?_ ?_
                                    rotate_left
                                    · intro w'
                                      go_simp
                                      with_reducible rfl
                                    rotate_left
                                    · simp only [Act.put, List.setIfInBounds_toArray, List.set_cons_zero, List.set_cons_succ, i64_w, i32_w]
                                      rfl
                                    refine pure_ (i := 6) (N := some 39) (v := ?_) (a' := ?_) #[true, true, true, true, false, true, true, false, false, false, false, false, false] rfl rfl (any_of HT_.out (by kernel_rfl)) (fun _ _ _ h => h) (Or.inl ⟨by rfl, ?_⟩) ?_ ?_
                                    rotate_left
                                    · intro w'
                                      go_simp
                                      with_reducible rfl
                                    rotate_left
                                    · simp only [Act.put, List.setIfInBounds_toArray, List.set_cons_zero, List.set_cons_succ, i64_w, i32_w]
                                      rfl
                                    refine take_ (i := 4) (N := some 37) (v := ?_) (a' := ?_) #[true, true, true, true, true, true, true, false, false, false, false, false, false] rfl rfl (take_ofW HT_.out HW_.out (by kernel_rfl)) (fun _ _ _ h => h) (Or.inl ⟨by rfl, ?_⟩) hHeld ?_ ?_
                                    rotate_left
                                    · rintro w' ⟨s0, s1, s2, s3, s4⟩
                                      go_simp
                                      with_reducible rfl
                                    rotate_left
                                    · simp only [Act.put, List.setIfInBounds_toArray, List.set_cons_zero, List.set_cons_succ, i64_w, i32_w]
                                      rfl
                                    refine pure_ (i := 7) (N := some 40) (v := ?_) (a' := ?_) #[true, true, true, true, true, true, true, true, false, false, false, false, false] rfl rfl (any_of HT_.out (by kernel_rfl)) (fun _ _ _ h => h) (Or.inl ⟨by rfl, ?_⟩) ?_ ?_
                                    rotate_left
                                    · intro w'
                                      go_simp
                                      with_reducible rfl
                                    rotate_left
                                    · simp only [Act.put, List.setIfInBounds_toArray, List.set_cons_zero, List.set_cons_succ, i64_w, i32_w]
                                      rfl
                                    refine take_ (i := 8) (N := some 41) (v := ?_) (a' := ?_) #[true, true, true, true, true, true, true, true, true, false, false, false, false] rfl rfl (take_ofW HT_.out HW_.out (by kernel_rfl)) (fun _ _ _ h => h) (Or.inl ⟨by rfl, ?_⟩) hHeld ?_ ?_
                                    rotate_left
                                    · rintro w' ⟨s0, s1, s2, s3, s4⟩
                                      go_simp
                                      with_reducible rfl
                                    rotate_left
                                    · simp only [Act.put, List.setIfInBounds_toArray, List.set_cons_zero, List.set_cons_succ, i64_w, i32_w]
                                      rfl
                                    refine take_ (i := 9) (N := some 42) (v := ?_) (a' := ?_) #[true, true, true, true, true, true, true, true, true, true, false, false, false] rfl rfl (take_ofW HT_.out HW_.out (by kernel_rfl)) (fun _ _ _ h => h) (Or.inl ⟨by rfl, ?_⟩) hHeld ?_ ?_
                                    rotate_left
                                    · rintro w' ⟨s0, s1, s2, s3, s4⟩
                                      go_simp
                                      with_reducible rfl
                                    rotate_left
                                    · simp only [Act.put, List.setIfInBounds_toArray, List.set_cons_zero, List.set_cons_succ, i64_w, i32_w]
                                      rfl
                                    refine one_ (i := 10) (N := some 43) #[true, true, true, true, true, true, true, true, true, true, true, false, false] rfl rfl (one_of HT_.out (by kernel_rfl)) (by decide) (fun K hK => ?_)
                                    refine goes_ Try.func77 (by kernel_rfl) rfl #[.agg #[.int .i64 ((rd_T110 ((rd_T108 l0 x11_1).f0) (ji24)).f0), .int .i64 ((rd_T110 ((rd_T108 l0 x11_1).f0) (ji24)).f1)], .agg #[.int .i64 ((rd_T110 ((rd_T108 l0 x11_1).f0) x18_2).f0), .int .i64 ((rd_T110 ((rd_T108 l0 x11_1).f0) x18_2).f1)]] (by rfl) rfl rfl (by (try simp only [List.map_toArray, List.map_cons, List.map_nil]); first | done | (simp only [hji24]; rfl) | rfl | (simp only [List.length_drop, List.length_take]; rfl)) ?_
                                    with_reducible refine (spec_l11Less.calls ((rd_T110 ((rd_T108 l0 x11_1).f0) (ji24)).f0) ((rd_T110 ((rd_T108 l0 x11_1).f0) (ji24)).f1) ((rd_T110 ((rd_T108 l0 x11_1).f0) x18_2).f0) ((rd_T110 ((rd_T108 l0 x11_1).f0) x18_2).f1) t336 _ A27.out).mono ?_
                                    rintro e w29 ⟨rfl, hb⟩
                                    refine ⟨_, rfl, ?_⟩
                                    have n0_ := Aside0.mk (blk_below (g := gb330) (o := .cells #[.slice (some ad331) ((rd_T108 l0 x11_1).f0).length c329_0] 108 (0, 0)) (by (with_reducible repeat (first | refine blk_drewN ?_ _ | refine blk_drew ?_ | refine blk_alloc ?_ _)); exact BK330.out) hb)
                                    have n1_ := Aside0.mk (blk_below (g := gb332) (o := .cells #[.int .i64 ((rd_T110 ((rd_T108 l0 x11_1).f0) x18_2).f0), .int .i64 ((rd_T110 ((rd_T108 l0 x11_1).f0) x18_2).f1)] 110 (0, 0)) (by (with_reducible repeat (first | refine blk_drewN ?_ _ | refine blk_drew ?_ | refine blk_alloc ?_ _)); exact BK332.out) hb)
                                    have n2_ := Aside0.mk (below_step (by repeat (first | (with_reducible first | exact HB.out | apply below_alloc | apply pw_below_drewN | apply below_drew1 | refine below_set ?_ GE330.out | refine below_set ?_ GE332.out) | exact HB.out)) hb)
                                    clear BK330
                                    clear BK332
                                    clear HB
                                    have BK330 := n0_
                                    have BK332 := n1_
                                    have HB := n2_
                                    clear n0_ n1_ n2_
                                    (try clear hb)
                                    (try clear hb2)
                                    (try clear hk)
                                    (try clear hi)
                                    refine hK.out _ _ ⟨(blk_cell BK330.out 0).trans rfl, (blk_cell BK332.out 0).trans rfl, (blk_cell BK332.out 1).trans rfl, ((HB.out.cell (World.block_lt_of_cell? w _ hw335_0)).trans hw335_0), ((HB.out.cell (World.block_lt_of_cell? w _ hw335_1)).trans hw335_1)⟩ (fun hHeld => ?_)
                                    clear hK K
                                    refine norm_ (a' := ?_) ?_ ?_
                                    rotate_left
                                    · show Act.put _ (some 43) _ = _
                                      simp only [Act.put, List.setIfInBounds_toArray, List.set_cons_zero, List.set_cons_succ, i64_w, i32_w]
                                      rfl
                                    refine pure_ (i := 11) (N := some 44) (v := ?_) (a' := ?_) #[true, true, true, true, true, true, true, true, true, true, true, true, false] rfl rfl (any_of HT_.out (by kernel_rfl)) (fun _ _ _ h => h) (Or.inl ⟨by rfl, ?_⟩) ?_ ?_
                                    rotate_left
                                    · intro w'
                                      go_simp
                                      with_reducible rfl
                                    rotate_left
                                    · simp only [Act.put, List.setIfInBounds_toArray, List.set_cons_zero, List.set_cons_succ, i64_w, i32_w]
                                      rfl
                                    refine pure_ (i := 12) (N := some 45) (v := ?_) (a' := ?_) #[true, true, true, true, true, true, true, true, true, true, true, true, true] rfl rfl (any_of HT_.out (by kernel_rfl)) (fun _ _ _ h => h) (Or.inl ⟨by rfl, ?_⟩) ?_ ?_
                                    rotate_left
                                    · intro w'
                                      go_simp
                                      with_reducible rfl
                                    rotate_left
                                    · simp only [Act.put, List.setIfInBounds_toArray, List.set_cons_zero, List.set_cons_succ, i64_w, i32_w]
                                      rfl
                                    refine done_ (done_of HT_.out (by kernel_rfl)) ?_
                                    try go_wp2
                                    go_meet
                                    case rel => exact ⟨_, (!t336), (by first | rfl | (simp; done) | (simp [*]; done)), H', ⟨by have := HK1.out; have := HK2.out; have := HJ9.out; first | omega | exact Nat.le_refl _⟩, ⟨by (with_reducible repeat (first | refine blk_drewN ?_ _ | refine blk_drew ?_ | refine blk_alloc ?_ _)); exact BK330.out⟩, ⟨by (with_reducible repeat (first | refine blk_drewN ?_ _ | refine blk_drew ?_ | refine blk_alloc ?_ _)); exact BK332.out⟩, ⟨by repeat (first | (with_reducible first | exact HB.out | apply below_alloc | apply pw_below_drewN | apply below_drew1 | refine below_set ?_ GE330.out | refine below_set ?_ GE332.out) | exact HB.out)⟩⟩
                                  · rw [if_neg c26] at H
                                    exact absurd H (by simp)
                                · rw [if_neg c25] at H
                                  exact absurd H (by simp)
                              · rw [if_neg c23] at H
                                have c23b0 : decide (0 < x18_2) = false := decide_eq_false c23
                                clear c23
                                (first | rw [c23b0] | (simp only [i64_w, i32_w]; rw [c23b0]) | skip)
                                have H' := Aside0.mk H
                                clear H
                                try go_wp2
                                have n0_ := Aside0.mk (blk_drew BK330.out)
                                have n1_ := Aside0.mk (blk_drew BK332.out)
                                have n2_ := Aside0.mk (below_drew1 HB.out)
                                clear BK330
                                clear BK332
                                clear HB
                                have BK330 := n0_
                                have BK332 := n1_
                                have HB := n2_
                                clear n0_ n1_ n2_
                                refine start_ (n := 13) (S := fun w' => True) (ds := []) #[false, false, false, false, false, false, false, false, false, false, false, false, false] (by kernel_rfl) rfl rfl trivial (fun hHeld => ?_); refine with_tabW spec_GoodRankings.tab9 spec_GoodRankings.bits9 (fun HT_ HW_ => ?_)
                                generalize wc.drew = w30 at BK330 BK332 HB hHeld ⊢
                                refine pure_ (i := 0) (N := some 33) (v := ?_) (a' := ?_) #[true, false, false, false, false, false, false, false, false, false, false, false, false] rfl rfl (any_of HT_.out (by kernel_rfl)) (fun _ _ _ h => h) (Or.inl ⟨by rfl, ?_⟩) ?_ ?_
                                rotate_left
                                · intro w'
                                  go_simp
                                  with_reducible rfl
                                rotate_left
                                · simp only [Act.put, List.setIfInBounds_toArray, List.set_cons_zero, List.set_cons_succ, i64_w, i32_w]
                                  rfl
                                refine pure_ (i := 1) (N := some 34) (v := ?_) (a' := ?_) #[true, true, false, false, false, false, false, false, false, false, false, false, false] rfl rfl (any_of HT_.out (by kernel_rfl)) (fun _ _ _ h => h) (Or.inl ⟨by rfl, ?_⟩) ?_ ?_
                                rotate_left
                                · intro w'
                                  go_simp
                                  with_reducible rfl
                                rotate_left
                                · simp only [Act.put, List.setIfInBounds_toArray, List.set_cons_zero, List.set_cons_succ, i64_w, i32_w]
                                  rfl
                                refine pure_ (i := 2) (N := some 35) (v := ?_) (a' := ?_) #[true, true, true, false, false, false, false, false, false, false, false, false, false] rfl rfl (any_of HT_.out (by kernel_rfl)) (fun _ _ _ h => h) (Or.inl ⟨by rfl, ?_⟩) ?_ ?_
                                rotate_left
                                · intro w'
                                  go_simp
                                  with_reducible rfl
                                rotate_left
                                · simp only [Act.put, List.setIfInBounds_toArray, List.set_cons_zero, List.set_cons_succ, i64_w, i32_w]
                                  rfl
                                refine pure_ (i := 3) (N := some 36) (v := undef) (a' := ?_) #[true, true, true, true, false, false, false, false, false, false, false, false, false] rfl rfl (any_of HT_.out (by kernel_rfl)) (fun _ _ _ h => h) (Or.inr ⟨by rfl, rfl⟩) ?_ ?_
                                rotate_left
                                · simp only [Act.put, List.setIfInBounds_toArray, List.set_cons_zero, List.set_cons_succ, i64_w, i32_w]
                                  rfl
                                refine pure_ (i := 4) (N := some 37) (v := undef) (a' := ?_) #[true, true, true, true, true, false, false, false, false, false, false, false, false] rfl rfl (any_of HT_.out (by kernel_rfl)) (fun _ _ _ h => h) (Or.inr ⟨by rfl, rfl⟩) ?_ ?_
                                rotate_left
                                · simp only [Act.put, List.setIfInBounds_toArray, List.set_cons_zero, List.set_cons_succ, i64_w, i32_w]
                                  rfl
                                refine pure_ (i := 5) (N := some 38) (v := undef) (a' := ?_) #[true, true, true, true, true, true, false, false, false, false, false, false, false] rfl rfl (any_of HT_.out (by kernel_rfl)) (fun _ _ _ h => h) (Or.inr ⟨by rfl, rfl⟩) ?_ ?_
                                rotate_left
                                · simp only [Act.put, List.setIfInBounds_toArray, List.set_cons_zero, List.set_cons_succ, i64_w, i32_w]
                                  rfl
                                refine pure_ (i := 6) (N := some 39) (v := undef) (a' := ?_) #[true, true, true, true, true, true, true, false, false, false, false, false, false] rfl rfl (any_of HT_.out (by kernel_rfl)) (fun _ _ _ h => h) (Or.inr ⟨by rfl, rfl⟩) ?_ ?_
                                rotate_left
                                · simp only [Act.put, List.setIfInBounds_toArray, List.set_cons_zero, List.set_cons_succ, i64_w, i32_w]
                                  rfl
                                refine pure_ (i := 7) (N := some 40) (v := undef) (a' := ?_) #[true, true, true, true, true, true, true, true, false, false, false, false, false] rfl rfl (any_of HT_.out (by kernel_rfl)) (fun _ _ _ h => h) (Or.inr ⟨by rfl, rfl⟩) ?_ ?_
                                rotate_left
                                · simp only [Act.put, List.setIfInBounds_toArray, List.set_cons_zero, List.set_cons_succ, i64_w, i32_w]
                                  rfl
                                refine pure_ (i := 8) (N := some 41) (v := undef) (a' := ?_) #[true, true, true, true, true, true, true, true, true, false, false, false, false] rfl rfl (any_of HT_.out (by kernel_rfl)) (fun _ _ _ h => h) (Or.inr ⟨by rfl, rfl⟩) ?_ ?_
                                rotate_left
                                · simp only [Act.put, List.setIfInBounds_toArray, List.set_cons_zero, List.set_cons_succ, i64_w, i32_w]
                                  rfl
                                refine pure_ (i := 9) (N := some 42) (v := undef) (a' := ?_) #[true, true, true, true, true, true, true, true, true, true, false, false, false] rfl rfl (any_of HT_.out (by kernel_rfl)) (fun _ _ _ h => h) (Or.inr ⟨by rfl, rfl⟩) ?_ ?_
                                rotate_left
                                · simp only [Act.put, List.setIfInBounds_toArray, List.set_cons_zero, List.set_cons_succ, i64_w, i32_w]
                                  rfl
                                refine pure_ (i := 10) (N := some 43) (v := undef) (a' := ?_) #[true, true, true, true, true, true, true, true, true, true, true, false, false] rfl rfl (any_of HT_.out (by kernel_rfl)) (fun _ _ _ h => h) (Or.inr ⟨by rfl, rfl⟩) ?_ ?_
                                rotate_left
                                · simp only [Act.put, List.setIfInBounds_toArray, List.set_cons_zero, List.set_cons_succ, i64_w, i32_w]
                                  rfl
                                refine pure_ (i := 11) (N := some 44) (v := undef) (a' := ?_) #[true, true, true, true, true, true, true, true, true, true, true, true, false] rfl rfl (any_of HT_.out (by kernel_rfl)) (fun _ _ _ h => h) (Or.inr ⟨by rfl, rfl⟩) ?_ ?_
                                rotate_left
                                · simp only [Act.put, List.setIfInBounds_toArray, List.set_cons_zero, List.set_cons_succ, i64_w, i32_w]
                                  rfl
                                refine pure_ (i := 12) (N := some 45) (v := ?_) (a' := ?_) #[true, true, true, true, true, true, true, true, true, true, true, true, true] rfl rfl (any_of HT_.out (by kernel_rfl)) (fun _ _ _ h => h) (Or.inl ⟨by rfl, ?_⟩) ?_ ?_
                                rotate_left
                                · intro w'
                                  go_simp
                                  with_reducible rfl
                                rotate_left
                                · simp only [Act.put, List.setIfInBounds_toArray, List.set_cons_zero, List.set_cons_succ, i64_w, i32_w]
                                  rfl
                                refine done_ (done_of HT_.out (by kernel_rfl)) ?_
                                try go_wp2
                                go_meet
                                case rel => exact ⟨_, (false), (by first | rfl | (simp; done) | (simp [*]; done)), H', ⟨by have := HK1.out; have := HK2.out; have := HJ9.out; first | omega | exact Nat.le_refl _⟩, ⟨by (with_reducible repeat (first | refine blk_drewN ?_ _ | refine blk_drew ?_ | refine blk_alloc ?_ _)); exact BK330.out⟩, ⟨by (with_reducible repeat (first | refine blk_drewN ?_ _ | refine blk_drew ?_ | refine blk_alloc ?_ _)); exact BK332.out⟩, ⟨by repeat (first | (with_reducible first | exact HB.out | apply below_alloc | apply pw_below_drewN | apply below_drew1 | refine below_set ?_ GE330.out | refine below_set ?_ GE332.out) | exact HB.out)⟩⟩
                            case rest =>
                              clear HC22
                              try clear c1
                              try clear c2
                              try clear c2b0
                              try clear p2
                              try clear c3
                              try clear c3b0
                              try clear p3
                              try clear q3
                              try clear hx3
                              try clear c4
                              try clear c4b0
                              try clear p6
                              try clear c7
                              try clear c7b0
                              try clear c8
                              try clear c8b0
                              try clear c9
                              try clear c9b0
                              try clear c12
                              try clear c15
                              try clear c17
                              try clear c19
                              try clear c21
                              try clear c23
                              try clear c23b0
                              try clear c25
                              try clear c25b0
                              try clear c26
                              try clear c26b0
                              try clear hcz13_0
                              try clear hcz13_1
                              try clear hcz18_0
                              try clear hcz18_1
                              try clear hcz20_0
                              try clear hcz20_1
                              try clear hcz6_0
                              try clear hfz13_0
                              try clear hfz13_1
                              try clear hfz18_0
                              try clear hfz18_1
                              try clear hfz20_0
                              try clear hfz20_1
                              try clear hfz6_0
                              try clear hx329_0
                              try clear hx331_0
                              try clear hx331_1
                              try clear hx335_0
                              try clear hx335_1
                              try clear p2
                              try clear p3
                              try clear p329
                              try clear p331
                              try clear p335
                              try clear q3
                              try clear q329
                              try clear q331
                              try clear q335
                              obtain ⟨kq, x45_21, rfl, HA, HJ21, BK330, BK332, HB⟩ := hcut
                              cases kq with
                              | zero => exact absurd HA.out (by simp [spec_GoodRankings.j3])
                              | succ kj21 =>
                                have H := HA.out
                                clear HA
                                simp only [spec_GoodRankings.j3] at H
                                by_cases c31 : x45_21 = true
                                · subst c31
                                  have H1 : (some false) = some r := by rw [if_pos rfl] at H; exact H
                                  clear H
                                  have H := H1
                                  clear H1
                                  obtain rfl := Option.some.inj H
                                  go_wp2
                                  go_ret
                                  exact ⟨by first | rfl | (simp [errW_none, errW_some] <;> rfl) | (simp [*, errW_none, errW_some] <;> rfl), by repeat (first | (with_reducible first | exact HB.out | apply below_alloc | apply pw_below_drewN | apply below_drew1 | refine below_set ?_ GE330.out | refine below_set ?_ GE332.out) | exact HB.out)⟩
                                · replace c31 := Bool.eq_false_iff.mpr c31
                                  subst c31
                                  have H1 : (if 0 ≤ x18_2 then (if x18_2 ≤ (((rd_T108 l0 x11_1).f0).length : Int) then ((some (((rd_T108 l0 x11_1).f0).take (x18_2 : Int).toNat : List (S110))).bind fun y337 => (spec_GoodRankings.l2 kj21 l0 l0 (l0.length : Int) x11_1 ((rd_T108 l0 x11_1).f0) (((rd_T108 l0 x11_1).f0).length : Int) x18_2 y337 (y337.length : Int) 0 ((rd_T108 l0 x11_1).f0) ((rd_T110 ((rd_T108 l0 x11_1).f0) x18_2).f0) ((rd_T110 ((rd_T108 l0 x11_1).f0) x18_2).f1))) else (none)) else (none)) = some r := by rw [if_neg (show ¬ (false = true) by decide)] at H; exact H
                                  clear H
                                  have H := H1
                                  clear H1
                                  by_cases c32 : 0 ≤ x18_2
                                  · rw [if_pos c32] at H
                                    have c32b0 := eq_true c32
                                    have c32b1 : decide (0 ≤ x18_2) = true := decide_eq_true c32
                                    clear c32
                                    by_cases c33 : x18_2 ≤ (((rd_T108 l0 x11_1).f0).length : Int)
                                    · rw [if_pos c33] at H
                                      have c33b0 := eq_true c33
                                      have c33b1 : decide (x18_2 ≤ (((rd_T108 l0 x11_1).f0).length : Int)) = true := decide_eq_true c33
                                      clear c33
                                      obtain ⟨y337, hy337⟩ : ∃ y_ : List (S110), y_ = (((rd_T108 l0 x11_1).f0).take (x18_2 : Int).toNat) := ⟨_, rfl⟩
                                      replace H : (spec_GoodRankings.l2 kj21 l0 l0 (l0.length : Int) x11_1 ((rd_T108 l0 x11_1).f0) (((rd_T108 l0 x11_1).f0).length : Int) x18_2 y337 (y337.length : Int) 0 ((rd_T108 l0 x11_1).f0) ((rd_T110 ((rd_T108 l0 x11_1).f0) x18_2).f0) ((rd_T110 ((rd_T108 l0 x11_1).f0) x18_2).f1)) = some r := by first | (rw [hy337]; with_reducible exact H) | (have H2_ := (Option.bind_some _ _).symm.trans H; rw [hy337]; with_reducible exact H2_) | (have H2_ := (Option.bind_some _ _).symm.trans H; with_reducible exact H2_) | with_reducible exact H | (rw [hy337]; exact H) | exact H
                                      have Ny337 := Aside0.mk hy337
                                      clear hy337
                                      have H' := Aside0.mk H
                                      clear H
                                      have hnb34 := NB330_332.out
                                      have hnc34 := NB332_330.out
                                      have hcz35_0 : wc.cell? ⟨gb330, 0, none⟩ = some (.slice (some ad331) ((rd_T108 l0 x11_1).f0).length c329_0) := (blk_cell BK330.out 0).trans rfl
                                      have hfz35_0 := blk_frozen BK330.out 0
                                      have q36 : (x18_2 : Int) ≤ ((((rd_T108 l0 x11_1).f0).length : Int) : Int) := of_decide_eq_true (by first | (with_reducible assumption) | assumption)
                                      obtain ⟨i036, hi036, _, hsz36, _⟩ := info_parts info110
                                      have hroom36 : ((rd_T108 l0 x11_1).f0).length ≤ c329_0 := HC329_0.out
                                      have hC36 : Kd.C k110 _ (some ad331) ((rd_T108 l0 x11_1).f0).length ((rd_T108 l0 x11_1).f0) := HR329_0.out
                                      have hcut36 := cut_to (P := Try.prog) 106 110 .i64 Try.underlying106 hi036 (some ad331) ((rd_T108 l0 x11_1).f0).length c329_0 x18_2 (of_decide_eq_true (by first | (with_reducible assumption) | assumption)) q36 hroom36
                                      have hr36 := Kd.C_take (m := (x18_2 : Int).toNat) hC36 (by omega)
                                      have hy36 : y337.length = (x18_2 : Int).toNat := (by rw [Ny337.out, List.length_take]; omega)
                                      rw [← Ny337.out] at hr36
                                      rw [← hy36] at hcut36
                                      have HR340 := Aside0.mk hr36
                                      have HC340 := Aside0.mk (show y337.length ≤ c329_0 from by omega)
                                      clear hr36 hC36 hroom36 hi036 hsz36
                                      have KY36 := Aside0.mk hy36
                                      clear hy36
                                      replace q36 := eq_true q36
                                      go_wp2
                                      go_loopg [51] kj21 (fun kq v51 w' => ∃ (x51_5 : Int), v51 = .int .i64 x51_5 ∧ Aside0 (spec_GoodRankings.l2 kq l0 l0 (l0.length : Int) x11_1 ((rd_T108 l0 x11_1).f0) (((rd_T108 l0 x11_1).f0).length : Int) x18_2 y337 (y337.length : Int) x51_5 ((rd_T108 l0 x11_1).f0) ((rd_T110 ((rd_T108 l0 x11_1).f0) x18_2).f0) ((rd_T110 ((rd_T108 l0 x11_1).f0) x18_2).f1) = some r) ∧ Aside0 (kq ≤ kj21) ∧ Aside0 (w'.heap[gb330]? = some (.cells #[(.slice (some ad331) ((rd_T108 l0 x11_1).f0).length c329_0)] 108 (0, 0))) ∧ Aside0 (w'.heap[gb332]? = some (.cells #[.int .i64 ((rd_T110 ((rd_T108 l0 x11_1).f0) x18_2).f0), .int .i64 ((rd_T110 ((rd_T108 l0 x11_1).f0) x18_2).f1)] 110 (0, 0))) ∧ Aside0 (Below w.heap.size w w'))
                                      case atStart => exact ⟨(0), (by first | rfl | (simp; done) | (simp [*]; done)), H', ⟨Nat.le_refl _⟩, ⟨by (with_reducible repeat (first | refine blk_drewN ?_ _ | refine blk_drew ?_ | refine blk_alloc ?_ _)); exact BK330.out⟩, ⟨by (with_reducible repeat (first | refine blk_drewN ?_ _ | refine blk_drew ?_ | refine blk_alloc ?_ _)); exact BK332.out⟩, ⟨by repeat (first | (with_reducible first | exact HB.out | apply below_alloc | apply pw_below_drewN | apply below_drew1 | refine below_set ?_ GE330.out | refine below_set ?_ GE332.out) | exact HB.out)⟩⟩
                                      case round =>
                                        clear H'
                                        try clear c1
                                        try clear c2
                                        try clear c2b0
                                        try clear p2
                                        try clear c3
                                        try clear c3b0
                                        try clear p3
                                        try clear q3
                                        try clear hx3
                                        try clear c4
                                        try clear c4b0
                                        try clear p6
                                        try clear c7
                                        try clear c7b0
                                        try clear c8
                                        try clear c8b0
                                        try clear c9
                                        try clear c9b0
                                        try clear c12
                                        try clear c15
                                        try clear c17
                                        try clear c19
                                        try clear c21
                                        try clear c23
                                        try clear c23b0
                                        try clear c25
                                        try clear c25b0
                                        try clear c26
                                        try clear c26b0
                                        try clear c31
                                        try clear c32
                                        try clear c32b0
                                        try clear c32b1
                                        try clear p32
                                        try clear q32
                                        try clear hx32
                                        try clear c33
                                        try clear c33b0
                                        try clear c33b1
                                        try clear p33
                                        try clear q33
                                        try clear hx33
                                        try clear c34
                                        try clear q36
                                        try clear hcz13_0
                                        try clear hcz13_1
                                        try clear hcz18_0
                                        try clear hcz18_1
                                        try clear hcz20_0
                                        try clear hcz20_1
                                        try clear hcz35_0
                                        try clear hcz6_0
                                        try clear hfz13_0
                                        try clear hfz13_1
                                        try clear hfz18_0
                                        try clear hfz18_1
                                        try clear hfz20_0
                                        try clear hfz20_1
                                        try clear hfz35_0
                                        try clear hfz6_0
                                        try clear hx329_0
                                        try clear hx331_0
                                        try clear hx331_1
                                        try clear hx335_0
                                        try clear hx335_1
                                        try clear p2
                                        try clear p3
                                        try clear p329
                                        try clear p331
                                        try clear p335
                                        try clear p6
                                        try clear q3
                                        try clear q329
                                        try clear q331
                                        try clear q335
                                        try clear q36
                                        obtain ⟨x51_5, rfl, HA, HK5, BK330, BK332, HB⟩ := hrel
                                        cases gk with
                                        | zero => exact absurd HA.out (by simp [spec_GoodRankings.l2])
                                        | succ k5 =>
                                          have H := HA.out
                                          clear HA
                                          simp only [spec_GoodRankings.l2] at H
                                          by_cases c37 : x51_5 < (y337.length : Int)
                                          · rw [if_pos c37] at H
                                            have c37b0 : decide (x51_5 < (y337.length : Int)) = true := decide_eq_true c37
                                            clear c37
                                            by_cases c38 : 0 ≤ x51_5
                                            · rw [if_pos c38] at H
                                              have c38b0 : decide (0 ≤ x51_5) = true := decide_eq_true c38
                                              clear c38
                                              by_cases c39 : x51_5 < (y337.length : Int)
                                              · rw [if_pos c39] at H
                                                have c39b0 : decide (x51_5 < (y337.length : Int)) = true := decide_eq_true c39
                                                clear c39
                                                by_cases c40 : ((rd_T110 y337 x51_5).f0) = ((rd_T110 ((rd_T108 l0 x11_1).f0) x18_2).f0)
                                                · rw [if_pos c40] at H
                                                  have c40b0 : (((rd_T110 y337 x51_5).f0) == ((rd_T110 ((rd_T108 l0 x11_1).f0) x18_2).f0)) = true := beq_iff_eq.mpr c40
                                                  have c40b1 : (((rd_T110 y337 x51_5).f0) != ((rd_T110 ((rd_T108 l0 x11_1).f0) x18_2).f0)) = false := bne_eq_false_iff_eq.mpr c40
                                                  clear c40
                                                  obtain rfl := Option.some.inj H
                                                  have p341 : 0 ≤ (x51_5 : Int) := of_decide_eq_true (by first | (with_reducible assumption) | assumption)
                                                  have q341 : x51_5 < (y337.length : Int) := of_decide_eq_true (by first | (with_reducible assumption) | assumption)
                                                  obtain ⟨ad341, e341, hx341_0, hx341_1⟩ := at_T110 HR340.out x51_5 p341 q341
                                                  obtain rfl : ad331 = ad341 := (by injection e341)
                                                  try have hz_hx341_0 := Aside0.mk hx341_0
                                                  try have hz_hx341_1 := Aside0.mk hx341_1
                                                  replace hx341_0 := (HB.out.cell (World.block_lt_of_cell? w _ hx341_0)).trans hx341_0
                                                  replace hx341_1 := (HB.out.cell (World.block_lt_of_cell? w _ hx341_1)).trans hx341_1
                                                  replace p341 := eq_true p341
                                                  replace q341 := eq_true q341
                                                  go_wp2_with (first | ((with_reducible refine gate_dst (N := 8) rfl ?_); refine box_event ?hg (N := 8) ?hd (cs := #[.int .i64 0, .int .i64 0]) (t := 110) ?hr ?_; (case hd => rfl); (case hg => rfl); (case hr => first | (go_simp; done) | (go_simp; rfl)); intro gb342 hg w41 hbox hb; have n0_ := Aside0.mk (blk_below (g := gb330) (o := .cells #[.slice (some ad331) ((rd_T108 l0 x11_1).f0).length c329_0] 108 (0, 0)) (by (with_reducible repeat (first | refine blk_drewN ?_ _ | refine blk_drew ?_ | refine blk_alloc ?_ _)); exact BK330.out) hb); have n1_ := Aside0.mk (blk_below (g := gb332) (o := .cells #[.int .i64 ((rd_T110 ((rd_T108 l0 x11_1).f0) x18_2).f0), .int .i64 ((rd_T110 ((rd_T108 l0 x11_1).f0) x18_2).f1)] 110 (0, 0)) (by (with_reducible repeat (first | refine blk_drewN ?_ _ | refine blk_drew ?_ | refine blk_alloc ?_ _)); exact BK332.out) hb); have n2_ := Aside0.mk (below_step (by repeat (first | (with_reducible first | exact HB.out | apply below_alloc | apply pw_below_drewN | apply below_drew1 | refine below_set ?_ GE330.out | refine below_set ?_ GE332.out) | exact HB.out)) hb); have n3_ := Aside0.mk (hbox); have n4_ := Aside0.mk ((by rw [hg]; exact (below_size (by repeat (first | (with_reducible first | exact HB.out | apply below_alloc | apply pw_below_drewN | apply below_drew1 | refine below_set ?_ GE330.out | refine below_set ?_ GE332.out) | exact HB.out))) : w.heap.size ≤ gb342)); have n5_ := Aside0.mk ((by rw [hg]; exact (below_size (by repeat (first | (with_reducible first | exact HB.out | apply below_alloc | apply pw_below_drewN | apply below_drew1 | refine below_set ?_ GE330.out | refine below_set ?_ GE332.out) | exact HB.out))) : w.heap.size ≤ gb342)); have n6_ := Aside0.mk ((by rw [hg]; exact Nat.ne_of_lt (blk_lt (g := gb330) (o := .cells #[.slice (some ad331) ((rd_T108 l0 x11_1).f0).length c329_0] 108 (0, 0)) (by (with_reducible repeat (first | refine blk_drewN ?_ _ | refine blk_drew ?_ | refine blk_alloc ?_ _)); exact BK330.out)) : gb330 ≠ gb342)); have n7_ := Aside0.mk ((by rw [hg]; exact Nat.ne_of_gt (blk_lt (g := gb330) (o := .cells #[.slice (some ad331) ((rd_T108 l0 x11_1).f0).length c329_0] 108 (0, 0)) (by (with_reducible repeat (first | refine blk_drewN ?_ _ | refine blk_drew ?_ | refine blk_alloc ?_ _)); exact BK330.out)) : gb342 ≠ gb330)); have n8_ := Aside0.mk ((by rw [hg]; exact Nat.ne_of_lt (blk_lt (g := gb332) (o := .cells #[.int .i64 ((rd_T110 ((rd_T108 l0 x11_1).f0) x18_2).f0), .int .i64 ((rd_T110 ((rd_T108 l0 x11_1).f0) x18_2).f1)] 110 (0, 0)) (by (with_reducible repeat (first | refine blk_drewN ?_ _ | refine blk_drew ?_ | refine blk_alloc ?_ _)); exact BK332.out)) : gb332 ≠ gb342)); have n9_ := Aside0.mk ((by rw [hg]; exact Nat.ne_of_gt (blk_lt (g := gb332) (o := .cells #[.int .i64 ((rd_T110 ((rd_T108 l0 x11_1).f0) x18_2).f0), .int .i64 ((rd_T110 ((rd_T108 l0 x11_1).f0) x18_2).f1)] 110 (0, 0)) (by (with_reducible repeat (first | refine blk_drewN ?_ _ | refine blk_drew ?_ | refine blk_alloc ?_ _)); exact BK332.out)) : gb342 ≠ gb332)); clear BK330; clear BK332; clear HB; have BK330 := n0_; have BK332 := n1_; have HB := n2_; have BK342 := n3_; have GW342 := n4_; have GE342 := n5_; have NB330_342 := n6_; have NB342_330 := n7_; have NB332_342 := n8_; have NB342_332 := n9_; clear n0_ n1_ n2_ n3_ n4_ n5_ n6_ n7_ n8_ n9_; clear hb hbox hg; have hnb42 := NB342_330.out; have hnc42 := NB330_342.out; have hnb43 := NB342_332.out; have hnc43 := NB332_342.out; have hcz44_0 : w41.cell? ⟨gb342, 0, none⟩ = some (.int .i64 0) := (blk_cell BK342.out 0).trans rfl; have hcz44_1 : w41.cell? ⟨gb342, 1, none⟩ = some (.int .i64 0) := (blk_cell BK342.out 1).trans rfl; have hfz44_0 := blk_frozen BK342.out 0; have hfz44_1 := blk_frozen BK342.out 1; have hnb45 := NB332_330.out; have hnc45 := NB330_332.out; have hcz46_0 : w41.cell? ⟨gb332, 0, none⟩ = some (.int .i64 ((rd_T110 ((rd_T108 l0 x11_1).f0) x18_2).f0)) := (blk_cell BK332.out 0).trans rfl; have hcz46_1 : w41.cell? ⟨gb332, 1, none⟩ = some (.int .i64 ((rd_T110 ((rd_T108 l0 x11_1).f0) x18_2).f1)) := (blk_cell BK332.out 1).trans rfl; have hfz46_0 := blk_frozen BK332.out 0; have hfz46_1 := blk_frozen BK332.out 1))
                                                  go_ret
                                                  exact ⟨by first | rfl | (simp [errW_none, errW_some] <;> rfl) | (simp [*, errW_none, errW_some] <;> rfl), by repeat (first | (with_reducible first | exact HB.out | apply below_alloc | apply pw_below_drewN | apply below_drew1 | refine below_set ?_ GE330.out | refine below_set ?_ GE332.out | refine below_set ?_ GE342.out) | exact HB.out)⟩
                                                · rw [if_neg c40] at H
                                                  have c40b0 : (((rd_T110 y337 x51_5).f0) == ((rd_T110 ((rd_T108 l0 x11_1).f0) x18_2).f0)) = false := beq_eq_false_iff_ne.mpr c40
                                                  have c40b1 : (((rd_T110 y337 x51_5).f0) != ((rd_T110 ((rd_T108 l0 x11_1).f0) x18_2).f0)) = true := bne_iff_ne.mpr c40
                                                  have H' := Aside0.mk H
                                                  clear H
                                                  have p341 : 0 ≤ (x51_5 : Int) := of_decide_eq_true (by first | (with_reducible assumption) | assumption)
                                                  have q341 : x51_5 < (y337.length : Int) := of_decide_eq_true (by first | (with_reducible assumption) | assumption)
                                                  obtain ⟨ad341, e341, hx341_0, hx341_1⟩ := at_T110 HR340.out x51_5 p341 q341
                                                  obtain rfl : ad331 = ad341 := (by injection e341)
                                                  try have hz_hx341_0 := Aside0.mk hx341_0
                                                  try have hz_hx341_1 := Aside0.mk hx341_1
                                                  replace hx341_0 := (HB.out.cell (World.block_lt_of_cell? w _ hx341_0)).trans hx341_0
                                                  replace hx341_1 := (HB.out.cell (World.block_lt_of_cell? w _ hx341_1)).trans hx341_1
                                                  replace p341 := eq_true p341
                                                  replace q341 := eq_true q341
                                                  go_wp2_with (first | ((with_reducible refine gate_dst (N := 8) rfl ?_); refine box_event ?hg (N := 8) ?hd (cs := #[.int .i64 0, .int .i64 0]) (t := 110) ?hr ?_; (case hd => rfl); (case hg => rfl); (case hr => first | (go_simp; done) | (go_simp; rfl)); intro gb342 hg w47 hbox hb; have n0_ := Aside0.mk (blk_below (g := gb330) (o := .cells #[.slice (some ad331) ((rd_T108 l0 x11_1).f0).length c329_0] 108 (0, 0)) (by (with_reducible repeat (first | refine blk_drewN ?_ _ | refine blk_drew ?_ | refine blk_alloc ?_ _)); exact BK330.out) hb); have n1_ := Aside0.mk (blk_below (g := gb332) (o := .cells #[.int .i64 ((rd_T110 ((rd_T108 l0 x11_1).f0) x18_2).f0), .int .i64 ((rd_T110 ((rd_T108 l0 x11_1).f0) x18_2).f1)] 110 (0, 0)) (by (with_reducible repeat (first | refine blk_drewN ?_ _ | refine blk_drew ?_ | refine blk_alloc ?_ _)); exact BK332.out) hb); have n2_ := Aside0.mk (below_step (by repeat (first | (with_reducible first | exact HB.out | apply below_alloc | apply pw_below_drewN | apply below_drew1 | refine below_set ?_ GE330.out | refine below_set ?_ GE332.out) | exact HB.out)) hb); have n3_ := Aside0.mk (hbox); have n4_ := Aside0.mk ((by rw [hg]; exact (below_size (by repeat (first | (with_reducible first | exact HB.out | apply below_alloc | apply pw_below_drewN | apply below_drew1 | refine below_set ?_ GE330.out | refine below_set ?_ GE332.out) | exact HB.out))) : w.heap.size ≤ gb342)); have n5_ := Aside0.mk ((by rw [hg]; exact (below_size (by repeat (first | (with_reducible first | exact HB.out | apply below_alloc | apply pw_below_drewN | apply below_drew1 | refine below_set ?_ GE330.out | refine below_set ?_ GE332.out) | exact HB.out))) : w.heap.size ≤ gb342)); have n6_ := Aside0.mk ((by rw [hg]; exact Nat.ne_of_lt (blk_lt (g := gb330) (o := .cells #[.slice (some ad331) ((rd_T108 l0 x11_1).f0).length c329_0] 108 (0, 0)) (by (with_reducible repeat (first | refine blk_drewN ?_ _ | refine blk_drew ?_ | refine blk_alloc ?_ _)); exact BK330.out)) : gb330 ≠ gb342)); have n7_ := Aside0.mk ((by rw [hg]; exact Nat.ne_of_gt (blk_lt (g := gb330) (o := .cells #[.slice (some ad331) ((rd_T108 l0 x11_1).f0).length c329_0] 108 (0, 0)) (by (with_reducible repeat (first | refine blk_drewN ?_ _ | refine blk_drew ?_ | refine blk_alloc ?_ _)); exact BK330.out)) : gb342 ≠ gb330)); have n8_ := Aside0.mk ((by rw [hg]; exact Nat.ne_of_lt (blk_lt (g := gb332) (o := .cells #[.int .i64 ((rd_T110 ((rd_T108 l0 x11_1).f0) x18_2).f0), .int .i64 ((rd_T110 ((rd_T108 l0 x11_1).f0) x18_2).f1)] 110 (0, 0)) (by (with_reducible repeat (first | refine blk_drewN ?_ _ | refine blk_drew ?_ | refine blk_alloc ?_ _)); exact BK332.out)) : gb332 ≠ gb342)); have n9_ := Aside0.mk ((by rw [hg]; exact Nat.ne_of_gt (blk_lt (g := gb332) (o := .cells #[.int .i64 ((rd_T110 ((rd_T108 l0 x11_1).f0) x18_2).f0), .int .i64 ((rd_T110 ((rd_T108 l0 x11_1).f0) x18_2).f1)] 110 (0, 0)) (by (with_reducible repeat (first | refine blk_drewN ?_ _ | refine blk_drew ?_ | refine blk_alloc ?_ _)); exact BK332.out)) : gb342 ≠ gb332)); clear BK330; clear BK332; clear HB; have BK330 := n0_; have BK332 := n1_; have HB := n2_; have BK342 := n3_; have GW342 := n4_; have GE342 := n5_; have NB330_342 := n6_; have NB342_330 := n7_; have NB332_342 := n8_; have NB342_332 := n9_; clear n0_ n1_ n2_ n3_ n4_ n5_ n6_ n7_ n8_ n9_; clear hb hbox hg; have hnb48 := NB342_330.out; have hnc48 := NB330_342.out; have hnb49 := NB342_332.out; have hnc49 := NB332_342.out; have hcz50_0 : w47.cell? ⟨gb342, 0, none⟩ = some (.int .i64 0) := (blk_cell BK342.out 0).trans rfl; have hcz50_1 : w47.cell? ⟨gb342, 1, none⟩ = some (.int .i64 0) := (blk_cell BK342.out 1).trans rfl; have hfz50_0 := blk_frozen BK342.out 0; have hfz50_1 := blk_frozen BK342.out 1; have hnb51 := NB332_330.out; have hnc51 := NB330_332.out; have hcz52_0 : w47.cell? ⟨gb332, 0, none⟩ = some (.int .i64 ((rd_T110 ((rd_T108 l0 x11_1).f0) x18_2).f0)) := (blk_cell BK332.out 0).trans rfl; have hcz52_1 : w47.cell? ⟨gb332, 1, none⟩ = some (.int .i64 ((rd_T110 ((rd_T108 l0 x11_1).f0) x18_2).f1)) := (blk_cell BK332.out 1).trans rfl; have hfz52_0 := blk_frozen BK332.out 0; have hfz52_1 := blk_frozen BK332.out 1))
                                                  go_roundg k5
                                                  case measure => have := HK1.out; have := HK2.out; have := HJ9.out; have := HJ21.out; have := HK5.out; omega
                                                  case rel => exact ⟨(wrap64 (x51_5 + 1)), (by first | rfl | (simp; done) | (simp [*]; done)), H', ⟨by have := HK1.out; have := HK2.out; have := HJ9.out; have := HJ21.out; have := HK5.out; omega⟩, ⟨by (with_reducible repeat (first | refine blk_drewN ?_ _ | refine blk_drew ?_ | refine blk_alloc ?_ _)); refine blk_far ?_ NB330_342.out _; (with_reducible repeat (first | refine blk_drewN ?_ _ | refine blk_drew ?_ | refine blk_alloc ?_ _)); refine blk_far ?_ NB330_342.out _; (with_reducible repeat (first | refine blk_drewN ?_ _ | refine blk_drew ?_ | refine blk_alloc ?_ _)); exact BK330.out⟩, ⟨by (with_reducible repeat (first | refine blk_drewN ?_ _ | refine blk_drew ?_ | refine blk_alloc ?_ _)); refine blk_far ?_ NB332_342.out _; (with_reducible repeat (first | refine blk_drewN ?_ _ | refine blk_drew ?_ | refine blk_alloc ?_ _)); refine blk_far ?_ NB332_342.out _; (with_reducible repeat (first | refine blk_drewN ?_ _ | refine blk_drew ?_ | refine blk_alloc ?_ _)); exact BK332.out⟩, ⟨by repeat (first | (with_reducible first | exact HB.out | apply below_alloc | apply pw_below_drewN | apply below_drew1 | refine below_set ?_ GE330.out | refine below_set ?_ GE332.out | refine below_set ?_ GE342.out) | exact HB.out)⟩⟩
                                              · rw [if_neg c39] at H
                                                exact absurd H (by simp)
                                            · rw [if_neg c38] at H
                                              exact absurd H (by simp)
                                          · rw [if_neg c37] at H
                                            have c37b0 : decide (x51_5 < (y337.length : Int)) = false := decide_eq_false c37
                                            clear c37
                                            have H' := Aside0.mk H
                                            clear H
                                            go_wp2
                                            go_roundg k5
                                            case measure => have := HK1.out; have := HK2.out; have := HJ9.out; have := HJ21.out; have := HK5.out; omega
                                            case rel => exact ⟨(wrap64 (x18_2 + 1)), (by first | rfl | (simp; done) | (simp [*]; done)), H', ⟨by have := HK1.out; have := HK2.out; have := HJ9.out; have := HJ21.out; have := HK5.out; omega⟩, ⟨by (with_reducible repeat (first | refine blk_drewN ?_ _ | refine blk_drew ?_ | refine blk_alloc ?_ _)); exact BK330.out⟩, ⟨by repeat (first | (with_reducible first | exact HB.out | apply below_alloc | apply pw_below_drewN | apply below_drew1 | refine below_set ?_ GE330.out | refine below_set ?_ GE332.out) | exact HB.out)⟩⟩
                                    · rw [if_neg c33] at H
                                      exact absurd H (by simp)
                                  · rw [if_neg c32] at H
                                    exact absurd H (by simp)
                    · rw [if_neg c9] at H
                      exact absurd H (by simp)
                  · rw [if_neg c8] at H
                    exact absurd H (by simp)
                · rw [if_neg c7] at H
                  have c7b0 : decide (x18_2 < (((rd_T108 l0 x11_1).f0).length : Int)) = false := decide_eq_false c7
                  clear c7
                  by_cases c53 : (((rd_T108 l0 x11_1).f0).length : Int) > 60
                  · rw [if_pos c53] at H
                    have c53b0 : decide (60 < (((rd_T108 l0 x11_1).f0).length : Int)) = true := decide_eq_true c53
                    have c53b1 : decide (60 < ((rd_T108 l0 x11_1).f0).length) = true := decide_eq_true (by omega)
                    clear c53
                    obtain rfl := Option.some.inj H
                    have hcz54_0 : wr.cell? ⟨gb330, 0, none⟩ = some (.slice A329_0 ((rd_T108 l0 x11_1).f0).length c329_0) := (blk_cell BK330.out 0).trans rfl
                    have hfz54_0 := blk_frozen BK330.out 0
                    go_wp2
                    go_ret
                    exact ⟨by first | rfl | (simp [errW_none, errW_some] <;> rfl) | (simp [*, errW_none, errW_some] <;> rfl), by repeat (first | (with_reducible first | exact HB.out | apply below_alloc | apply pw_below_drewN | apply below_drew1 | refine below_set ?_ GE330.out) | exact HB.out)⟩
                  · rw [if_neg c53] at H
                    have c53b0 : decide (60 < (((rd_T108 l0 x11_1).f0).length : Int)) = false := decide_eq_false c53
                    have c53b1 : decide (60 < ((rd_T108 l0 x11_1).f0).length) = false := decide_eq_false (by omega)
                    clear c53
                    have H' := Aside0.mk H
                    clear H
                    have hcz55_0 : wr.cell? ⟨gb330, 0, none⟩ = some (.slice A329_0 ((rd_T108 l0 x11_1).f0).length c329_0) := (blk_cell BK330.out 0).trans rfl
                    have hfz55_0 := blk_frozen BK330.out 0
                    go_wp2
                    go_roundg k2
                    case measure => have := HK1.out; have := HK2.out; omega
                    case rel => exact ⟨(wrap64 (x11_1 + 1)), (by first | rfl | (simp; done) | (simp [*]; done)), H', ⟨by have := HK1.out; have := HK2.out; omega⟩, ⟨by repeat (first | (with_reducible first | exact HB.out | apply below_alloc | apply pw_below_drewN | apply below_drew1 | refine below_set ?_ GE330.out) | exact HB.out)⟩⟩
          · rw [if_neg c4] at H
            exact absurd H (by simp)
        · rw [if_neg c3] at H
          exact absurd H (by simp)
      · rw [if_neg c2] at H
        have c2b0 : decide (x11_1 < (l0.length : Int)) = false := decide_eq_false c2
        clear c2
        obtain rfl := Option.some.inj H
        go_wp2
        go_ret
        exact ⟨by first | rfl | (simp [errW_none, errW_some] <;> rfl) | (simp [*, errW_none, errW_some] <;> rfl), by repeat (first | (with_reducible first | exact HB.out | apply below_alloc | apply pw_below_drewN | apply below_drew1) | exact HB.out)⟩

end Go.Proofs.Ytilgcfhnpnokpaa.PQ
