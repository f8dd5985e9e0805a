/- Several texts in one: what the claim's last text rests on. No conditions. -/
import Derived.Test.YtcngebfcpobnnaaMRm7
import Derived.Test.YtcngebfcpobnnaaMRm12
import Derived.Test.YtcngebfcpobnnaaMRm5
section
namespace Go.Proofs.Ytcngebfcpobnnaa.PQ
open Go.RowKit Go.Proofs.YtcngebfcpobnnaaW.PrintWords Go.Proofs.YtcngebfcpobnnaaW.PrintLast Go.Proofs.YtcngebfcpobnnaaW.PrintMore
attribute [local go_sem] max2_int min2_int max_two min_two max_three min_three max_four min_four
set_option linter.unusedVariables false
set_option linter.unusedSimpArgs false
mutual
def spec_LongestPrefix.j0 : Nat → ByteArray → List ByteArray → Bool → Option (ByteArray × Bool)
 | 0, _, _, _ => none
 | k + 1, x1, x6, x22 => if x22 = true then (some ((⟨#[]⟩ : ByteArray), false)) else (spec_LongestPrefix.l0 k x1 (⟨#[]⟩ : ByteArray) x6 (x6.length : Int) 0)
def spec_LongestPrefix.l0 : Nat → ByteArray → ByteArray → List ByteArray → Int → Int → Option (ByteArray × Bool)
 | 0, _, _, _, _, _ => none
 | k + 1, x1, x8, x23, x24, x25 => if x25 < x24 then (if 0 ≤ x25 then (if x25 < (x23.length : Int) then (if ((rdOf ByteArray.empty x23 x25).size : Int) > (x8.size : Int) then (if ((rdOf ByteArray.empty x23 x25).size : Int) ≤ (x1.size : Int) then (if 0 ≤ ((rdOf ByteArray.empty x23 x25).size : Int) then (if (x1.extract 0 (rdOf ByteArray.empty x23 x25).size).toList = (rdOf ByteArray.empty x23 x25).toList then (spec_LongestPrefix.l0 k x1 (rdOf ByteArray.empty x23 x25) x23 x24 (wrap64 (x25 + 1))) else (spec_LongestPrefix.l0 k x1 x8 x23 x24 (wrap64 (x25 + 1)))) else (none)) else (spec_LongestPrefix.l0 k x1 x8 x23 x24 (wrap64 (x25 + 1)))) else (spec_LongestPrefix.l0 k x1 x8 x23 x24 (wrap64 (x25 + 1)))) else (none)) else (none)) else (some (x8, (x8.toList != ([] : List UInt8))))
end
def spec_LongestPrefix.f (k : Nat) (l0_0 : List (S64)) (a1 : ByteArray) : Option (ByteArray × Bool) := (spec_l13Good.f k l0_0).bind fun bt551 => (if bt551.2 = true then (spec_LongestPrefix.j0 k a1 bt551.1 (decide ((a1.size : Int) > 60))) else (spec_LongestPrefix.j0 k a1 bt551.1 true))
set_option maxHeartbeats 8000000 in
set_option maxRecDepth 100000 in
theorem spec_LongestPrefix.calls (k : Nat) (A0_0 : Option Addr) (c0_0 : Nat) (l0_0 : List (S64)) (a1 : ByteArray) (r1 : ByteArray) (r2 : Bool) (w : World) (hr0_0 : Kd.C k64 w A0_0 l0_0.length l0_0) (hc0_0 : l0_0.length ≤ c0_0) (h : spec_LongestPrefix.f k l0_0 a1 = some (r1, r2)) :
  Calls Try.prog 24 #[.agg #[.slice A0_0 l0_0.length c0_0], .string a1] w fun e w' => e = .returned (.tuple #[.string r1, .bool r2]) ∧ Below w.heap.size w w' := by
 have hu26 := Try.underlying26
 have HR0_0 := aM hr0_0
 have HC0_0 := aM hc0_0
 clear hr0_0 hc0_0
 have HB := aM (Below.refl w.heap.size w)
 have H : ((spec_l13Good.f k l0_0).bind fun bt551 => (if bt551.2 = true then (spec_LongestPrefix.j0 k a1 bt551.1 (decide ((a1.size : Int) > 60))) else (spec_LongestPrefix.j0 k a1 bt551.1 true))) = some (r1, r2) := h
 clear h
 replace H := Option.bind_eq_some_iff.mp H
 obtain ⟨⟨t551, t554⟩, A30, H⟩ := H
 replace H : (if t554 = true then (spec_LongestPrefix.j0 k a1 t551 (decide ((a1.size : Int) > 60))) else (spec_LongestPrefix.j0 k a1 t551 true)) = some (r1, r2) := H
 have A3 := aM A30
 clear A30
 have HC4 := aM H
 clear H
 go_enter Try.func24, Try.ntmps24
 go_upto_region 2 with (first | ((with_reducible refine gate_dst (N := 2) rfl ?_); (try (refine gate_guard (by rfl) ?_; dsimp only)); refine box_event ?hg (N := 2) ?hd (cs := #[.slice A0_0 l0_0.length c0_0]) (t := 26) ?hr ?_; (case hd => rfl); (case hg => rfl); (case hr => first | (go_simp; done) | (go_simp; rfl)); intro gb550 hg w5 hbox hb; have n0_ := aM (below_step (by repeat (first | (with_reducible first | exact HB.out | apply below_alloc | apply pw_below_drewN | apply below_drew1) | exact HB.out)) hb); have n1_ := aM (hbox); have n2_ := aM ((by rw [hg]; exact (below_size (by repeat (first | (with_reducible first | exact HB.out | apply below_alloc | apply pw_below_drewN | apply below_drew1) | exact HB.out))) : w.heap.size ≤ gb550)); have n3_ := aM ((by rw [hg]; exact (below_size (by repeat (first | (with_reducible first | exact HB.out | apply below_alloc | apply pw_below_drewN | apply below_drew1) | exact HB.out))) : w.heap.size ≤ gb550)); clear HB; have HB := n0_; have BK550 := n1_; have GW550 := n2_; have GE550 := n3_; clear n0_ n1_ n2_ n3_; clear hb hbox hg; have hcz6_0 : w5.cell? ⟨gb550, 0, none⟩ = some (.slice A0_0 l0_0.length c0_0) := (blk_cell BK550.out 0).trans rfl; have hfz6_0 := blk_frozen BK550.out 0) | ((with_reducible refine gate_callee (f := 52) rfl ?_); refine goesL_ (some 13) rfl rfl Try.func52 (by kernel_rfl) rfl #[.agg #[.slice A0_0 l0_0.length c0_0]] rfl (by (try simp only [List.map_toArray, List.map_cons, List.map_nil]); first | done | rfl | (simp only [List.length_drop, List.length_take]; rfl)) ?_; (with_reducible refine (spec_l13Good.calls k _ _ l0_0 t551 t554 _ ?side1 ?side2 A3.out).mono ?_); (case side1 => repeat (first | exact (Kd.C_below HR0_0.out HB.out) | (with_reducible refine Kd.C_alloc ?_ _) | (with_reducible refine Kd.C_drewN ?_ _) | (with_reducible refine Kd.C_drew ?_))); (case side2 => exact HC0_0.out); rintro e w7 ⟨v552, rfl, ho0, hb⟩; refine ⟨_, rfl, ?_⟩; have n0_ := aM (Kd.R_lower ho0 (below_size (by repeat (first | (with_reducible first | exact HB.out | apply below_alloc | apply pw_below_drewN | apply below_drew1 | refine below_set ?_ GE550.out) | exact HB.out)))); have n1_ := aM (blk_below (g := gb550) (o := .cells #[.slice A0_0 l0_0.length c0_0] 26 (0, 0)) (by (with_reducible repeat (first | refine blk_drewN ?_ _ | refine blk_drew ?_ | refine blk_alloc ?_ _)); exact BK550.out) hb); have n2_ := aM (below_step (by repeat (first | (with_reducible first | exact HB.out | apply below_alloc | apply pw_below_drewN | apply below_drew1 | refine below_set ?_ GE550.out) | exact HB.out)) hb); clear BK550; clear HB; have HO553 := n0_; have BK550 := n1_; have HB := n2_; clear n0_ n1_ n2_; (try clear hb); (try clear hb2); (try clear hk); (try clear hi); (try clear ho0)))
 (try simp only [Act.put, zSA, zSB, zSC])
 go_cut [22] (fun v22 wc => ∃ (kq : Nat) (x22_3 : Bool), v22 = .bool x22_3 ∧ Aside0 (spec_LongestPrefix.j0 kq a1 t551 x22_3 = some (r1, r2)) ∧ Aside0 (kq ≤ k) ∧ Aside0 (Kd.R Kd.string 9 wc w.heap.size (fun _ => True) v552 t551) ∧ Aside0 (wc.heap[gb550]? = some (.cells #[(.slice A0_0 l0_0.length c0_0)] 26 (0, 0))) ∧ Aside0 (Below w.heap.size w wc))
 case first =>
  have H := HC4.out
  clear HC4
  by_cases c8 : t554 = true
  ·
   subst c8
   have H1 : (spec_LongestPrefix.j0 k a1 t551 (decide ((a1.size : Int) > 60))) = some (r1, r2) := by rw [if_pos rfl] at H; exact H
   clear H
   have H := H1
   clear H1
   have H' := aM H
   clear H
   go_wp2
   go_meet
   case rel => exact ⟨_, (decide ((a1.size : Int) > 60)), (by first | rfl | (simp; done) | (simp [*]; done)), H', ⟨by first | omega | exact Nat.le_refl _⟩, ⟨by (with_reducible repeat (first | apply Kd.R_alloc | apply Kd.R_drewN | apply Kd.R_drew)); exact HO553.out⟩, ⟨by (with_reducible repeat (first | refine blk_drewN ?_ _ | refine blk_drew ?_ | refine blk_alloc ?_ _)); exact BK550.out⟩, ⟨by repeat (first | (with_reducible first | exact HB.out | apply below_alloc | apply pw_below_drewN | apply below_drew1 | refine below_set ?_ GE550.out) | exact HB.out)⟩⟩
  ·
   replace c8 := Bool.eq_false_iff.mpr c8
   subst c8
   have H1 : (spec_LongestPrefix.j0 k a1 t551 true) = some (r1, r2) := by rw [if_neg (show ¬ (false = true) by decide)] at H; exact H
   clear H
   have H := H1
   clear H1
   have H' := aM H
   clear H
   go_wp2
   go_meet
   case rel => exact ⟨_, (true), (by first | rfl | (simp; done) | (simp [*]; done)), H', ⟨by first | omega | exact Nat.le_refl _⟩, ⟨by (with_reducible repeat (first | apply Kd.R_alloc | apply Kd.R_drewN | apply Kd.R_drew)); exact HO553.out⟩, ⟨by (with_reducible repeat (first | refine blk_drewN ?_ _ | refine blk_drew ?_ | refine blk_alloc ?_ _)); exact BK550.out⟩, ⟨by repeat (first | (with_reducible first | exact HB.out | apply below_alloc | apply pw_below_drewN | apply below_drew1 | refine below_set ?_ GE550.out) | exact HB.out)⟩⟩
 case rest =>
  clear HC4
  try clear c2
  try clear p2
  try clear c5
  try clear c8
  try clear hcz6_0
  try clear hfz6_0
  obtain ⟨kq, x22_3, rfl, HA, HJ3, HO_6, BK550, HB⟩ := hcut
  cases kq with
  | zero => exact absurd HA.out (by simp [spec_LongestPrefix.j0])
  | succ kj3 =>
   have H := HA.out
   clear HA
   simp only [spec_LongestPrefix.j0] at H
   by_cases c9 : x22_3 = true
   ·
    subst c9
    have H1 : (some ((⟨#[]⟩ : ByteArray), false)) = some (r1, r2) := by rw [if_pos rfl] at H; exact H
    clear H
    have H := H1
    clear H1
    simp only [Option.some.injEq, Prod.mk.injEq] at H
    obtain ⟨rfl, rfl⟩ := H
    go_wp2
    go_ret2
    exact ⟨by first | rfl | (rw [Go.Proofs.Ytcngebfcpobnnaa.Pre.bne_nil]; first | rfl | (simp; done) | (simp <;> rfl)) | (simp [errW_none, errW_some] <;> rfl) | (simp [*, errW_none, errW_some] <;> rfl), by repeat (first | (with_reducible first | exact HB.out | apply below_alloc | apply pw_below_drewN | apply below_drew1 | refine below_set ?_ GE550.out) | exact HB.out)⟩
   ·
    replace c9 := Bool.eq_false_iff.mpr c9
    subst c9
    have H1 : (spec_LongestPrefix.l0 kj3 a1 (⟨#[]⟩ : ByteArray) t551 (t551.length : Int) 0) = some (r1, r2) := by rw [if_neg (show ¬ (false = true) by decide)] at H; exact H
    clear H
    have H := H1
    clear H1
    have H' := aM H
    clear H
    obtain ⟨Ao10, co10, eo10⟩ := Kd.R_slice HO_6.out
    subst eo10
    go_wp2
    go_loopg [8, 25] kj3 (fun kq v8 v25 w' => ∃ (x8_2 : ByteArray) (x25_2 : Int), v8 = .string x8_2 ∧ v25 = .int .i64 x25_2 ∧ Aside0 (spec_LongestPrefix.l0 kq a1 x8_2 t551 (t551.length : Int) x25_2 = some (r1, r2)) ∧ Aside0 (kq ≤ kj3) ∧ Aside0 (Kd.R Kd.string 9 w' w.heap.size (fun _ => True) (.slice Ao10 t551.length co10) t551) ∧ Aside0 (w'.heap[gb550]? = some (.cells #[(.slice A0_0 l0_0.length c0_0)] 26 (0, 0))) ∧ Aside0 (Below w.heap.size w w'))
    case atStart => exact ⟨((⟨#[]⟩ : ByteArray)), (0), (by first | rfl | (simp; done) | (simp [*]; done)), (by first | rfl | (simp; done) | (simp [*]; done)), H', ⟨Nat.le_refl _⟩, ⟨by (with_reducible repeat (first | apply Kd.R_alloc | apply Kd.R_drewN | apply Kd.R_drew)); exact HO_6.out⟩, ⟨by (with_reducible repeat (first | refine blk_drewN ?_ _ | refine blk_drew ?_ | refine blk_alloc ?_ _)); exact BK550.out⟩, ⟨by repeat (first | (with_reducible first | exact HB.out | apply below_alloc | apply pw_below_drewN | apply below_drew1 | refine below_set ?_ GE550.out) | exact HB.out)⟩⟩
    case round =>
     clear H'
     try clear c2
     try clear p2
     try clear c5
     try clear c8
     try clear c9
     try clear hcz6_0
     try clear hfz6_0
     try clear p2
     obtain ⟨x8_2, x25_2, rfl, rfl, HA, HK2, HO_23, BK550, HB⟩ := hrel
     cases gk with
     | zero => exact absurd HA.out (by simp [spec_LongestPrefix.l0])
     | succ k2 =>
      have H := HA.out
      clear HA
      simp only [spec_LongestPrefix.l0] at H
      by_cases c11 : x25_2 < (t551.length : Int)
      ·
       rw [if_pos c11] at H
       have c11b0 : decide (x25_2 < (t551.length : Int)) = true := decide_eq_true c11
       clear c11
       by_cases c12 : 0 ≤ x25_2
       ·
        rw [if_pos c12] at H
        have c12b0 : decide (0 ≤ x25_2) = true := decide_eq_true c12
        clear c12
        by_cases c13 : x25_2 < (t551.length : Int)
        ·
         rw [if_pos c13] at H
         have c13b0 : decide (x25_2 < (t551.length : Int)) = true := decide_eq_true c13
         clear c13
         by_cases c14 : ((rdOf ByteArray.empty t551 x25_2).size : Int) > (x8_2.size : Int)
         ·
          rw [if_pos c14] at H
          have c14b0 : decide ((x8_2.size : Int) < ((rdOf ByteArray.empty t551 x25_2).size : Int)) = true := decide_eq_true c14
          have c14b1 : decide (x8_2.size < (rdOf ByteArray.empty t551 x25_2).size) = true := decide_eq_true (Int.ofNat_lt.mp c14)
          clear c14
          by_cases c15 : ((rdOf ByteArray.empty t551 x25_2).size : Int) ≤ (a1.size : Int)
          ·
           rw [if_pos c15] at H
           have c15b0 : decide (((rdOf ByteArray.empty t551 x25_2).size : Int) ≤ (a1.size : Int)) = true := decide_eq_true c15
           have c15b1 : decide ((rdOf ByteArray.empty t551 x25_2).size ≤ a1.size) = true := decide_eq_true (Int.ofNat_le.mp c15)
           clear c15
           by_cases c16 : 0 ≤ ((rdOf ByteArray.empty t551 x25_2).size : Int)
           ·
            rw [if_pos c16] at H
            have c16b0 := eq_true c16
            have c16b1 : decide (0 ≤ ((rdOf ByteArray.empty t551 x25_2).size : Int)) = true := decide_eq_true c16
            clear c16
            have c17b0 := eq_true (of_decide_eq_true (by first | (with_reducible assumption) | assumption) : ((rdOf ByteArray.empty t551 x25_2).size : Int) ≤ (a1.size : Int))
            by_cases c18 : (a1.extract 0 (rdOf ByteArray.empty t551 x25_2).size).toList = (rdOf ByteArray.empty t551 x25_2).toList
            ·
             rw [if_pos c18] at H
             have c18b0 : ((a1.extract 0 (rdOf ByteArray.empty t551 x25_2).size).toList == (rdOf ByteArray.empty t551 x25_2).toList) = true := beq_iff_eq.mpr c18
             try have c18b0n := c18b0
             try simp only [ByteArray.size_extract, Nat.min_self] at c18b0n
             try have c18b0p := of_decide_eq_true c18b0n
             try have c18b0q := Nat.le_of_lt c18b0p
             have c18b1 : ((a1.extract 0 (rdOf ByteArray.empty t551 x25_2).size).toList != (rdOf ByteArray.empty t551 x25_2).toList) = false := bne_eq_false_iff_eq.mpr c18
             try have c18b1n := c18b1
             try simp only [ByteArray.size_extract, Nat.min_self] at c18b1n
             try have c18b1p := of_decide_eq_true c18b1n
             try have c18b1q := Nat.le_of_lt c18b1p
             clear c18
             have H' := aM H
             clear H
             have p555 : 0 ≤ (x25_2 : Int) := of_decide_eq_true (by first | (with_reducible assumption) | assumption)
             have q555 : x25_2 < (t551.length : Int) := of_decide_eq_true (by first | (with_reducible assumption) | assumption)
             obtain ⟨ad555, e555, hx555_0⟩ := Kd.at_string (Kd.R_reads' HO_23.out).2.2 x25_2 p555 q555
             cases e555
             replace p555 := eq_true p555
             replace q555 := eq_true q555
             go_wp2
             go_roundg k2
             case measure => have := HJ3.out; have := HK2.out; omega
             case rel => exact ⟨(rdOf ByteArray.empty t551 x25_2), (wrap64 (x25_2 + 1)), (by first | rfl | (simp; done) | (simp [*]; done)), (by first | rfl | (simp; done) | (simp [*]; done)), H', ⟨by have := HJ3.out; have := HK2.out; omega⟩, ⟨by (with_reducible repeat (first | apply Kd.R_alloc | apply Kd.R_drewN | apply Kd.R_drew)); exact HO_23.out⟩, ⟨by (with_reducible repeat (first | refine blk_drewN ?_ _ | refine blk_drew ?_ | refine blk_alloc ?_ _)); exact BK550.out⟩, ⟨by repeat (first | (with_reducible first | exact HB.out | apply below_alloc | apply pw_below_drewN | apply below_drew1 | refine below_set ?_ GE550.out) | exact HB.out)⟩⟩
            ·
             rw [if_neg c18] at H
             have c18b0 : ((a1.extract 0 (rdOf ByteArray.empty t551 x25_2).size).toList == (rdOf ByteArray.empty t551 x25_2).toList) = false := beq_eq_false_iff_ne.mpr c18
             try have c18b0n := c18b0
             try simp only [ByteArray.size_extract, Nat.min_self] at c18b0n
             try have c18b0p := of_decide_eq_true c18b0n
             try have c18b0q := Nat.le_of_lt c18b0p
             have c18b1 : ((a1.extract 0 (rdOf ByteArray.empty t551 x25_2).size).toList != (rdOf ByteArray.empty t551 x25_2).toList) = true := bne_iff_ne.mpr c18
             try have c18b1n := c18b1
             try simp only [ByteArray.size_extract, Nat.min_self] at c18b1n
             try have c18b1p := of_decide_eq_true c18b1n
             try have c18b1q := Nat.le_of_lt c18b1p
             have H' := aM H
             clear H
             have p555 : 0 ≤ (x25_2 : Int) := of_decide_eq_true (by first | (with_reducible assumption) | assumption)
             have q555 : x25_2 < (t551.length : Int) := of_decide_eq_true (by first | (with_reducible assumption) | assumption)
             obtain ⟨ad555, e555, hx555_0⟩ := Kd.at_string (Kd.R_reads' HO_23.out).2.2 x25_2 p555 q555
             cases e555
             replace p555 := eq_true p555
             replace q555 := eq_true q555
             go_wp2
             go_roundg k2
             case measure => have := HJ3.out; have := HK2.out; omega
             case rel => exact ⟨(x8_2), (wrap64 (x25_2 + 1)), (by first | rfl | (simp; done) | (simp [*]; done)), (by first | rfl | (simp; done) | (simp [*]; done)), H', ⟨by have := HJ3.out; have := HK2.out; omega⟩, ⟨by (with_reducible repeat (first | apply Kd.R_alloc | apply Kd.R_drewN | apply Kd.R_drew)); exact HO_23.out⟩, ⟨by (with_reducible repeat (first | refine blk_drewN ?_ _ | refine blk_drew ?_ | refine blk_alloc ?_ _)); exact BK550.out⟩, ⟨by repeat (first | (with_reducible first | exact HB.out | apply below_alloc | apply pw_below_drewN | apply below_drew1 | refine below_set ?_ GE550.out) | exact HB.out)⟩⟩
           ·
            rw [if_neg c16] at H
            exact absurd H (by simp)
          ·
           rw [if_neg c15] at H
           have c15b0 : decide (((rdOf ByteArray.empty t551 x25_2).size : Int) ≤ (a1.size : Int)) = false := decide_eq_false c15
           have c15b1 : decide ((rdOf ByteArray.empty t551 x25_2).size ≤ a1.size) = false := decide_eq_false (fun h => c15 (Int.ofNat_le.mpr h))
           clear c15
           have H' := aM H
           clear H
           have p555 : 0 ≤ (x25_2 : Int) := of_decide_eq_true (by first | (with_reducible assumption) | assumption)
           have q555 : x25_2 < (t551.length : Int) := of_decide_eq_true (by first | (with_reducible assumption) | assumption)
           obtain ⟨ad555, e555, hx555_0⟩ := Kd.at_string (Kd.R_reads' HO_23.out).2.2 x25_2 p555 q555
           cases e555
           replace p555 := eq_true p555
           replace q555 := eq_true q555
           go_wp2
           go_roundg k2
           case measure => have := HJ3.out; have := HK2.out; omega
           case rel => exact ⟨(x8_2), (wrap64 (x25_2 + 1)), (by first | rfl | (simp; done) | (simp [*]; done)), (by first | rfl | (simp; done) | (simp [*]; done)), H', ⟨by have := HJ3.out; have := HK2.out; omega⟩, ⟨by (with_reducible repeat (first | apply Kd.R_alloc | apply Kd.R_drewN | apply Kd.R_drew)); exact HO_23.out⟩, ⟨by (with_reducible repeat (first | refine blk_drewN ?_ _ | refine blk_drew ?_ | refine blk_alloc ?_ _)); exact BK550.out⟩, ⟨by repeat (first | (with_reducible first | exact HB.out | apply below_alloc | apply pw_below_drewN | apply below_drew1 | refine below_set ?_ GE550.out) | exact HB.out)⟩⟩
         ·
          rw [if_neg c14] at H
          have c14b0 : decide ((x8_2.size : Int) < ((rdOf ByteArray.empty t551 x25_2).size : Int)) = false := decide_eq_false c14
          have c14b1 : decide (x8_2.size < (rdOf ByteArray.empty t551 x25_2).size) = false := decide_eq_false (fun h => c14 (Int.ofNat_lt.mpr h))
          clear c14
          have H' := aM H
          clear H
          have p555 : 0 ≤ (x25_2 : Int) := of_decide_eq_true (by first | (with_reducible assumption) | assumption)
          have q555 : x25_2 < (t551.length : Int) := of_decide_eq_true (by first | (with_reducible assumption) | assumption)
          obtain ⟨ad555, e555, hx555_0⟩ := Kd.at_string (Kd.R_reads' HO_23.out).2.2 x25_2 p555 q555
          cases e555
          replace p555 := eq_true p555
          replace q555 := eq_true q555
          go_wp2
          go_roundg k2
          case measure => have := HJ3.out; have := HK2.out; omega
          case rel => exact ⟨(x8_2), (wrap64 (x25_2 + 1)), (by first | rfl | (simp; done) | (simp [*]; done)), (by first | rfl | (simp; done) | (simp [*]; done)), H', ⟨by have := HJ3.out; have := HK2.out; omega⟩, ⟨by (with_reducible repeat (first | apply Kd.R_alloc | apply Kd.R_drewN | apply Kd.R_drew)); exact HO_23.out⟩, ⟨by (with_reducible repeat (first | refine blk_drewN ?_ _ | refine blk_drew ?_ | refine blk_alloc ?_ _)); exact BK550.out⟩, ⟨by repeat (first | (with_reducible first | exact HB.out | apply below_alloc | apply pw_below_drewN | apply below_drew1 | refine below_set ?_ GE550.out) | exact HB.out)⟩⟩
        ·
         rw [if_neg c13] at H
         exact absurd H (by simp)
       ·
        rw [if_neg c12] at H
        exact absurd H (by simp)
      ·
       rw [if_neg c11] at H
       have c11b0 : decide (x25_2 < (t551.length : Int)) = false := decide_eq_false c11
       clear c11
       simp only [Option.some.injEq, Prod.mk.injEq] at H
       obtain ⟨rfl, rfl⟩ := H
       go_wp2
       go_ret2
       exact ⟨by first | rfl | (rw [Go.Proofs.Ytcngebfcpobnnaa.Pre.bne_nil]; first | rfl | (simp; done) | (simp <;> rfl)) | (simp [errW_none, errW_some] <;> rfl) | (simp [*, errW_none, errW_some] <;> rfl), by repeat (first | (with_reducible first | exact HB.out | apply below_alloc | apply pw_below_drewN | apply below_drew1 | refine below_set ?_ GE550.out) | exact HB.out)⟩

end Go.Proofs.Ytcngebfcpobnnaa.PQ
end
