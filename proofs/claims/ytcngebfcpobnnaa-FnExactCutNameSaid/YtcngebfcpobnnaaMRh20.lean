/- Several texts in one: what the claim's last text rests on. No conditions. -/
import Derived.Test.YtcngebfcpobnnaaMRh7
import Derived.Test.YtcngebfcpobnnaaMRh12
import Derived.Test.YtcngebfcpobnnaaMRh5
section
namespace Go.Proofs.Ytcngebfcpobnnaa.PQ
open Go.RowKit Go.Proofs.YtcngebfcpobnnaaW.PrintWords Go.Proofs.YtcngebfcpobnnaaW.PrintLast Go.Proofs.YtcngebfcpobnnaaW.PrintMore
attribute [local go_sem] max2_int min2_int max_two min_two max_three min_three max_four min_four
set_option linter.unusedVariables false
set_option linter.unusedSimpArgs false
def spec_CutName.l0 : Nat → ByteArray → List ByteArray → List ByteArray → Int → Int → Option ((List (S64)) × Bool)
 | 0, _, _, _, _, _ => none
 | k + 1, x1, x6, x18, x19, x20 => if x20 < x19 then (if 0 ≤ x20 then (if x20 < (x18.length : Int) then (if (rdOf ByteArray.empty x18 x20).toList = x1.toList then ((some (([] : List ByteArray) : List ByteArray)).bind fun y396 => (if x20 ≤ (x6.length : Int) then ((some (x6.take (x20 : Int).toNat : List ByteArray)).bind fun y399 => (if y396.length + y399.length < 8796093022208 then ((some (y396 ++ y399 : List ByteArray)).bind fun y403 => (if 0 ≤ (wrap64 (x20 + 1)) then (if (wrap64 (x20 + 1)) ≤ (x6.length : Int) then ((some (x6.drop ((wrap64 (x20 + 1)) : Int).toNat : List ByteArray)).bind fun y406 => (if y403.length + y406.length < 8796093022208 then ((spec_l13Radix.f k (y403 ++ y406)).bind fun t413 => (some (t413, true))) else (none))) else (none)) else (none))) else (none))) else (none))) else (spec_CutName.l0 k x1 x6 x18 x19 (wrap64 (x20 + 1)))) else (none)) else (none)) else (some (([] : List (S64)), false))
def spec_CutName.f (k : Nat) (l0_0 : List (S64)) (a1 : ByteArray) : Option ((List (S64)) × Bool) := (spec_l13Good.f k l0_0).bind fun bt391 => (if bt391.2 = true then (spec_CutName.l0 k a1 bt391.1 bt391.1 (bt391.1.length : Int) 0) else (some (([] : List (S64)), false)))
def spec_CutName.T8 : Bool × List (List Nat × List Nat) := (true, [([], []), ([], []), ([], []), ([1, 2], [1, 2]), ([0, 3], [0, 3]), ([], []), ([], []), ([6], [6]), ([5, 7], [5, 7]), ([4, 8, 4], [4, 8]), ([9, 9], [9]), ([10, 10, 0, 1, 2, 3, 4, 5, 6, 7, 8, 9, 10], [10]), ([11, 0, 1, 2, 3, 4, 5, 6, 7, 8, 9, 10, 11], [])])
def spec_CutName.B8 : List Nat := [0, 0, 0, 6, 15, 0, 0, 64, 224, 511, 1023, 2047, 4095]
theorem spec_CutName.tab8 : rtab .any (opsOf Try.f33 8) = spec_CutName.T8 := by kernel_rfl
theorem spec_CutName.bits8 : waitsOk spec_CutName.T8.2 spec_CutName.B8 = true := by kernel_rfl
set_option maxHeartbeats 8000000 in
set_option maxRecDepth 100000 in
theorem spec_CutName.calls (k : Nat) (A0_0 : Option Addr) (c0_0 : Nat) (l0_0 : List (S64)) (a1 : ByteArray) (r1 : List (S64)) (r2 : Bool) (w : World) (hr0_0 : Kd.C k64 w A0_0 l0_0.length l0_0) (hc0_0 : l0_0.length ≤ c0_0) (h : spec_CutName.f k l0_0 a1 = some (r1, r2)) :
  Calls Try.prog 33 #[.agg #[.slice A0_0 l0_0.length c0_0], .string a1] w fun e w' => ∃ v0_ : Value, e = .returned (.tuple #[.agg #[v0_], .bool r2]) ∧ Kd.R k64 64 w' w.heap.size (fun _ => True) v0_ r1 ∧ Below w.heap.size w w' := by
 have hu26 := Try.underlying26
 have HR0_0 := aM hr0_0
 have HC0_0 := aM hc0_0
 clear hr0_0 hc0_0
 have HB := aM (Below.refl w.heap.size w)
 have H : ((spec_l13Good.f k l0_0).bind fun bt391 => (if bt391.2 = true then (spec_CutName.l0 k a1 bt391.1 bt391.1 (bt391.1.length : Int) 0) else (some (([] : List (S64)), false)))) = some (r1, r2) := h
 clear h
 replace H := Option.bind_eq_some_iff.mp H
 obtain ⟨⟨t391, t394⟩, A30, H⟩ := H
 replace H : (if t394 = true then (spec_CutName.l0 k a1 t391 t391 (t391.length : Int) 0) else (some (([] : List (S64)), false))) = some (r1, r2) := H
 have A3 := aM A30
 clear A30
 by_cases c4 : t394 = true
 ·
  subst c4
  have H1 : (spec_CutName.l0 k a1 t391 t391 (t391.length : Int) 0) = some (r1, r2) := by rw [if_pos rfl] at H; exact H
  clear H
  have H := H1
  clear H1
  have H' := aM H
  clear H
  go_enter Try.func33, Try.ntmps33
  go_wp2_with (first | ((with_reducible refine gate_dst (N := 2) rfl ?_); refine box_event ?hg (N := 2) ?hd (cs := #[.slice A0_0 l0_0.length c0_0]) (t := 26) ?hr ?_; (case hd => rfl); (case hg => rfl); (case hr => first | (go_simp; done) | (go_simp; rfl)); intro gb389 hg w5 hbox hb; have n0_ := aM (below_step (by repeat (first | (with_reducible first | exact HB.out | apply below_alloc | apply pw_below_drewN | apply below_drew1) | exact HB.out)) hb); have n1_ := aM (hbox); have n2_ := aM ((by rw [hg]; exact (below_size (by repeat (first | (with_reducible first | exact HB.out | apply below_alloc | apply pw_below_drewN | apply below_drew1) | exact HB.out))) : w.heap.size ≤ gb389)); have n3_ := aM ((by rw [hg]; exact (below_size (by repeat (first | (with_reducible first | exact HB.out | apply below_alloc | apply pw_below_drewN | apply below_drew1) | exact HB.out))) : w.heap.size ≤ gb389)); clear HB; have HB := n0_; have BK389 := n1_; have GW389 := n2_; have GE389 := n3_; clear n0_ n1_ n2_ n3_; clear hb hbox hg) | ((with_reducible refine gate_dst (N := 4) rfl ?_); refine box_event ?hg (N := 4) ?hd (cs := #[.slice none 0 0]) (t := 26) ?hr ?_; (case hd => rfl); (case hg => rfl); (case hr => first | (go_simp; done) | (go_simp; rfl)); intro gb390 hg w6 hbox hb; have n0_ := aM (blk_below (g := gb389) (o := .cells #[.slice A0_0 l0_0.length c0_0] 26 (0, 0)) (by (with_reducible repeat (first | refine blk_drewN ?_ _ | refine blk_drew ?_ | refine blk_alloc ?_ _)); exact BK389.out) hb); have n1_ := aM (below_step (by repeat (first | (with_reducible first | exact HB.out | apply below_alloc | apply pw_below_drewN | apply below_drew1 | refine below_set ?_ GE389.out) | exact HB.out)) hb); have n2_ := aM (hbox); have n3_ := aM ((by rw [hg]; exact (below_size (by repeat (first | (with_reducible first | exact HB.out | apply below_alloc | apply pw_below_drewN | apply below_drew1 | refine below_set ?_ GE389.out) | exact HB.out))) : w.heap.size ≤ gb390)); have n4_ := aM ((by rw [hg]; exact (below_size (by repeat (first | (with_reducible first | exact HB.out | apply below_alloc | apply pw_below_drewN | apply below_drew1 | refine below_set ?_ GE389.out) | exact HB.out))) : w.heap.size ≤ gb390)); have n5_ := aM ((by rw [hg]; exact Nat.ne_of_lt (blk_lt (g := gb389) (o := .cells #[.slice A0_0 l0_0.length c0_0] 26 (0, 0)) (by (with_reducible repeat (first | refine blk_drewN ?_ _ | refine blk_drew ?_ | refine blk_alloc ?_ _)); exact BK389.out)) : gb389 ≠ gb390)); have n6_ := aM ((by rw [hg]; exact Nat.ne_of_gt (blk_lt (g := gb389) (o := .cells #[.slice A0_0 l0_0.length c0_0] 26 (0, 0)) (by (with_reducible repeat (first | refine blk_drewN ?_ _ | refine blk_drew ?_ | refine blk_alloc ?_ _)); exact BK389.out)) : gb390 ≠ gb389)); clear BK389; clear HB; have BK389 := n0_; have HB := n1_; have BK390 := n2_; have GW390 := n3_; have GE390 := n4_; have NB389_390 := n5_; have NB390_389 := n6_; clear n0_ n1_ n2_ n3_ n4_ n5_ n6_; clear hb hbox hg; have hnb7 := NB389_390.out; have hnc7 := NB390_389.out; have hcz8_0 : w6.cell? ⟨gb389, 0, none⟩ = some (.slice A0_0 l0_0.length c0_0) := (blk_cell BK389.out 0).trans rfl; have hfz8_0 := blk_frozen BK389.out 0) | ((with_reducible refine gate_callee (f := 52) rfl ?_); refine goesL_ (some 12) rfl rfl Try.func52 (by kernel_rfl) rfl #[.agg #[.slice A0_0 l0_0.length c0_0]] rfl (by (try simp only [List.map_toArray, List.map_cons, List.map_nil]); first | done | rfl | (simp only [List.length_drop, List.length_take]; rfl)) ?_; (with_reducible refine (spec_l13Good.calls k _ _ l0_0 t391 true _ ?side1 ?side2 A3.out).mono ?_); (case side1 => repeat (first | exact (Kd.C_below HR0_0.out HB.out) | (with_reducible refine Kd.C_alloc ?_ _) | (with_reducible refine Kd.C_drewN ?_ _) | (with_reducible refine Kd.C_drew ?_))); (case side2 => exact HC0_0.out); rintro e w9 ⟨v392, rfl, ho0, hb⟩; refine ⟨_, rfl, ?_⟩; have n0_ := aM (Kd.R_lower ho0 (below_size (by repeat (first | (with_reducible first | exact HB.out | apply below_alloc | apply pw_below_drewN | apply below_drew1 | refine below_set ?_ GE389.out | refine below_set ?_ GE390.out) | exact HB.out)))); have n1_ := aM (blk_below (g := gb389) (o := .cells #[.slice A0_0 l0_0.length c0_0] 26 (0, 0)) (by (with_reducible repeat (first | refine blk_drewN ?_ _ | refine blk_drew ?_ | refine blk_alloc ?_ _)); exact BK389.out) hb); have n2_ := aM (blk_below (g := gb390) (o := .cells #[.slice none 0 0] 26 (0, 0)) (by (with_reducible repeat (first | refine blk_drewN ?_ _ | refine blk_drew ?_ | refine blk_alloc ?_ _)); exact BK390.out) hb); have n3_ := aM (below_step (by repeat (first | (with_reducible first | exact HB.out | apply below_alloc | apply pw_below_drewN | apply below_drew1 | refine below_set ?_ GE389.out | refine below_set ?_ GE390.out) | exact HB.out)) hb); clear BK389; clear BK390; clear HB; have HO393 := n0_; have BK389 := n1_; have BK390 := n2_; have HB := n3_; clear n0_ n1_ n2_ n3_; (try clear hb); (try clear hb2); (try clear hk); (try clear hi); (try clear ho0); obtain ⟨Ao10, co10, eo10⟩ := Kd.R_slice HO393.out; subst eo10))
  go_loopg [20] k (fun kq v20 w' => ∃ (x20_1 : Int), v20 = .int .i64 x20_1 ∧ Aside0 (spec_CutName.l0 kq a1 t391 t391 (t391.length : Int) x20_1 = some (r1, r2)) ∧ Aside0 (kq ≤ k) ∧ Aside0 (Kd.R Kd.string 9 w' w.heap.size (fun _ => True) (.slice Ao10 t391.length co10) t391) ∧ Aside0 (Kd.R Kd.string 9 w' w.heap.size (fun _ => True) (.slice Ao10 t391.length co10) t391) ∧ Aside0 (w'.heap[gb389]? = some (.cells #[(.slice A0_0 l0_0.length c0_0)] 26 (0, 0))) ∧ Aside0 (w'.heap[gb390]? = some (.cells #[(.slice none 0 0)] 26 (0, 0))) ∧ Aside0 (Below w.heap.size w w'))
  case atStart => exact ⟨(0), (by first | rfl | (simp; done) | (simp [*]; done)), H', ⟨Nat.le_refl _⟩, ⟨by (with_reducible repeat (first | apply Kd.R_alloc | apply Kd.R_drewN | apply Kd.R_drew)); exact HO393.out⟩, ⟨by (with_reducible repeat (first | apply Kd.R_alloc | apply Kd.R_drewN | apply Kd.R_drew)); exact HO393.out⟩, ⟨by (with_reducible repeat (first | refine blk_drewN ?_ _ | refine blk_drew ?_ | refine blk_alloc ?_ _)); exact BK389.out⟩, ⟨by (with_reducible repeat (first | refine blk_drewN ?_ _ | refine blk_drew ?_ | refine blk_alloc ?_ _)); exact BK390.out⟩, ⟨by repeat (first | (with_reducible first | exact HB.out | apply below_alloc | apply pw_below_drewN | apply below_drew1 | refine below_set ?_ GE389.out | refine below_set ?_ GE390.out) | exact HB.out)⟩⟩
  case round =>
   clear H'
   try clear p2
   try clear c3
   try clear c4
   try clear c5
   try clear c7
   try clear hcz8_0
   try clear hfz8_0
   obtain ⟨x20_1, rfl, HA, HK1, HO_6, HO_18, BK389, BK390, HB⟩ := hrel
   cases gk with
   | zero => exact absurd HA.out (by simp [spec_CutName.l0])
   | succ k1 =>
    have H := HA.out
    clear HA
    simp only [spec_CutName.l0] at H
    by_cases c11 : x20_1 < (t391.length : Int)
    ·
     rw [if_pos c11] at H
     have c11b0 : decide (x20_1 < (t391.length : Int)) = true := decide_eq_true c11
     clear c11
     by_cases c12 : 0 ≤ x20_1
     ·
      rw [if_pos c12] at H
      have c12b0 : decide (0 ≤ x20_1) = true := decide_eq_true c12
      clear c12
      by_cases c13 : x20_1 < (t391.length : Int)
      ·
       rw [if_pos c13] at H
       have c13b0 : decide (x20_1 < (t391.length : Int)) = true := decide_eq_true c13
       clear c13
       by_cases c14 : (rdOf ByteArray.empty t391 x20_1).toList = a1.toList
       ·
        rw [if_pos c14] at H
        have c14b0 : ((rdOf ByteArray.empty t391 x20_1).toList == a1.toList) = true := beq_iff_eq.mpr c14
        have c14b1 : ((rdOf ByteArray.empty t391 x20_1).toList != a1.toList) = false := bne_eq_false_iff_eq.mpr c14
        clear c14
        obtain ⟨y396, hy396⟩ : ∃ y_ : List ByteArray, y_ = (([] : List ByteArray)) := ⟨_, rfl⟩
        replace H : (if x20_1 ≤ (t391.length : Int) then ((some (t391.take (x20_1 : Int).toNat : List ByteArray)).bind fun y399 => (if y396.length + y399.length < 8796093022208 then ((some (y396 ++ y399 : List ByteArray)).bind fun y403 => (if 0 ≤ (wrap64 (x20_1 + 1)) then (if (wrap64 (x20_1 + 1)) ≤ (t391.length : Int) then ((some (t391.drop ((wrap64 (x20_1 + 1)) : Int).toNat : List ByteArray)).bind fun y406 => (if y403.length + y406.length < 8796093022208 then ((spec_l13Radix.f k1 (y403 ++ y406)).bind fun t413 => (some (t413, true))) else (none))) else (none)) else (none))) else (none))) else (none)) = some (r1, r2) := by first | (rw [hy396]; with_reducible exact H) | (have H2_ := (Option.bind_some _ _).symm.trans H; rw [hy396]; with_reducible exact H2_) | (have H2_ := (Option.bind_some _ _).symm.trans H; with_reducible exact H2_) | with_reducible exact H | (rw [hy396]; exact H) | exact H
        have Ny396 := aM hy396
        clear hy396
        have c15b0 := eq_true (of_decide_eq_true (by first | (with_reducible assumption) | assumption) : 0 ≤ x20_1)
        by_cases c16 : x20_1 ≤ (t391.length : Int)
        ·
         rw [if_pos c16] at H
         have c16b0 := eq_true c16
         have c16b1 : decide (x20_1 ≤ (t391.length : Int)) = true := decide_eq_true c16
         clear c16
         obtain ⟨y399, hy399⟩ : ∃ y_ : List ByteArray, y_ = (t391.take (x20_1 : Int).toNat) := ⟨_, rfl⟩
         replace H : (if y396.length + y399.length < 8796093022208 then ((some (y396 ++ y399 : List ByteArray)).bind fun y403 => (if 0 ≤ (wrap64 (x20_1 + 1)) then (if (wrap64 (x20_1 + 1)) ≤ (t391.length : Int) then ((some (t391.drop ((wrap64 (x20_1 + 1)) : Int).toNat : List ByteArray)).bind fun y406 => (if y403.length + y406.length < 8796093022208 then ((spec_l13Radix.f k1 (y403 ++ y406)).bind fun t413 => (some (t413, true))) else (none))) else (none)) else (none))) else (none)) = some (r1, r2) := by first | (rw [hy399]; with_reducible exact H) | (have H2_ := (Option.bind_some _ _).symm.trans H; rw [hy399]; with_reducible exact H2_) | (have H2_ := (Option.bind_some _ _).symm.trans H; with_reducible exact H2_) | with_reducible exact H | (rw [hy399]; exact H) | exact H
         have Ny399 := aM hy399
         clear hy399
         by_cases c17 : y396.length + y399.length < 8796093022208
         ·
          rw [if_pos c17] at H
          have LMc17 := aM c17
          clear c17
          obtain ⟨y403, hy403⟩ : ∃ y_ : List ByteArray, y_ = (y396 ++ y399) := ⟨_, rfl⟩
          replace H : (if 0 ≤ (wrap64 (x20_1 + 1)) then (if (wrap64 (x20_1 + 1)) ≤ (t391.length : Int) then ((some (t391.drop ((wrap64 (x20_1 + 1)) : Int).toNat : List ByteArray)).bind fun y406 => (if y403.length + y406.length < 8796093022208 then ((spec_l13Radix.f k1 (y403 ++ y406)).bind fun t413 => (some (t413, true))) else (none))) else (none)) else (none)) = some (r1, r2) := by first | (rw [hy403]; with_reducible exact H) | (have H2_ := (Option.bind_some _ _).symm.trans H; rw [hy403]; with_reducible exact H2_) | (have H2_ := (Option.bind_some _ _).symm.trans H; with_reducible exact H2_) | with_reducible exact H | (rw [hy403]; exact H) | exact H
          have Ny403 := aM hy403
          clear hy403
          obtain ⟨ji18, hji18⟩ : ∃ j_ : Int, (wrap64 (x20_1 + 1)) = j_ := ⟨_, rfl⟩
          replace H : (if 0 ≤ (ji18) then (if (ji18) ≤ (t391.length : Int) then ((some (t391.drop ((ji18) : Int).toNat : List ByteArray)).bind fun y406 => (if y403.length + y406.length < 8796093022208 then ((spec_l13Radix.f k1 (y403 ++ y406)).bind fun t413 => (some (t413, true))) else (none))) else (none)) else (none)) = some (r1, r2) := by first | (rw [hji18] at H; exact H) | (simp only [hji18] at H ⊢; exact H)
          have hji18w : (IntKind.i64.wrap (x20_1 + 1)) = ji18 := (i64_w _).trans hji18
          by_cases c19 : 0 ≤ (ji18)
          ·
           rw [if_pos c19] at H
           have c19b0 := eq_true c19
           have c19b1 : decide (0 ≤ (ji18)) = true := decide_eq_true c19
           clear c19
           by_cases c20 : (ji18) ≤ (t391.length : Int)
           ·
            rw [if_pos c20] at H
            have c20b0 := eq_true c20
            have c20b1 : decide ((ji18) ≤ (t391.length : Int)) = true := decide_eq_true c20
            clear c20
            obtain ⟨y406, hy406⟩ : ∃ y_ : List ByteArray, y_ = (t391.drop ((ji18) : Int).toNat) := ⟨_, rfl⟩
            replace H : (if y403.length + y406.length < 8796093022208 then ((spec_l13Radix.f k1 (y403 ++ y406)).bind fun t413 => (some (t413, true))) else (none)) = some (r1, r2) := by first | (rw [hy406]; with_reducible exact H) | (have H2_ := (Option.bind_some _ _).symm.trans H; rw [hy406]; with_reducible exact H2_) | (have H2_ := (Option.bind_some _ _).symm.trans H; with_reducible exact H2_) | with_reducible exact H | (rw [hy406]; exact H) | exact H
            have Ny406 := aM hy406
            clear hy406
            by_cases c21 : y403.length + y406.length < 8796093022208
            ·
             rw [if_pos c21] at H
             have LMc21 := aM c21
             clear c21
             obtain ⟨y410, hy410⟩ : ∃ y_ : List ByteArray, y_ = (y403 ++ y406) := ⟨_, rfl⟩
             replace H : ((spec_l13Radix.f k1 y410).bind fun t413 => (some (t413, true))) = some (r1, r2) := by first | (rw [hy410]; with_reducible exact H) | (have H2_ := (Option.bind_some _ _).symm.trans H; rw [hy410]; with_reducible exact H2_) | (have H2_ := (Option.bind_some _ _).symm.trans H; with_reducible exact H2_) | with_reducible exact H | (rw [hy410]; exact H) | exact H
             have Ny410 := aM hy410
             clear hy410
             replace H := Option.bind_eq_some_iff.mp H
             obtain ⟨t413, A220, H⟩ := H
             replace H : (some (t413, true)) = some (r1, r2) := H
             have A22 := aM A220
             clear A220
             simp only [Option.some.injEq, Prod.mk.injEq] at H
             obtain ⟨rfl, rfl⟩ := H
             have p395 : 0 ≤ (x20_1 : Int) := of_decide_eq_true (by first | (with_reducible assumption) | assumption)
             have q395 : x20_1 < (t391.length : Int) := of_decide_eq_true (by first | (with_reducible assumption) | assumption)
             obtain ⟨ad395, e395, hx395_0⟩ := Kd.at_string (Kd.R_reads' HO_18.out).2.2 x20_1 p395 q395
             cases e395
             replace p395 := eq_true p395
             replace q395 := eq_true q395
             try go_wp2
             have n0_ := aM (Kd.R_drew HO_6.out)
             have n1_ := aM (Kd.R_drew HO_18.out)
             have n2_ := aM (blk_drew BK389.out)
             have n3_ := aM (blk_drew BK390.out)
             have n4_ := aM (below_drew1 HB.out)
             clear HO_6
             clear HO_18
             clear BK389
             clear BK390
             clear HB
             have HO_6 := n0_
             have HO_18 := n1_
             have BK389 := n2_
             have BK390 := n3_
             have HB := n4_
             clear n0_ n1_ n2_ n3_ n4_
             have q24 : (x20_1 : Int) ≤ ((t391.length : Int) : Int) := of_decide_eq_true (by first | (with_reducible assumption) | assumption)
             obtain ⟨i024, hi024, _, hsz24, _⟩ := info_parts info9
             have hroom24 : t391.length ≤ co10 := (Kd.R_reads' HO_6.out).2.1
             have hC24 : Kd.C Kd.string _ (some ad395) t391.length t391 := (Kd.R_reads' HO_6.out).2.2
             have hcut24 := cut_to (P := Try.prog) 22 9 .i64 Try.underlying22 hi024 (some ad395) t391.length co10 x20_1 (of_decide_eq_true (by first | (with_reducible assumption) | assumption)) q24 hroom24
             have hr24 := Kd.C_take (m := (x20_1 : Int).toNat) hC24 (by omega)
             have hy24 : y399.length = (x20_1 : Int).toNat := (by rw [Ny399.out, List.length_take]; omega)
             rw [← Ny399.out] at hr24
             rw [← hy24] at hcut24
             have HR402 := aM hr24
             have HC402 := aM (show y399.length ≤ co10 from by omega)
             clear hr24 hC24 hroom24 hi024 hsz24
             have KY24 := aM hy24
             clear hy24
             have KL24 := aM (show (x20_1 : Int).toNat ≤ t391.length from by omega)
             replace q24 := eq_true q24
             have q25 : ((ji18) : Int) ≤ ((t391.length : Int) : Int) := of_decide_eq_true (by first | (with_reducible assumption) | assumption)
             obtain ⟨i025, hi025, _, hsz25, _⟩ := info_parts info9
             have hroom25 : t391.length ≤ co10 := (Kd.R_reads' HO_6.out).2.1
             have hC25 : Kd.C Kd.string _ (some ad395) t391.length t391 := (Kd.R_reads' HO_6.out).2.2
             have q025 : (0 : Int) ≤ ((ji18) : Int) := of_decide_eq_true (by first | (with_reducible assumption) | assumption)
             have hcut25 := cut_from (P := Try.prog) 22 9 .i64 Try.underlying22 hi025 1 hsz25 (some ad395) t391.length co10 (ji18) q025 q25
             have hr25 := Kd.C_drop (m := ((ji18) : Int).toNat) (c := co10) hC25 (by omega) hroom25
             obtain ⟨A25, hA25⟩ : ∃ A1, A1 = (if co10 = ((ji18) : Int).toNat then (some ad395) else ((some ad395) : Option Addr).map (·.add (((ji18) : Int).toNat * 1))) := ⟨_, rfl⟩
             obtain ⟨c25, hc25⟩ : ∃ c1, c1 = co10 - ((ji18) : Int).toNat := ⟨_, rfl⟩
             have hy25 : y406.length = t391.length - ((ji18) : Int).toNat := (by rw [Ny406.out, List.length_drop] <;> omega)
             rw [show (t391).drop ((ji18) : Int).toNat = y406 from Ny406.out.symm] at hr25
             replace hr25 : Kd.C Kd.string _ A25 y406.length y406 := (by rw [hA25]; exact hr25)
             rw [← hy25, ← hA25, ← hc25] at hcut25
             have HR409 := aM hr25
             have HC409 := aM (show y406.length ≤ c25 from by rw [hy25, hc25]; exact Nat.sub_le_sub_right hroom25 _)
             clear hr25 hC25 hroom25 hi025 hsz25 hc25
             have KY25 := aM hy25
             have KA25 := aM hA25
             clear hy25 hA25
             have KL25 := aM (show ((ji18) : Int).toNat ≤ t391.length from by omega)
             replace q25 := eq_true q25
             refine start_ (n := 13) (S := fun w' => True) (ds := []) (bq 13 0) (by kernel_rfl) rfl (by kernel_rfl) trivial (fun hHeld => ?_); refine with_tabW spec_CutName.tab8 spec_CutName.bits8 (fun HT_ HW_ => ?_)
             generalize wr.drew = w23 at HO_6 HO_18 BK389 BK390 HB HR402 HR409 hHeld ⊢
             refine pure_ (i := 1) (N := some 29) (v := ?_) (a' := ?_) (bq 13 2) rfl rfl (any_of HT_.out (by kernel_rfl)) (fun _ _ _ h => h) (Or.inl ⟨by rfl, ?_⟩) ?_ ?_; rotate_left; (intro w'; go_simp; (with_reducible rfl)); rotate_left; (simp only [Act.put, zSA, zSB, zSC, i64_w, i32_w]; rfl)
             refine pure_ (i := 2) (N := some 30) (v := ?_) (a' := ?_) (bq 13 6) rfl rfl (any_of HT_.out (by kernel_rfl)) (fun _ _ _ h => h) (Or.inl ⟨by rfl, ?_⟩) ?_ ?_; rotate_left; (intro w'; go_simp; (with_reducible rfl)); rotate_left; (simp only [Act.put, zSA, zSB, zSC, i64_w, i32_w]; rfl)
             refine pure_ (i := 3) (N := some 31) (v := ?_) (a' := ?_) (bq 13 14) rfl rfl (any_of HT_.out (by kernel_rfl)) (fun _ _ _ h => h) (Or.inl ⟨by rfl, ?_⟩) ?_ ?_; rotate_left; (intro w'; go_simp; (with_reducible rfl)); rotate_left; (simp only [Act.put, zSA, zSB, zSC, i64_w, i32_w]; rfl)
             refine pure_ (i := 5) (N := some 33) (v := ?_) (a' := ?_) (bq 13 46) rfl rfl (any_of HT_.out (by kernel_rfl)) (fun _ _ _ h => h) (Or.inl ⟨by rfl, ?_⟩) ?_ ?_; rotate_left; (intro w'; go_simp; (with_reducible rfl)); rotate_left; (simp only [Act.put, zSA, zSB, zSC, i64_w, i32_w]; rfl)
             refine pure_ (i := 6) (N := some 34) (v := ?_) (a' := ?_) (bq 13 110) rfl rfl (any_of HT_.out (by kernel_rfl)) (fun _ _ _ h => h) (Or.inl ⟨by rfl, ?_⟩) ?_ ?_; rotate_left; (intro w'; go_simp; (with_reducible rfl)); rotate_left; (simp only [Act.put, zSA, zSB, zSC, i64_w, i32_w]; rfl)
             refine pure_ (i := 7) (N := some 35) (v := ?_) (a' := ?_) (bq 13 238) rfl rfl (any_of HT_.out (by kernel_rfl)) (fun _ _ _ h => h) (Or.inl ⟨by rfl, ?_⟩) ?_ ?_; rotate_left; (intro w'; go_simp; (with_reducible rfl)); rotate_left; (simp only [Act.put, zSA, zSB, zSC, i64_w, i32_w]; rfl)
             refine pure_ (i := 8) (N := some 36) (v := ?_) (a' := ?_) (bq 13 494) rfl rfl (any_of HT_.out (by kernel_rfl)) (fun _ _ _ h => h) (Or.inl ⟨by rfl, ?_⟩) ?_ ?_; rotate_left; (intro w'; go_simp; (with_reducible rfl)); rotate_left; (simp only [Act.put, zSA, zSB, zSC, i64_w, i32_w]; rfl)
             refine one_ (i := 0) (N := some 28) (bq 13 495) rfl rfl (one_of HT_.out (by kernel_rfl)) (by decide) (fun K hK => ?_)
             refine Kd.R_lit_step Kd.string _ 9 ?hg (N := 28) ?hd (xs := ([] : List ByteArray)) (inner := []) (ok := fun _ => True) (okp := fun _ => True) ?hr ?hp (fun _ hk => hk) trivial (Below.refl _ _) (Nat.le_refl _) (by simp) ?_; (case hd => rfl); (case hg => rfl); (case hr => first | (go_simp; done) | (go_simp; rfl)); (case hp => exact (Reps.none _ _))
             intro v397 w26 ho27 hb hg_ hnew_
             clear hg_ hnew_
             (first | rw [← Ny396.out] at ho27 | (simp only [Int.reduceToNat] at ho27; rw [← Ny396.out] at ho27))
             have n0_ := aM (Kd.R_elder' (by (with_reducible repeat (first | apply Kd.R_alloc | apply Kd.R_drewN | apply Kd.R_drew)); exact HO_6.out) (Kd.R_base ho27) hb)
             have n1_ := aM (Kd.R_elder' (by (with_reducible repeat (first | apply Kd.R_alloc | apply Kd.R_drewN | apply Kd.R_drew)); exact HO_18.out) (Kd.R_base ho27) hb)
             have n2_ := aM (Kd.R_lower (Kd.R_new' (Kd.R_new' ho27 (Kd.R_lt (by (with_reducible repeat (first | apply Kd.R_alloc | apply Kd.R_drewN | apply Kd.R_drew)); exact HO_6.out))) (Kd.R_lt (by (with_reducible repeat (first | apply Kd.R_alloc | apply Kd.R_drewN | apply Kd.R_drew)); exact HO_18.out))) (below_size (by repeat (first | (with_reducible first | exact HB.out | apply below_alloc | apply pw_below_drewN | apply below_drew1 | refine below_set ?_ GE389.out | refine below_set ?_ GE390.out) | exact HB.out))))
             have n3_ := aM (blk_below (g := gb389) (o := .cells #[.slice A0_0 l0_0.length c0_0] 26 (0, 0)) (by (with_reducible repeat (first | refine blk_drewN ?_ _ | refine blk_drew ?_ | refine blk_alloc ?_ _)); exact BK389.out) hb)
             have n4_ := aM (blk_below (g := gb390) (o := .cells #[.slice none 0 0] 26 (0, 0)) (by (with_reducible repeat (first | refine blk_drewN ?_ _ | refine blk_drew ?_ | refine blk_alloc ?_ _)); exact BK390.out) hb)
             have n5_ := aM (Kd.C_below (by repeat (first | (with_reducible exact HR402.out) | (with_reducible refine Kd.C_alloc ?_ _) | (with_reducible refine Kd.C_drewN ?_ _) | (with_reducible refine Kd.C_drew ?_) | exact HR402.out)) hb)
             have n6_ := aM (Kd.C_below (by repeat (first | (with_reducible exact HR409.out) | (with_reducible refine Kd.C_alloc ?_ _) | (with_reducible refine Kd.C_drewN ?_ _) | (with_reducible refine Kd.C_drew ?_) | exact HR409.out)) hb)
             have n7_ := aM (below_step (by repeat (first | (with_reducible first | exact HB.out | apply below_alloc | apply pw_below_drewN | apply below_drew1 | refine below_set ?_ GE389.out | refine below_set ?_ GE390.out) | exact HB.out)) hb)
             clear HO_6
             clear HO_18
             clear BK389
             clear BK390
             clear HR402
             clear HR409
             clear HB
             have HO_6 := n0_
             have HO_18 := n1_
             have HO398 := n2_
             have BK389 := n3_
             have BK390 := n4_
             have HR402 := n5_
             have HR409 := n6_
             have HB := n7_
             clear n0_ n1_ n2_ n3_ n4_ n5_ n6_ n7_
             clear hb ho27
             refine hK.out _ _ trivial (fun hHeld => ?_)
             clear hK K
             refine norm_ (a' := ?_) ?_ ?_
             rotate_left
             ·
              show Act.put _ (some 28) _ = _
              simp only [Act.put, zSA, zSB, zSC, i64_w, i32_w]
              rfl
             refine one_ (i := 4) (N := some 32) (bq 13 511) rfl rfl (one_of HT_.out (by kernel_rfl)) (by decide) (fun K hK => ?_)
             refine Kd.R_append_rows_step Kd.string (w0 := w) w.heap.size (by rfl) (.tmp 28) (.tmp 31) 22 9 (.string ⟨#[]⟩) 16 rfl Try.underlying22 info9 rfl (by decide) (by omega) v397 y396 y399 _ _ _ (fun k_ => some k_ ≠ (.slice (some ad395) t391.length co10 : Value).ownBlock ∧ some k_ ≠ (.slice (some ad395) t391.length co10 : Value).ownBlock) (fun _ => False) rfl rfl ?aO ?aR (fun _ _ h => h) (fun _ h => h.elim) ?aF ?aB ?aS ?aL ?_
             (case aR => repeat (first | exact (by repeat (first | (with_reducible exact HR402.out) | (with_reducible refine Kd.C_alloc ?_ _) | (with_reducible refine Kd.C_drewN ?_ _) | (with_reducible refine Kd.C_drew ?_) | exact HR402.out)) | (with_reducible refine Kd.C_alloc ?_ _) | (with_reducible refine Kd.C_drewN ?_ _) | (with_reducible refine Kd.C_drew ?_)))
             (case aB => exact (by repeat (first | (with_reducible first | exact HB.out | apply below_alloc | apply pw_below_drewN | apply below_drew1 | refine below_set ?_ GE389.out | refine below_set ?_ GE390.out) | exact HB.out)))
             (case aF => exact (fun k_ hk => ⟨Kd.fresh' (Kd.R_lt (by (with_reducible repeat (first | apply Kd.R_alloc | apply Kd.R_drewN | apply Kd.R_drew)); exact HO_6.out)) k_ hk, Kd.fresh' (Kd.R_lt (by (with_reducible repeat (first | apply Kd.R_alloc | apply Kd.R_drewN | apply Kd.R_drew)); exact HO_18.out)) k_ hk⟩))
             (case aO => exact (by (with_reducible repeat (first | apply Kd.R_alloc | apply Kd.R_drewN | apply Kd.R_drew)); exact Kd.R_mono HO398.out (fun _ hk => ⟨hk.1.2, hk.2⟩)))
             (case aS => exact (below_size (by repeat (first | (with_reducible first | exact HB.out | apply below_alloc | apply pw_below_drewN | apply below_drew1 | refine below_set ?_ GE389.out | refine below_set ?_ GE390.out) | exact HB.out))))
             (case aL => have := LMc17.out; omega)
             intro v404 w28 ho hb hg hat
             rw [← Ny403.out] at ho
             have n0_ := aM (Kd.R_after (ok := (fun _ => True)) (by (with_reducible repeat (first | apply Kd.R_alloc | apply Kd.R_drewN | apply Kd.R_drew)); exact HO_6.out) hg hat)
             have n1_ := aM (Kd.R_after (ok := (fun _ => True)) (by (with_reducible repeat (first | apply Kd.R_alloc | apply Kd.R_drewN | apply Kd.R_drew)); exact HO_18.out) hg hat)
             have n2_ := aM (blk_grown (g := gb389) (o := .cells #[.slice A0_0 l0_0.length c0_0] 26 (0, 0)) (by (with_reducible repeat (first | refine blk_drewN ?_ _ | refine blk_drew ?_ | refine blk_alloc ?_ _)); exact BK389.out) hg (Kd.R_ne HO398.out BK389.out (by decide)))
             have n3_ := aM (blk_grown (g := gb390) (o := .cells #[.slice none 0 0] 26 (0, 0)) (by (with_reducible repeat (first | refine blk_drewN ?_ _ | refine blk_drew ?_ | refine blk_alloc ?_ _)); exact BK390.out) hg (Kd.R_ne HO398.out BK390.out (by decide)))
             have n4_ := aM (hb)
             have n5_ := aM ((show Kd.C Kd.string w28 (some ad395) y399.length y399 from by rw [Ny399.out]; exact Kd.C_take (m := (x20_1 : Int).toNat) ((Kd.R_reads' (Kd.R_after (ok := (fun _ => True)) (by (with_reducible repeat (first | apply Kd.R_alloc | apply Kd.R_drewN | apply Kd.R_drew)); exact HO_6.out) hg hat)).2.2) KL24.out))
             have n6_ := aM ((show Kd.C Kd.string w28 A25 y406.length y406 from by rw [Ny406.out, KA25.out]; exact Kd.C_drop (m := ((ji18) : Int).toNat) (c := co10) ((Kd.R_reads' (Kd.R_after (ok := (fun _ => True)) (by (with_reducible repeat (first | apply Kd.R_alloc | apply Kd.R_drewN | apply Kd.R_drew)); exact HO_6.out) hg hat)).2.2) KL25.out ((Kd.R_reads' (Kd.R_after (ok := (fun _ => True)) (by (with_reducible repeat (first | apply Kd.R_alloc | apply Kd.R_drewN | apply Kd.R_drew)); exact HO_6.out) hg hat)).2.1)))
             have n7_ := aM (ho)
             clear HO_6
             clear HO_18
             clear BK389
             clear BK390
             clear HB
             clear HR402
             clear HR409
             clear HO398
             have HO_6 := n0_
             have HO_18 := n1_
             have BK389 := n2_
             have BK390 := n3_
             have HB := n4_
             have HR402 := n5_
             have HR409 := n6_
             have HO405 := n7_
             clear n0_ n1_ n2_ n3_ n4_ n5_ n6_ n7_
             clear ho hb hg hat
             refine hK.out _ _ trivial (fun hHeld => ?_)
             clear hK K
             refine norm_ (a' := ?_) ?_ ?_
             rotate_left
             ·
              show Act.put _ (some 32) _ = _
              simp only [Act.put, zSA, zSB, zSC, i64_w, i32_w]
              rfl
             refine one_ (i := 9) (N := some 37) (bq 13 1023) rfl rfl (one_of HT_.out (by kernel_rfl)) (by decide) (fun K hK => ?_)
             refine Kd.R_append_rows_step Kd.string (w0 := w) w.heap.size (by rfl) (.tmp 32) (.tmp 36) 22 9 (.string ⟨#[]⟩) 16 rfl Try.underlying22 info9 rfl (by decide) (by omega) v404 y403 y406 _ _ _ (fun k_ => some k_ ≠ (.slice (some ad395) t391.length co10 : Value).ownBlock ∧ some k_ ≠ (.slice (some ad395) t391.length co10 : Value).ownBlock) (fun _ => False) rfl rfl ?aO ?aR (fun _ _ h => h) (fun _ h => h.elim) ?aF ?aB ?aS ?aL ?_
             (case aR => repeat (first | exact (by repeat (first | (with_reducible exact HR409.out) | (with_reducible refine Kd.C_alloc ?_ _) | (with_reducible refine Kd.C_drewN ?_ _) | (with_reducible refine Kd.C_drew ?_) | exact HR409.out)) | (with_reducible refine Kd.C_alloc ?_ _) | (with_reducible refine Kd.C_drewN ?_ _) | (with_reducible refine Kd.C_drew ?_)))
             (case aB => exact (by repeat (first | (with_reducible first | exact HB.out | apply below_alloc | apply pw_below_drewN | apply below_drew1 | refine below_set ?_ GE389.out | refine below_set ?_ GE390.out) | exact HB.out)))
             (case aF => exact (fun k_ hk => ⟨Kd.fresh' (Kd.R_lt (by (with_reducible repeat (first | apply Kd.R_alloc | apply Kd.R_drewN | apply Kd.R_drew)); exact HO_6.out)) k_ hk, Kd.fresh' (Kd.R_lt (by (with_reducible repeat (first | apply Kd.R_alloc | apply Kd.R_drewN | apply Kd.R_drew)); exact HO_18.out)) k_ hk⟩))
             (case aO => exact (by (with_reducible repeat (first | apply Kd.R_alloc | apply Kd.R_drewN | apply Kd.R_drew)); exact HO405.out))
             (case aS => exact (below_size (by repeat (first | (with_reducible first | exact HB.out | apply below_alloc | apply pw_below_drewN | apply below_drew1 | refine below_set ?_ GE389.out | refine below_set ?_ GE390.out) | exact HB.out))))
             (case aL => have := LMc21.out; omega)
             intro v411 w29 ho hb hg hat
             rw [← Ny410.out] at ho
             have n0_ := aM (Kd.R_after (ok := (fun _ => True)) (by (with_reducible repeat (first | apply Kd.R_alloc | apply Kd.R_drewN | apply Kd.R_drew)); exact HO_6.out) hg hat)
             have n1_ := aM (Kd.R_after (ok := (fun _ => True)) (by (with_reducible repeat (first | apply Kd.R_alloc | apply Kd.R_drewN | apply Kd.R_drew)); exact HO_18.out) hg hat)
             have n2_ := aM (blk_grown (g := gb389) (o := .cells #[.slice A0_0 l0_0.length c0_0] 26 (0, 0)) (by (with_reducible repeat (first | refine blk_drewN ?_ _ | refine blk_drew ?_ | refine blk_alloc ?_ _)); exact BK389.out) hg (Kd.R_ne HO405.out BK389.out (by decide)))
             have n3_ := aM (blk_grown (g := gb390) (o := .cells #[.slice none 0 0] 26 (0, 0)) (by (with_reducible repeat (first | refine blk_drewN ?_ _ | refine blk_drew ?_ | refine blk_alloc ?_ _)); exact BK390.out) hg (Kd.R_ne HO405.out BK390.out (by decide)))
             have n4_ := aM (hb)
             have n5_ := aM ((show Kd.C Kd.string w29 (some ad395) y399.length y399 from by rw [Ny399.out]; exact Kd.C_take (m := (x20_1 : Int).toNat) ((Kd.R_reads' (Kd.R_after (ok := (fun _ => True)) (by (with_reducible repeat (first | apply Kd.R_alloc | apply Kd.R_drewN | apply Kd.R_drew)); exact HO_6.out) hg hat)).2.2) KL24.out))
             have n6_ := aM ((show Kd.C Kd.string w29 A25 y406.length y406 from by rw [Ny406.out, KA25.out]; exact Kd.C_drop (m := ((ji18) : Int).toNat) (c := co10) ((Kd.R_reads' (Kd.R_after (ok := (fun _ => True)) (by (with_reducible repeat (first | apply Kd.R_alloc | apply Kd.R_drewN | apply Kd.R_drew)); exact HO_6.out) hg hat)).2.2) KL25.out ((Kd.R_reads' (Kd.R_after (ok := (fun _ => True)) (by (with_reducible repeat (first | apply Kd.R_alloc | apply Kd.R_drewN | apply Kd.R_drew)); exact HO_6.out) hg hat)).2.1)))
             have n7_ := aM (ho)
             clear HO_6
             clear HO_18
             clear BK389
             clear BK390
             clear HB
             clear HR402
             clear HR409
             clear HO405
             have HO_6 := n0_
             have HO_18 := n1_
             have BK389 := n2_
             have BK390 := n3_
             have HB := n4_
             have HR402 := n5_
             have HR409 := n6_
             have HO412 := n7_
             clear n0_ n1_ n2_ n3_ n4_ n5_ n6_ n7_
             clear ho hb hg hat
             obtain ⟨Ao30, co30, eo30⟩ := Kd.R_slice HO412.out
             (first | subst eo30 | (injection eo30 with f1_ f2_ f3_; have f4_ := f1_.symm; have f5_ := f3_.symm; clear f1_ f2_ f3_; subst f4_; subst f5_))
             refine hK.out _ _ trivial (fun hHeld => ?_)
             clear hK K
             refine norm_ (a' := ?_) ?_ ?_
             rotate_left
             ·
              show Act.put _ (some 37) _ = _
              simp only [Act.put, zSA, zSB, zSC, i64_w, i32_w]
              rfl
             refine one_ (i := 10) (N := some 38) (bq 13 2047) rfl rfl (one_of HT_.out (by kernel_rfl)) (by decide) (fun K hK => ?_)
             refine goes_ Try.func39 (by kernel_rfl) rfl #[.slice Ao30 y410.length co30] (by rfl) rfl rfl (by (try simp only [List.map_toArray, List.map_cons, List.map_nil]); first | done | rfl | (simp only [List.length_drop, List.length_take]; rfl)) ?_
             with_reducible refine (spec_l13Radix.calls k1 _ _ y410 t413 _ ?side1 ?side2 A22.out).mono ?_
             (case side1 => repeat (first | exact (Kd.R_reads' HO412.out).2.2 | (with_reducible refine Kd.C_alloc ?_ _) | (with_reducible refine Kd.C_drewN ?_ _) | (with_reducible refine Kd.C_drew ?_)))
             (case side2 => exact (Kd.R_reads' HO412.out).2.1)
             rintro e w31 ⟨v414, rfl, ho0, hb⟩
             refine ⟨_, rfl, ?_⟩
             have n0_ := aM (Kd.R_below (by (with_reducible repeat (first | apply Kd.R_alloc | apply Kd.R_drewN | apply Kd.R_drew)); exact HO_6.out) hb)
             have n1_ := aM (Kd.R_below (by (with_reducible repeat (first | apply Kd.R_alloc | apply Kd.R_drewN | apply Kd.R_drew)); exact HO_18.out) hb)
             have n2_ := aM (Kd.R_below (by (with_reducible repeat (first | apply Kd.R_alloc | apply Kd.R_drewN | apply Kd.R_drew)); exact HO412.out) hb)
             have n3_ := aM (Kd.R_lower ho0 (below_size (by repeat (first | (with_reducible first | exact HB.out | apply below_alloc | apply pw_below_drewN | apply below_drew1 | refine below_set ?_ GE389.out | refine below_set ?_ GE390.out) | exact HB.out))))
             have n4_ := aM (blk_below (g := gb389) (o := .cells #[.slice A0_0 l0_0.length c0_0] 26 (0, 0)) (by (with_reducible repeat (first | refine blk_drewN ?_ _ | refine blk_drew ?_ | refine blk_alloc ?_ _)); exact BK389.out) hb)
             have n5_ := aM (blk_below (g := gb390) (o := .cells #[.slice none 0 0] 26 (0, 0)) (by (with_reducible repeat (first | refine blk_drewN ?_ _ | refine blk_drew ?_ | refine blk_alloc ?_ _)); exact BK390.out) hb)
             have n6_ := aM (Kd.C_below (by repeat (first | (with_reducible exact HR402.out) | (with_reducible refine Kd.C_alloc ?_ _) | (with_reducible refine Kd.C_drewN ?_ _) | (with_reducible refine Kd.C_drew ?_) | exact HR402.out)) hb)
             have n7_ := aM (Kd.C_below (by repeat (first | (with_reducible exact HR409.out) | (with_reducible refine Kd.C_alloc ?_ _) | (with_reducible refine Kd.C_drewN ?_ _) | (with_reducible refine Kd.C_drew ?_) | exact HR409.out)) hb)
             have n8_ := aM (below_step (by repeat (first | (with_reducible first | exact HB.out | apply below_alloc | apply pw_below_drewN | apply below_drew1 | refine below_set ?_ GE389.out | refine below_set ?_ GE390.out) | exact HB.out)) hb)
             clear HO_6
             clear HO_18
             clear HO412
             clear BK389
             clear BK390
             clear HR402
             clear HR409
             clear HB
             have HO_6 := n0_
             have HO_18 := n1_
             have HO412 := n2_
             have HO415 := n3_
             have BK389 := n4_
             have BK390 := n5_
             have HR402 := n6_
             have HR409 := n7_
             have HB := n8_
             clear n0_ n1_ n2_ n3_ n4_ n5_ n6_ n7_ n8_
             (try clear hb)
             (try clear hb2)
             (try clear hk)
             (try clear hi)
             (try clear ho0)
             obtain ⟨Ao32, co32, eo32⟩ := Kd.R_slice HO415.out
             (first | subst eo32 | (injection eo32 with f1_ f2_ f3_; have f4_ := f1_.symm; have f5_ := f3_.symm; clear f1_ f2_ f3_; subst f4_; subst f5_))
             refine hK.out _ _ trivial (fun hHeld => ?_)
             clear hK K
             refine norm_ (a' := ?_) ?_ ?_
             rotate_left
             ·
              show Act.put _ (some 38) _ = _
              simp only [Act.put, zSA, zSB, zSC, i64_w, i32_w]
              rfl
             refine one_ (i := 11) (N := none) (bq 13 4095) rfl rfl (one_of HT_.out (by kernel_rfl)) (by decide) (fun K hK => ?_)
             have hs33 : w31.cell? ⟨gb390, 0, none⟩ = some (.slice none 0 0) := (blk_cell BK390.out 0).trans rfl
             have hfs33 := blk_frozen BK390.out 0
             have hns33_0 := NB389_390.out
             have hms33_0 := NB390_389.out
             refine skip_ (w1 := ?_) (by rfl) rfl ?_ ?_
             rotate_left
             ·
              go_simp
              rfl
             refine hK.out _ _ trivial (fun hHeld => ?_)
             clear hK K
             refine pure_ (i := 12) (N := some 5) (v := ?_) (a' := ?_) (bq 13 8191) rfl rfl (any_of HT_.out (by kernel_rfl)) (fun _ _ _ h => h) (Or.inl ⟨by rfl, ?_⟩) ?_ ?_; rotate_left; (intro w'; go_simp; (with_reducible rfl)); rotate_left; (simp only [Act.put, zSA, zSB, zSC, i64_w, i32_w]; rfl)
             refine done_ (done_of HT_.out (by kernel_rfl)) ?_
             try go_wp2
             refine bodyPost_ret (results_ct rfl _ _ gb390 26 #[.slice Ao32 t413.length co32] (0, 0) _ rfl (by (with_reducible repeat (first | refine blk_drewN ?_ _ | refine blk_drew ?_ | refine blk_alloc ?_ _)); refine blk_put (cs := #[.slice none 0 0]) ?_ 0 _ rfl; (with_reducible repeat (first | refine blk_drewN ?_ _ | refine blk_drew ?_ | refine blk_alloc ?_ _)); exact BK390.out) Try.underlying26 rfl (by kernel_rfl)) rfl ?_
             exact ⟨_, by first | rfl | (simp [errW_none, errW_some] <;> rfl) | (simp only [← hji18]; first | rfl | (simp [errW_none, errW_some] <;> rfl)) | (simp [*, errW_none, errW_some] <;> rfl), by (with_reducible repeat (first | apply Kd.R_alloc | apply Kd.R_drewN | apply Kd.R_drew)); exact Kd.R_mono (Kd.R_far (p := ⟨gb390, 0, none⟩) (Kd.R_types HO415.out BK390.out (by decide)) (fun _ hk => hk.2) (.slice Ao32 t413.length co32)) (fun _ hk => trivial), by repeat (first | (with_reducible first | exact HB.out | apply below_alloc | apply pw_below_drewN | apply below_drew1 | refine below_set ?_ GE389.out | refine below_set ?_ GE390.out) | exact HB.out)⟩
            ·
             rw [if_neg c21] at H
             exact absurd H (by simp)
           ·
            rw [if_neg c20] at H
            exact absurd H (by simp)
          ·
           rw [if_neg c19] at H
           exact absurd H (by simp)
         ·
          rw [if_neg c17] at H
          exact absurd H (by simp)
        ·
         rw [if_neg c16] at H
         exact absurd H (by simp)
       ·
        rw [if_neg c14] at H
        have c14b0 : ((rdOf ByteArray.empty t391 x20_1).toList == a1.toList) = false := beq_eq_false_iff_ne.mpr c14
        have c14b1 : ((rdOf ByteArray.empty t391 x20_1).toList != a1.toList) = true := bne_iff_ne.mpr c14
        have H' := aM H
        clear H
        have p395 : 0 ≤ (x20_1 : Int) := of_decide_eq_true (by first | (with_reducible assumption) | assumption)
        have q395 : x20_1 < (t391.length : Int) := of_decide_eq_true (by first | (with_reducible assumption) | assumption)
        obtain ⟨ad395, e395, hx395_0⟩ := Kd.at_string (Kd.R_reads' HO_18.out).2.2 x20_1 p395 q395
        cases e395
        replace p395 := eq_true p395
        replace q395 := eq_true q395
        go_wp2
        go_roundg k1
        case measure => have := HK1.out; omega
        case rel => exact ⟨(wrap64 (x20_1 + 1)), (by first | rfl | (simp; done) | (simp [*]; done)), H', ⟨by have := HK1.out; omega⟩, ⟨by (with_reducible repeat (first | apply Kd.R_alloc | apply Kd.R_drewN | apply Kd.R_drew)); exact HO_6.out⟩, ⟨by (with_reducible repeat (first | apply Kd.R_alloc | apply Kd.R_drewN | apply Kd.R_drew)); exact HO_18.out⟩, ⟨by (with_reducible repeat (first | refine blk_drewN ?_ _ | refine blk_drew ?_ | refine blk_alloc ?_ _)); exact BK389.out⟩, ⟨by (with_reducible repeat (first | refine blk_drewN ?_ _ | refine blk_drew ?_ | refine blk_alloc ?_ _)); exact BK390.out⟩, ⟨by repeat (first | (with_reducible first | exact HB.out | apply below_alloc | apply pw_below_drewN | apply below_drew1 | refine below_set ?_ GE389.out | refine below_set ?_ GE390.out) | exact HB.out)⟩⟩
      ·
       rw [if_neg c13] at H
       exact absurd H (by simp)
     ·
      rw [if_neg c12] at H
      exact absurd H (by simp)
    ·
     rw [if_neg c11] at H
     have c11b0 : decide (x20_1 < (t391.length : Int)) = false := decide_eq_false c11
     clear c11
     simp only [Option.some.injEq, Prod.mk.injEq] at H
     obtain ⟨rfl, rfl⟩ := H
     have hnb34 := NB390_389.out
     have hnc34 := NB389_390.out
     have hcz35_0 : wr.cell? ⟨gb390, 0, none⟩ = some (.slice none 0 0) := (blk_cell BK390.out 0).trans rfl
     have hfz35_0 := blk_frozen BK390.out 0
     go_wp2
     refine bodyPost_ret (results_ct rfl _ _ gb390 26 #[.slice none 0 0] (0, 0) _ rfl (by (with_reducible repeat (first | refine blk_drewN ?_ _ | refine blk_drew ?_ | refine blk_alloc ?_ _)); refine blk_put (cs := #[.slice none 0 0]) ?_ 0 _ rfl; (with_reducible repeat (first | refine blk_drewN ?_ _ | refine blk_drew ?_ | refine blk_alloc ?_ _)); exact BK390.out) Try.underlying26 rfl (by kernel_rfl)) rfl ?_
     exact ⟨_, by first | rfl | (simp [errW_none, errW_some] <;> rfl) | (simp [*, errW_none, errW_some] <;> rfl), by first | exact Kd.R_nil _ _ _ _ _ | exact Kd.N_nil _ _ _ _ _ | exact Kd.V_nil _ _ _ _ _ | exact Kd.Q_nil _ _ _ _ _ | exact Kd.S_nil _ _ _ _ _, by repeat (first | (with_reducible first | exact HB.out | apply below_alloc | apply pw_below_drewN | apply below_drew1 | refine below_set ?_ GE389.out | refine below_set ?_ GE390.out) | exact HB.out)⟩
 ·
  replace c4 := Bool.eq_false_iff.mpr c4
  subst c4
  have H1 : (some (([] : List (S64)), false)) = some (r1, r2) := by rw [if_neg (show ¬ (false = true) by decide)] at H; exact H
  clear H
  have H := H1
  clear H1
  simp only [Option.some.injEq, Prod.mk.injEq] at H
  obtain ⟨rfl, rfl⟩ := H
  go_enter Try.func33, Try.ntmps33
  go_wp2_with (first | ((with_reducible refine gate_dst (N := 2) rfl ?_); refine box_event ?hg (N := 2) ?hd (cs := #[.slice A0_0 l0_0.length c0_0]) (t := 26) ?hr ?_; (case hd => rfl); (case hg => rfl); (case hr => first | (go_simp; done) | (go_simp; rfl)); intro gb389 hg w36 hbox hb; have n0_ := aM (below_step (by repeat (first | (with_reducible first | exact HB.out | apply below_alloc | apply pw_below_drewN | apply below_drew1) | exact HB.out)) hb); have n1_ := aM (hbox); have n2_ := aM ((by rw [hg]; exact (below_size (by repeat (first | (with_reducible first | exact HB.out | apply below_alloc | apply pw_below_drewN | apply below_drew1) | exact HB.out))) : w.heap.size ≤ gb389)); have n3_ := aM ((by rw [hg]; exact (below_size (by repeat (first | (with_reducible first | exact HB.out | apply below_alloc | apply pw_below_drewN | apply below_drew1) | exact HB.out))) : w.heap.size ≤ gb389)); clear HB; have HB := n0_; have BK389 := n1_; have GW389 := n2_; have GE389 := n3_; clear n0_ n1_ n2_ n3_; clear hb hbox hg) | ((with_reducible refine gate_dst (N := 4) rfl ?_); refine box_event ?hg (N := 4) ?hd (cs := #[.slice none 0 0]) (t := 26) ?hr ?_; (case hd => rfl); (case hg => rfl); (case hr => first | (go_simp; done) | (go_simp; rfl)); intro gb390 hg w37 hbox hb; have n0_ := aM (blk_below (g := gb389) (o := .cells #[.slice A0_0 l0_0.length c0_0] 26 (0, 0)) (by (with_reducible repeat (first | refine blk_drewN ?_ _ | refine blk_drew ?_ | refine blk_alloc ?_ _)); exact BK389.out) hb); have n1_ := aM (below_step (by repeat (first | (with_reducible first | exact HB.out | apply below_alloc | apply pw_below_drewN | apply below_drew1 | refine below_set ?_ GE389.out) | exact HB.out)) hb); have n2_ := aM (hbox); have n3_ := aM ((by rw [hg]; exact (below_size (by repeat (first | (with_reducible first | exact HB.out | apply below_alloc | apply pw_below_drewN | apply below_drew1 | refine below_set ?_ GE389.out) | exact HB.out))) : w.heap.size ≤ gb390)); have n4_ := aM ((by rw [hg]; exact (below_size (by repeat (first | (with_reducible first | exact HB.out | apply below_alloc | apply pw_below_drewN | apply below_drew1 | refine below_set ?_ GE389.out) | exact HB.out))) : w.heap.size ≤ gb390)); have n5_ := aM ((by rw [hg]; exact Nat.ne_of_lt (blk_lt (g := gb389) (o := .cells #[.slice A0_0 l0_0.length c0_0] 26 (0, 0)) (by (with_reducible repeat (first | refine blk_drewN ?_ _ | refine blk_drew ?_ | refine blk_alloc ?_ _)); exact BK389.out)) : gb389 ≠ gb390)); have n6_ := aM ((by rw [hg]; exact Nat.ne_of_gt (blk_lt (g := gb389) (o := .cells #[.slice A0_0 l0_0.length c0_0] 26 (0, 0)) (by (with_reducible repeat (first | refine blk_drewN ?_ _ | refine blk_drew ?_ | refine blk_alloc ?_ _)); exact BK389.out)) : gb390 ≠ gb389)); clear BK389; clear HB; have BK389 := n0_; have HB := n1_; have BK390 := n2_; have GW390 := n3_; have GE390 := n4_; have NB389_390 := n5_; have NB390_389 := n6_; clear n0_ n1_ n2_ n3_ n4_ n5_ n6_; clear hb hbox hg; have hnb38 := NB389_390.out; have hnc38 := NB390_389.out; have hcz39_0 : w37.cell? ⟨gb389, 0, none⟩ = some (.slice A0_0 l0_0.length c0_0) := (blk_cell BK389.out 0).trans rfl; have hfz39_0 := blk_frozen BK389.out 0) | ((with_reducible refine gate_callee (f := 52) rfl ?_); refine goesL_ (some 12) rfl rfl Try.func52 (by kernel_rfl) rfl #[.agg #[.slice A0_0 l0_0.length c0_0]] rfl (by (try simp only [List.map_toArray, List.map_cons, List.map_nil]); first | done | rfl | (simp only [List.length_drop, List.length_take]; rfl)) ?_; (with_reducible refine (spec_l13Good.calls k _ _ l0_0 t391 false _ ?side1 ?side2 A3.out).mono ?_); (case side1 => repeat (first | exact (Kd.C_below HR0_0.out HB.out) | (with_reducible refine Kd.C_alloc ?_ _) | (with_reducible refine Kd.C_drewN ?_ _) | (with_reducible refine Kd.C_drew ?_))); (case side2 => exact HC0_0.out); rintro e w40 ⟨v392, rfl, ho0, hb⟩; refine ⟨_, rfl, ?_⟩; have n0_ := aM (Kd.R_lower ho0 (below_size (by repeat (first | (with_reducible first | exact HB.out | apply below_alloc | apply pw_below_drewN | apply below_drew1 | refine below_set ?_ GE389.out | refine below_set ?_ GE390.out) | exact HB.out)))); have n1_ := aM (blk_below (g := gb389) (o := .cells #[.slice A0_0 l0_0.length c0_0] 26 (0, 0)) (by (with_reducible repeat (first | refine blk_drewN ?_ _ | refine blk_drew ?_ | refine blk_alloc ?_ _)); exact BK389.out) hb); have n2_ := aM (blk_below (g := gb390) (o := .cells #[.slice none 0 0] 26 (0, 0)) (by (with_reducible repeat (first | refine blk_drewN ?_ _ | refine blk_drew ?_ | refine blk_alloc ?_ _)); exact BK390.out) hb); have n3_ := aM (below_step (by repeat (first | (with_reducible first | exact HB.out | apply below_alloc | apply pw_below_drewN | apply below_drew1 | refine below_set ?_ GE389.out | refine below_set ?_ GE390.out) | exact HB.out)) hb); clear BK389; clear BK390; clear HB; have HO393 := n0_; have BK389 := n1_; have BK390 := n2_; have HB := n3_; clear n0_ n1_ n2_ n3_; (try clear hb); (try clear hb2); (try clear hk); (try clear hi); (try clear ho0); have hcz41_0 : w40.cell? ⟨gb390, 0, none⟩ = some (.slice none 0 0) := (blk_cell BK390.out 0).trans rfl; have hfz41_0 := blk_frozen BK390.out 0))
  refine bodyPost_ret (results_ct rfl _ _ gb390 26 #[.slice none 0 0] (0, 0) _ rfl (by (with_reducible repeat (first | refine blk_drewN ?_ _ | refine blk_drew ?_ | refine blk_alloc ?_ _)); refine blk_put (cs := #[.slice none 0 0]) ?_ 0 _ rfl; (with_reducible repeat (first | refine blk_drewN ?_ _ | refine blk_drew ?_ | refine blk_alloc ?_ _)); exact BK390.out) Try.underlying26 rfl (by kernel_rfl)) rfl ?_
  exact ⟨_, by first | rfl | (simp [errW_none, errW_some] <;> rfl) | (simp [*, errW_none, errW_some] <;> rfl), by first | exact Kd.R_nil _ _ _ _ _ | exact Kd.N_nil _ _ _ _ _ | exact Kd.V_nil _ _ _ _ _ | exact Kd.Q_nil _ _ _ _ _ | exact Kd.S_nil _ _ _ _ _, by repeat (first | (with_reducible first | exact HB.out | apply below_alloc | apply pw_below_drewN | apply below_drew1 | refine below_set ?_ GE389.out | refine below_set ?_ GE390.out) | exact HB.out)⟩

end Go.Proofs.Ytcngebfcpobnnaa.PQ
end
