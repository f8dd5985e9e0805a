/- Several texts in one: what the claim's last text rests on. No conditions. -/
import Derived.Test.YtaomjndfjmfelaaMRt6
import Derived.Test.YtaomjndfjmfelaaMRt9
import Derived.Test.YtaomjndfjmfelaaMRt4
import Derived.Test.YtaomjndfjmfelaaMRt7
section
namespace Go.Proofs.Ytaomjndfjmfelaa.PQ
open Go.RowKit Go.Proofs.YtaomjndfjmfelaaW.PrintWords Go.Proofs.YtaomjndfjmfelaaW.PrintLast Go.Proofs.YtaomjndfjmfelaaW.PrintMore
attribute [local go_sem] max2_int min2_int max_two min_two max_three min_three max_four min_four
set_option linter.unusedVariables false
set_option linter.unusedSimpArgs false
attribute [local go_sem] Go.Proofs.Ytaomjndfjmfelaa.StrO.leq_s Go.Proofs.Ytaomjndfjmfelaa.StrO.gtr_s Go.Proofs.Ytaomjndfjmfelaa.StrO.geq_s
def spec_GoodWords.l0 : Nat → List (S102) → Int → Int → Int → List (S102) → Option (Bool)
 | 0, _, _, _, _, _ => none
 | k + 1, x6, x7, x8, x312000, x312001 => if x8 < x7 then (if 0 ≤ x8 then (if x8 < (x6.length : Int) then ((spec_l10Word.f k ((rd_T102 x6 x8).f0)).bind fun t315 => (if t315 = true then (if (((rd_T102 x6 x8).f1).length : Int) = 0 then (some false) else ((spec_l10List.f k ((rd_T102 x6 x8).f1) x312000).bind fun t316 => (if t316 = true then (if x8 > 0 then (if 0 ≤ (wrap64 (x8 - 1)) then (if (wrap64 (x8 - 1)) < (x312001.length : Int) then (if ((Op.bytesLess (((rd_T102 x312001 (wrap64 (x8 - 1))).f0).toList) (((rd_T102 x6 x8).f0).toList)) = true) then (spec_GoodWords.l0 k x6 x7 (wrap64 (x8 + 1)) x312000 x312001) else (some false)) else (none)) else (none)) else (spec_GoodWords.l0 k x6 x7 (wrap64 (x8 + 1)) x312000 x312001)) else (some false)))) else (some false))) else (none)) else (none)) else ((spec_l1In.f x312000 0 40).bind fun t312 => (if t312 = true then (some (decide ((x312001.length : Int) ≤ 200))) else (some false)))
def spec_GoodWords.f (k : Nat) (a0_0 : Int) (l0_1 : List (S102)) : Option (Bool) := spec_GoodWords.l0 k l0_1 (l0_1.length : Int) 0 a0_0 l0_1
def spec_GoodWords.T4 : Bool × List (List Nat × List Nat) := (true, [([], []), ([0], [0]), ([1], [1]), ([2], [2]), ([3, 2], [3]), ([4], [4]), ([5, 4], [4, 5]), ([6, 4], [4, 6]), ([7, 4], [4, 7]), ([4, 8], [4, 8]), ([9, 4], [9]), ([10], [10]), ([11, 10], [10, 11]), ([10], [10]), ([13, 10], [10, 13]), ([12, 14, 10, 10], [10, 12, 14]), ([15, 10], [10, 15]), ([10, 16], [10, 16]), ([17, 15], [17]), ([18], [18]), ([19, 18], [18, 19]), ([20, 18, 18], [18, 20]), ([21], [21]), ([22, 21], [21, 22]), ([21], [21]), ([24, 21], [21, 24]), ([23, 25, 21], [21, 23, 25]), ([26, 21], [21, 26]), ([27, 21], [21, 27]), ([21], [21]), ([29, 21], [21, 29]), ([28, 30, 21], [21, 28, 30]), ([21, 31, 18], [18, 21, 31]), ([18, 32], [18, 32])])
def spec_GoodWords.B4 : List Nat := [0, 1, 3, 7, 15, 31, 63, 127, 255, 511, 1023, 2047, 4095, 2047, 10239, 32767, 65535, 131071, 262143, 524287, 1048575, 2097151, 4194303, 8388607, 4194303, 20971519, 67108863, 134217727, 268435455, 4194303, 541065215, 2147483647, 4294967295, 8589934591]
theorem spec_GoodWords.tab4 : rtab .any (opsOf Try.f44 4) = spec_GoodWords.T4 := by kernel_rfl
theorem spec_GoodWords.bits4 : waitsOk spec_GoodWords.T4.2 spec_GoodWords.B4 = true := by kernel_rfl
set_option maxHeartbeats 8000000 in
set_option maxRecDepth 100000 in
theorem spec_GoodWords.calls (k : Nat) (a0_0 : Int) (A0_1 : Option Addr) (c0_1 : Nat) (l0_1 : List (S102)) (r : Bool) (w : World) (hr0_1 : Kd.C k102 w A0_1 l0_1.length l0_1) (hc0_1 : l0_1.length ≤ c0_1) (h : spec_GoodWords.f k a0_0 l0_1 = some r) :
  Calls Try.prog 44 #[.agg #[.int .i64 a0_0, .slice A0_1 l0_1.length c0_1]] w fun e w' => e = .returned (.bool r) ∧ Below w.heap.size w w' := by
 have hu33 := Try.underlying33
 have hu102 := Try.underlying102
 have HR0_1 := aM hr0_1
 have HC0_1 := aM hc0_1
 clear hr0_1 hc0_1
 have HB := aM (Below.refl w.heap.size w)
 have H : (spec_GoodWords.l0 k l0_1 (l0_1.length : Int) 0 a0_0 l0_1) = some r := h
 clear h
 have H' := aM H
 clear H
 go_enter Try.func44, Try.ntmps44
 go_wp2_with (((with_reducible refine gate_dst (N := 1) rfl ?_); (try (refine gate_guard (by rfl) ?_; dsimp only)); refine box_event ?hg (N := 1) ?hd (cs := #[.int .i64 a0_0, .slice A0_1 l0_1.length c0_1]) (t := 33) ?hr ?_; (case hd => rfl); (case hg => rfl); (case hr => first | (go_simp; done) | (go_simp; rfl)); intro gb311 hg w2 hbox hb; have n0_ := aM (below_step (gB HB.out) hb); have n1_ := aM (hbox); have n2_ := aM ((by rw [hg]; exact (below_size (gB HB.out)) : w.heap.size ≤ gb311)); have n3_ := aM ((by rw [hg]; exact (below_size (gB HB.out)) : w.heap.size ≤ gb311)); clear HB; have HB := n0_; have BK311 := n1_; have GW311 := n2_; have GE311 := n3_; clear n0_ n1_ n2_ n3_; clear hb hbox hg; have hcz3_0 : w2.cell? ⟨gb311, 0, none⟩ = some (.int .i64 a0_0) := (blk_cell BK311.out 0).trans rfl; have hcz3_1 : w2.cell? ⟨gb311, 1, none⟩ = some (.slice A0_1 l0_1.length c0_1) := (blk_cell BK311.out 1).trans rfl; have hfz3_0 := blk_frozen BK311.out 0; have hfz3_1 := blk_frozen BK311.out 1))
 go_loopg [8] k (fun kq v8 w' => ∃ (x8_1 : Int), v8 = .int .i64 x8_1 ∧ Aside0 (spec_GoodWords.l0 kq l0_1 (l0_1.length : Int) x8_1 a0_0 l0_1 = some r) ∧ Aside0 (kq ≤ k) ∧ Aside0 (w'.heap[gb311]? = some (.cells #[.int .i64 a0_0, (.slice A0_1 l0_1.length c0_1)] 33 (0, 0))) ∧ Aside0 (Below w.heap.size w w'))
 case atStart => exact ⟨(0), (by first | rfl | (simp; done) | (simp [*]; done)), H', ⟨Nat.le_refl _⟩, ⟨gK BK311.out⟩, ⟨by repeat (first | (with_reducible first | exact HB.out | apply below_alloc | apply pw_below_drewN | apply below_drew1 | refine below_set ?_ GE311.out) | exact HB.out)⟩⟩
 case round =>
  clear H'
  try clear p2
  try clear hcz3_0
  try clear hcz3_1
  try clear hfz3_0
  try clear hfz3_1
  obtain ⟨x8_1, rfl, HA, HK1, BK311, HB⟩ := hrel
  cases gk with
  | zero => exact absurd HA.out (by simp [spec_GoodWords.l0])
  | succ k1 =>
   have H := HA.out
   clear HA
   simp only [spec_GoodWords.l0] at H
   by_cases c4 : x8_1 < (l0_1.length : Int)
   ·
    rw [if_pos c4] at H
    have c4b0 : decide (x8_1 < (l0_1.length : Int)) = true := decide_eq_true c4
    clear c4
    by_cases c5 : 0 ≤ x8_1
    ·
     rw [if_pos c5] at H
     have c5b0 : decide (0 ≤ x8_1) = true := decide_eq_true c5
     clear c5
     by_cases c6 : x8_1 < (l0_1.length : Int)
     ·
      rw [if_pos c6] at H
      have c6b0 : decide (x8_1 < (l0_1.length : Int)) = true := decide_eq_true c6
      clear c6
      replace H := Option.bind_eq_some_iff.mp H
      obtain ⟨t315, A70, H⟩ := H
      replace H : (if t315 = true then (if (((rd_T102 l0_1 x8_1).f1).length : Int) = 0 then (some false) else ((spec_l10List.f k1 ((rd_T102 l0_1 x8_1).f1) a0_0).bind fun t316 => (if t316 = true then (if x8_1 > 0 then (if 0 ≤ (wrap64 (x8_1 - 1)) then (if (wrap64 (x8_1 - 1)) < (l0_1.length : Int) then (if ((Op.bytesLess (((rd_T102 l0_1 (wrap64 (x8_1 - 1))).f0).toList) (((rd_T102 l0_1 x8_1).f0).toList)) = true) then (spec_GoodWords.l0 k1 l0_1 (l0_1.length : Int) (wrap64 (x8_1 + 1)) a0_0 l0_1) else (some false)) else (none)) else (none)) else (spec_GoodWords.l0 k1 l0_1 (l0_1.length : Int) (wrap64 (x8_1 + 1)) a0_0 l0_1)) else (some false)))) else (some false)) = some r := H
      have A7 := aM A70
      clear A70
      by_cases c8 : t315 = true
      ·
       subst c8
       have H1 : (if (((rd_T102 l0_1 x8_1).f1).length : Int) = 0 then (some false) else ((spec_l10List.f k1 ((rd_T102 l0_1 x8_1).f1) a0_0).bind fun t316 => (if t316 = true then (if x8_1 > 0 then (if 0 ≤ (wrap64 (x8_1 - 1)) then (if (wrap64 (x8_1 - 1)) < (l0_1.length : Int) then (if ((Op.bytesLess (((rd_T102 l0_1 (wrap64 (x8_1 - 1))).f0).toList) (((rd_T102 l0_1 x8_1).f0).toList)) = true) then (spec_GoodWords.l0 k1 l0_1 (l0_1.length : Int) (wrap64 (x8_1 + 1)) a0_0 l0_1) else (some false)) else (none)) else (none)) else (spec_GoodWords.l0 k1 l0_1 (l0_1.length : Int) (wrap64 (x8_1 + 1)) a0_0 l0_1)) else (some false)))) = some r := by rw [if_pos rfl] at H; exact H
       clear H
       have H := H1
       clear H1
       by_cases c9 : (((rd_T102 l0_1 x8_1).f1).length : Int) = 0
       ·
        rw [if_pos c9] at H
        have c9b0 : ((((rd_T102 l0_1 x8_1).f1).length : Int) == 0) = true := beq_iff_eq.mpr c9
        have c9b1 : ((((rd_T102 l0_1 x8_1).f1).length : Int) != 0) = false := bne_eq_false_iff_eq.mpr c9
        clear c9
        obtain rfl := Option.some.inj H
        have p313 : 0 ≤ (x8_1 : Int) := of_decide_eq_true (by first | (with_reducible assumption) | assumption)
        have q313 : x8_1 < (l0_1.length : Int) := of_decide_eq_true (by first | (with_reducible assumption) | assumption)
        obtain ⟨ad313, A313_1, c313_1, e313, hx313_0, hx313_1, hl313_1, hi313_1⟩ := at_T102 HR0_1.out x8_1 p313 q313
        cases e313
        try have hz_hx313_0 := aM hx313_0
        try have hz_hx313_1 := aM hx313_1
        replace hx313_0 := (HB.out.cell (World.block_lt_of_cell? w _ hx313_0)).trans hx313_0
        replace hx313_1 := (HB.out.cell (World.block_lt_of_cell? w _ hx313_1)).trans hx313_1
        have HR313_1 := aM hi313_1
        have HC313_1 := aM hl313_1
        clear hi313_1 hl313_1
        replace p313 := eq_true p313
        replace q313 := eq_true q313
        try go_wp2_with (((with_reducible refine gate_dst (N := 4) rfl ?_); (try (refine gate_guard (by rfl) ?_; dsimp only)); refine box_event ?hg (N := 4) ?hd (cs := #[.string (⟨#[]⟩ : ByteArray), .slice none 0 0]) (t := 102) ?hr ?_; (case hd => rfl); (case hg => rfl); (case hr => first | (go_simp; done) | (go_simp; rfl)); intro gb314 hg w10 hbox hb; have n0_ := aM (blk_below (g := gb311) (o := .cells #[.int .i64 a0_0, .slice (some ad313) l0_1.length c0_1] 33 (0, 0)) (gK BK311.out) hb); have n1_ := aM (below_step (gB HB.out) hb); have n2_ := aM (hbox); have n3_ := aM ((by rw [hg]; exact (below_size (gB HB.out)) : w.heap.size ≤ gb314)); have n4_ := aM ((by rw [hg]; exact (below_size (gB HB.out)) : w.heap.size ≤ gb314)); have n5_ := aM ((by rw [hg]; exact Nat.ne_of_lt (blk_lt (g := gb311) (o := .cells #[.int .i64 a0_0, .slice (some ad313) l0_1.length c0_1] 33 (0, 0)) (gK BK311.out)) : gb311 ≠ gb314)); have n6_ := aM ((by rw [hg]; exact Nat.ne_of_gt (blk_lt (g := gb311) (o := .cells #[.int .i64 a0_0, .slice (some ad313) l0_1.length c0_1] 33 (0, 0)) (gK BK311.out)) : gb314 ≠ gb311)); clear BK311; clear HB; have BK311 := n0_; have HB := n1_; have BK314 := n2_; have GW314 := n3_; have GE314 := n4_; have NB311_314 := n5_; have NB314_311 := n6_; clear n0_ n1_ n2_ n3_ n4_ n5_ n6_; clear hb hbox hg; have hnb11 := NB314_311.out; have hnc11 := NB311_314.out; have hcz12_0 : w10.cell? ⟨gb314, 0, none⟩ = some (.string (⟨#[]⟩ : ByteArray)) := (blk_cell BK314.out 0).trans rfl; have hcz12_1 : w10.cell? ⟨gb314, 1, none⟩ = some (.slice none 0 0) := (blk_cell BK314.out 1).trans rfl; have hfz12_0 := blk_frozen BK314.out 0; have hfz12_1 := blk_frozen BK314.out 1))
        have n0_ : Aside0 (((w10.setCell ⟨gb314, 0, none⟩ (.string ((rd_T102 l0_1 x8_1).f0))).setCell ⟨gb314, 1, none⟩ (.slice A313_1 ((rd_T102 l0_1 x8_1).f1).length c313_1)).heap[gb311]? = some (.cells #[.int .i64 a0_0, .slice (some ad313) l0_1.length c0_1] 33 (0, 0))) := ⟨by (with_reducible repeat (first | refine blk_drewN ?_ _ | refine blk_drew ?_ | refine blk_alloc ?_ _)); refine blk_far ?_ NB311_314.out _; (with_reducible repeat (first | refine blk_drewN ?_ _ | refine blk_drew ?_ | refine blk_alloc ?_ _)); refine blk_far ?_ NB311_314.out _; (with_reducible repeat (first | refine blk_drewN ?_ _ | refine blk_drew ?_ | refine blk_alloc ?_ _)); exact BK311.out⟩
        have n1_ : Aside0 (((w10.setCell ⟨gb314, 0, none⟩ (.string ((rd_T102 l0_1 x8_1).f0))).setCell ⟨gb314, 1, none⟩ (.slice A313_1 ((rd_T102 l0_1 x8_1).f1).length c313_1)).heap[gb314]? = some (.cells #[.string ((rd_T102 l0_1 x8_1).f0), .slice A313_1 ((rd_T102 l0_1 x8_1).f1).length c313_1] 102 (0, 0))) := ⟨by (with_reducible repeat (first | refine blk_drewN ?_ _ | refine blk_drew ?_ | refine blk_alloc ?_ _)); refine blk_put (cs := #[.string ((rd_T102 l0_1 x8_1).f0), .slice none 0 0]) ?_ 1 _ rfl; (with_reducible repeat (first | refine blk_drewN ?_ _ | refine blk_drew ?_ | refine blk_alloc ?_ _)); refine blk_put (cs := #[.string (⟨#[]⟩ : ByteArray), .slice none 0 0]) ?_ 0 _ rfl; (with_reducible repeat (first | refine blk_drewN ?_ _ | refine blk_drew ?_ | refine blk_alloc ?_ _)); exact BK314.out⟩
        have n2_ : Aside0 (Below w.heap.size w ((w10.setCell ⟨gb314, 0, none⟩ (.string ((rd_T102 l0_1 x8_1).f0))).setCell ⟨gb314, 1, none⟩ (.slice A313_1 ((rd_T102 l0_1 x8_1).f1).length c313_1))) := ⟨by repeat (first | (with_reducible first | exact HB.out | apply below_alloc | apply pw_below_drewN | apply below_drew1 | refine below_set ?_ GE311.out | refine below_set ?_ GE314.out) | exact HB.out)⟩
        (try clear BK311)
        (try clear BK314)
        (try clear HB)
        generalize ((w10.setCell ⟨gb314, 0, none⟩ (.string ((rd_T102 l0_1 x8_1).f0))).setCell ⟨gb314, 1, none⟩ (.slice A313_1 ((rd_T102 l0_1 x8_1).f1).length c313_1)) = w13 at n0_ n1_ n2_ ⊢
        have BK311 := n0_
        have BK314 := n1_
        have HB := n2_
        clear n0_ n1_ n2_
        have n0_ := aM (blk_drew BK311.out)
        have n1_ := aM (blk_drew BK314.out)
        have n2_ := aM (below_drew1 HB.out)
        clear BK311
        clear BK314
        clear HB
        have BK311 := n0_
        have BK314 := n1_
        have HB := n2_
        clear n0_ n1_ n2_
        refine start_ (n := 34) (S := fun w' => w'.cell? ⟨gb314, 0, none⟩ = some (.string ((rd_T102 l0_1 x8_1).f0)) ∧ w'.cell? ⟨gb314, 1, none⟩ = some (.slice A313_1 ((rd_T102 l0_1 x8_1).f1).length c313_1)) (ds := []) (bq 34 0) (by kernel_rfl) rfl (by kernel_rfl) ⟨(blk_cell BK314.out 0).trans rfl, (blk_cell BK314.out 1).trans rfl⟩ (fun hHeld => ?_); refine with_tabW spec_GoodWords.tab4 spec_GoodWords.bits4 (fun HT_ HW_ => ?_)
        generalize w13.drew = w14 at BK311 BK314 HB hHeld ⊢
        refine pure_ (i := 0) (N := some 13) (v := ?_) (a' := ?_) (bq 34 1) rfl rfl (any_of HT_.out (by kernel_rfl)) (fun _ _ _ h => h) (Or.inl ⟨by rfl, ?_⟩) ?_ ?_; rotate_left; (intro w'; go_simp; (with_reducible rfl)); rotate_left; (simp only [Act.put, zSA, zSB, zSC, i64_w, i32_w]; rfl)
        refine take_ (i := 1) (N := some 14) (v := ?_) (a' := ?_) (bq 34 3) rfl rfl (take_ofW HT_.out HW_.out (by kernel_rfl)) (fun _ _ _ h => h) (Or.inl ⟨by rfl, ?_⟩) hHeld ?_ ?_; rotate_left; (rintro w' ⟨s0, s1⟩; go_simp; (with_reducible rfl)); rotate_left; (simp only [Act.put, zSA, zSB, zSC, i64_w, i32_w]; rfl)
        refine one_ (i := 2) (N := some 15) (bq 34 7) rfl rfl (one_of HT_.out (by kernel_rfl)) (by decide) (fun K hK => ?_)
        refine goes_ Try.func94 (by kernel_rfl) rfl #[.string ((rd_T102 l0_1 x8_1).f0)] (by rfl) rfl rfl (by (try simp only [List.map_toArray, List.map_cons, List.map_nil]); first | done | rfl | (simp only [List.length_drop, List.length_take]; rfl)) ?_
        with_reducible refine (spec_l10Word.calls k1 ((rd_T102 l0_1 x8_1).f0) true _ A7.out).mono ?_
        rintro e w15 ⟨rfl, hb⟩
        refine ⟨_, rfl, ?_⟩
        have n0_ := aM (blk_below (g := gb311) (o := .cells #[.int .i64 a0_0, .slice (some ad313) l0_1.length c0_1] 33 (0, 0)) (gK BK311.out) hb)
        have n1_ := aM (blk_below (g := gb314) (o := .cells #[.string ((rd_T102 l0_1 x8_1).f0), .slice A313_1 ((rd_T102 l0_1 x8_1).f1).length c313_1] 102 (0, 0)) (gK BK314.out) hb)
        have n2_ := aM (below_step (gB HB.out) hb)
        clear BK311
        clear BK314
        clear HB
        have BK311 := n0_
        have BK314 := n1_
        have HB := n2_
        clear n0_ n1_ n2_
        (try clear hb)
        (try clear hb2)
        (try clear hk)
        (try clear hi)
        refine hK.out _ _ ⟨(blk_cell BK314.out 0).trans rfl, (blk_cell BK314.out 1).trans rfl⟩ (fun hHeld => ?_)
        clear hK K
        refine norm_ (a' := ?_) ?_ ?_
        rotate_left
        ·
         show Act.put _ (some 15) _ = _
         simp only [Act.put, zSA, zSB, zSC, i64_w, i32_w]
         rfl
        refine pure_ (i := 3) (N := some 16) (v := ?_) (a' := ?_) (bq 34 15) rfl rfl (any_of HT_.out (by kernel_rfl)) (fun _ _ _ h => h) (Or.inl ⟨by rfl, ?_⟩) ?_ ?_; rotate_left; (intro w'; go_simp; (with_reducible rfl)); rotate_left; (simp only [Act.put, zSA, zSB, zSC, i64_w, i32_w]; rfl)
        refine pure_ (i := 4) (N := some 17) (v := ?_) (a' := ?_) (bq 34 31) rfl rfl (any_of HT_.out (by kernel_rfl)) (fun _ _ _ h => h) (Or.inl ⟨by rfl, ?_⟩) ?_ ?_; rotate_left; (intro w'; go_simp; (with_reducible rfl)); rotate_left; (simp only [Act.put, zSA, zSB, zSC, i64_w, i32_w]; rfl)
        refine pure_ (i := 5) (N := some 18) (v := ?_) (a' := ?_) (bq 34 63) rfl rfl (any_of HT_.out (by kernel_rfl)) (fun _ _ _ h => h) (Or.inl ⟨by rfl, ?_⟩) ?_ ?_; rotate_left; (intro w'; go_simp; (with_reducible rfl)); rotate_left; (simp only [Act.put, zSA, zSB, zSC, i64_w, i32_w]; rfl)
        refine take_ (i := 6) (N := some 19) (v := ?_) (a' := ?_) (bq 34 127) rfl rfl (take_ofW HT_.out HW_.out (by kernel_rfl)) (fun _ _ _ h => h) (Or.inl ⟨by rfl, ?_⟩) hHeld ?_ ?_; rotate_left; (rintro w' ⟨s0, s1⟩; go_simp; (with_reducible rfl)); rotate_left; (simp only [Act.put, zSA, zSB, zSC, i64_w, i32_w]; rfl)
        refine pure_ (i := 7) (N := some 20) (v := ?_) (a' := ?_) (bq 34 255) rfl rfl (any_of HT_.out (by kernel_rfl)) (fun _ _ _ h => h) (Or.inl ⟨by rfl, ?_⟩) ?_ ?_; rotate_left; (intro w'; go_simp; (with_reducible rfl)); rotate_left; (simp only [Act.put, zSA, zSB, zSC, i64_w, i32_w]; rfl)
        refine pure_ (i := 8) (N := some 21) (v := ?_) (a' := ?_) (bq 34 511) rfl rfl (any_of HT_.out (by kernel_rfl)) (fun _ _ _ h => h) (Or.inl ⟨by rfl, ?_⟩) ?_ ?_; rotate_left; (intro w'; go_simp; (with_reducible rfl)); rotate_left; (simp only [Act.put, zSA, zSB, zSC, i64_w, i32_w]; rfl)
        refine pure_ (i := 9) (N := some 22) (v := ?_) (a' := ?_) (bq 34 1023) rfl rfl (any_of HT_.out (by kernel_rfl)) (fun _ _ _ h => h) (Or.inl ⟨by rfl, ?_⟩) ?_ ?_; rotate_left; (intro w'; go_simp; (with_reducible rfl)); rotate_left; (simp only [Act.put, zSA, zSB, zSC, i64_w, i32_w]; rfl)
        refine pure_ (i := 10) (N := some 23) (v := ?_) (a' := ?_) (bq 34 2047) rfl rfl (any_of HT_.out (by kernel_rfl)) (fun _ _ _ h => h) (Or.inl ⟨by rfl, ?_⟩) ?_ ?_; rotate_left; (intro w'; go_simp; (with_reducible rfl)); rotate_left; (simp only [Act.put, zSA, zSB, zSC, i64_w, i32_w]; rfl)
        refine pure_ (i := 11) (N := some 24) (v := undef) (a' := ?_) (bq 34 4095) rfl rfl (any_of HT_.out (by kernel_rfl)) (fun _ _ _ h => h) (Or.inr ⟨by rfl, rfl⟩) ?_ ?_
        rotate_left
        ·
         simp only [Act.put, zSA, zSB, zSC, i64_w, i32_w]
         rfl
        refine pure_ (i := 12) (N := some 25) (v := undef) (a' := ?_) (bq 34 8191) rfl rfl (any_of HT_.out (by kernel_rfl)) (fun _ _ _ h => h) (Or.inr ⟨by rfl, rfl⟩) ?_ ?_
        rotate_left
        ·
         simp only [Act.put, zSA, zSB, zSC, i64_w, i32_w]
         rfl
        refine pure_ (i := 13) (N := some 26) (v := undef) (a' := ?_) (bq 34 16383) rfl rfl (any_of HT_.out (by kernel_rfl)) (fun _ _ _ h => h) (Or.inr ⟨by rfl, rfl⟩) ?_ ?_
        rotate_left
        ·
         simp only [Act.put, zSA, zSB, zSC, i64_w, i32_w]
         rfl
        refine pure_ (i := 14) (N := some 27) (v := undef) (a' := ?_) (bq 34 32767) rfl rfl (any_of HT_.out (by kernel_rfl)) (fun _ _ _ h => h) (Or.inr ⟨by rfl, rfl⟩) ?_ ?_
        rotate_left
        ·
         simp only [Act.put, zSA, zSB, zSC, i64_w, i32_w]
         rfl
        refine pure_ (i := 15) (N := some 28) (v := undef) (a' := ?_) (bq 34 65535) rfl rfl (any_of HT_.out (by kernel_rfl)) (fun _ _ _ h => h) (Or.inr ⟨by rfl, rfl⟩) ?_ ?_
        rotate_left
        ·
         simp only [Act.put, zSA, zSB, zSC, i64_w, i32_w]
         rfl
        refine pure_ (i := 16) (N := some 29) (v := undef) (a' := ?_) (bq 34 131071) rfl rfl (any_of HT_.out (by kernel_rfl)) (fun _ _ _ h => h) (Or.inr ⟨by rfl, rfl⟩) ?_ ?_
        rotate_left
        ·
         simp only [Act.put, zSA, zSB, zSC, i64_w, i32_w]
         rfl
        refine pure_ (i := 17) (N := some 30) (v := ?_) (a' := ?_) (bq 34 262143) rfl rfl (any_of HT_.out (by kernel_rfl)) (fun _ _ _ h => h) (Or.inl ⟨by rfl, ?_⟩) ?_ ?_; rotate_left; (intro w'; go_simp; (with_reducible rfl)); rotate_left; (simp only [Act.put, zSA, zSB, zSC, i64_w, i32_w]; rfl)
        refine pure_ (i := 18) (N := some 31) (v := ?_) (a' := ?_) (bq 34 524287) rfl rfl (any_of HT_.out (by kernel_rfl)) (fun _ _ _ h => h) (Or.inl ⟨by rfl, ?_⟩) ?_ ?_; rotate_left; (intro w'; go_simp; (with_reducible rfl)); rotate_left; (simp only [Act.put, zSA, zSB, zSC, i64_w, i32_w]; rfl)
        refine pure_ (i := 19) (N := some 32) (v := undef) (a' := ?_) (bq 34 1048575) rfl rfl (any_of HT_.out (by kernel_rfl)) (fun _ _ _ h => h) (Or.inr ⟨by rfl, rfl⟩) ?_ ?_
        rotate_left
        ·
         simp only [Act.put, zSA, zSB, zSC, i64_w, i32_w]
         rfl
        refine pure_ (i := 20) (N := some 33) (v := undef) (a' := ?_) (bq 34 2097151) rfl rfl (any_of HT_.out (by kernel_rfl)) (fun _ _ _ h => h) (Or.inr ⟨by rfl, rfl⟩) ?_ ?_
        rotate_left
        ·
         simp only [Act.put, zSA, zSB, zSC, i64_w, i32_w]
         rfl
        refine pure_ (i := 21) (N := some 34) (v := undef) (a' := ?_) (bq 34 4194303) rfl rfl (any_of HT_.out (by kernel_rfl)) (fun _ _ _ h => h) (Or.inr ⟨by rfl, rfl⟩) ?_ ?_
        rotate_left
        ·
         simp only [Act.put, zSA, zSB, zSC, i64_w, i32_w]
         rfl
        refine pure_ (i := 22) (N := some 35) (v := undef) (a' := ?_) (bq 34 8388607) rfl rfl (any_of HT_.out (by kernel_rfl)) (fun _ _ _ h => h) (Or.inr ⟨by rfl, rfl⟩) ?_ ?_
        rotate_left
        ·
         simp only [Act.put, zSA, zSB, zSC, i64_w, i32_w]
         rfl
        refine pure_ (i := 23) (N := some 36) (v := undef) (a' := ?_) (bq 34 16777215) rfl rfl (any_of HT_.out (by kernel_rfl)) (fun _ _ _ h => h) (Or.inr ⟨by rfl, rfl⟩) ?_ ?_
        rotate_left
        ·
         simp only [Act.put, zSA, zSB, zSC, i64_w, i32_w]
         rfl
        refine pure_ (i := 24) (N := some 37) (v := undef) (a' := ?_) (bq 34 33554431) rfl rfl (any_of HT_.out (by kernel_rfl)) (fun _ _ _ h => h) (Or.inr ⟨by rfl, rfl⟩) ?_ ?_
        rotate_left
        ·
         simp only [Act.put, zSA, zSB, zSC, i64_w, i32_w]
         rfl
        refine pure_ (i := 25) (N := some 38) (v := undef) (a' := ?_) (bq 34 67108863) rfl rfl (any_of HT_.out (by kernel_rfl)) (fun _ _ _ h => h) (Or.inr ⟨by rfl, rfl⟩) ?_ ?_
        rotate_left
        ·
         simp only [Act.put, zSA, zSB, zSC, i64_w, i32_w]
         rfl
        refine pure_ (i := 26) (N := some 39) (v := undef) (a' := ?_) (bq 34 134217727) rfl rfl (any_of HT_.out (by kernel_rfl)) (fun _ _ _ h => h) (Or.inr ⟨by rfl, rfl⟩) ?_ ?_
        rotate_left
        ·
         simp only [Act.put, zSA, zSB, zSC, i64_w, i32_w]
         rfl
        refine pure_ (i := 27) (N := some 40) (v := undef) (a' := ?_) (bq 34 268435455) rfl rfl (any_of HT_.out (by kernel_rfl)) (fun _ _ _ h => h) (Or.inr ⟨by rfl, rfl⟩) ?_ ?_
        rotate_left
        ·
         simp only [Act.put, zSA, zSB, zSC, i64_w, i32_w]
         rfl
        refine pure_ (i := 28) (N := some 41) (v := undef) (a' := ?_) (bq 34 536870911) rfl rfl (any_of HT_.out (by kernel_rfl)) (fun _ _ _ h => h) (Or.inr ⟨by rfl, rfl⟩) ?_ ?_
        rotate_left
        ·
         simp only [Act.put, zSA, zSB, zSC, i64_w, i32_w]
         rfl
        refine pure_ (i := 29) (N := some 42) (v := undef) (a' := ?_) (bq 34 1073741823) rfl rfl (any_of HT_.out (by kernel_rfl)) (fun _ _ _ h => h) (Or.inr ⟨by rfl, rfl⟩) ?_ ?_
        rotate_left
        ·
         simp only [Act.put, zSA, zSB, zSC, i64_w, i32_w]
         rfl
        refine pure_ (i := 30) (N := some 43) (v := undef) (a' := ?_) (bq 34 2147483647) rfl rfl (any_of HT_.out (by kernel_rfl)) (fun _ _ _ h => h) (Or.inr ⟨by rfl, rfl⟩) ?_ ?_
        rotate_left
        ·
         simp only [Act.put, zSA, zSB, zSC, i64_w, i32_w]
         rfl
        refine pure_ (i := 31) (N := some 44) (v := undef) (a' := ?_) (bq 34 4294967295) rfl rfl (any_of HT_.out (by kernel_rfl)) (fun _ _ _ h => h) (Or.inr ⟨by rfl, rfl⟩) ?_ ?_
        rotate_left
        ·
         simp only [Act.put, zSA, zSB, zSC, i64_w, i32_w]
         rfl
        refine pure_ (i := 32) (N := some 45) (v := undef) (a' := ?_) (bq 34 8589934591) rfl rfl (any_of HT_.out (by kernel_rfl)) (fun _ _ _ h => h) (Or.inr ⟨by rfl, rfl⟩) ?_ ?_
        rotate_left
        ·
         simp only [Act.put, zSA, zSB, zSC, i64_w, i32_w]
         rfl
        refine pure_ (i := 33) (N := some 46) (v := ?_) (a' := ?_) (bq 34 17179869183) rfl rfl (any_of HT_.out (by kernel_rfl)) (fun _ _ _ h => h) (Or.inl ⟨by rfl, ?_⟩) ?_ ?_; rotate_left; (intro w'; go_simp; (with_reducible rfl)); rotate_left; (simp only [Act.put, zSA, zSB, zSC, i64_w, i32_w]; rfl)
        refine done_ (done_of HT_.out (by kernel_rfl)) ?_
        try go_wp2
        go_ret
        exact ⟨by first | rfl | (simp [errW_none, errW_some] <;> rfl) | (simp [*, errW_none, errW_some] <;> rfl), by repeat (first | (with_reducible first | exact HB.out | apply below_alloc | apply pw_below_drewN | apply below_drew1 | refine below_set ?_ GE311.out | refine below_set ?_ GE314.out) | exact HB.out)⟩
       ·
        rw [if_neg c9] at H
        have c9b0 : ((((rd_T102 l0_1 x8_1).f1).length : Int) == 0) = false := beq_eq_false_iff_ne.mpr c9
        have c9b1 : ((((rd_T102 l0_1 x8_1).f1).length : Int) != 0) = true := bne_iff_ne.mpr c9
        have c9b2 : ¬ (((rd_T102 l0_1 x8_1).f1) = []) := fun h_ => c9 (by rw [h_]; rfl)
        replace H := Option.bind_eq_some_iff.mp H
        obtain ⟨t316, A160, H⟩ := H
        replace H : (if t316 = true then (if x8_1 > 0 then (if 0 ≤ (wrap64 (x8_1 - 1)) then (if (wrap64 (x8_1 - 1)) < (l0_1.length : Int) then (if ((Op.bytesLess (((rd_T102 l0_1 (wrap64 (x8_1 - 1))).f0).toList) (((rd_T102 l0_1 x8_1).f0).toList)) = true) then (spec_GoodWords.l0 k1 l0_1 (l0_1.length : Int) (wrap64 (x8_1 + 1)) a0_0 l0_1) else (some false)) else (none)) else (none)) else (spec_GoodWords.l0 k1 l0_1 (l0_1.length : Int) (wrap64 (x8_1 + 1)) a0_0 l0_1)) else (some false)) = some r := H
        have A16 := aM A160
        clear A160
        by_cases c17 : t316 = true
        ·
         subst c17
         have H1 : (if x8_1 > 0 then (if 0 ≤ (wrap64 (x8_1 - 1)) then (if (wrap64 (x8_1 - 1)) < (l0_1.length : Int) then (if ((Op.bytesLess (((rd_T102 l0_1 (wrap64 (x8_1 - 1))).f0).toList) (((rd_T102 l0_1 x8_1).f0).toList)) = true) then (spec_GoodWords.l0 k1 l0_1 (l0_1.length : Int) (wrap64 (x8_1 + 1)) a0_0 l0_1) else (some false)) else (none)) else (none)) else (spec_GoodWords.l0 k1 l0_1 (l0_1.length : Int) (wrap64 (x8_1 + 1)) a0_0 l0_1)) = some r := by rw [if_pos rfl] at H; exact H
         clear H
         have H := H1
         clear H1
         by_cases c18 : x8_1 > 0
         ·
          rw [if_pos c18] at H
          have c18b0 : decide (0 < x8_1) = true := decide_eq_true c18
          clear c18
          obtain ⟨ji19, hji19⟩ : ∃ j_ : Int, (wrap64 (x8_1 - 1)) = j_ := ⟨_, rfl⟩
          replace H : (if 0 ≤ (ji19) then (if (ji19) < (l0_1.length : Int) then (if ((Op.bytesLess (((rd_T102 l0_1 (ji19)).f0).toList) (((rd_T102 l0_1 x8_1).f0).toList)) = true) then (spec_GoodWords.l0 k1 l0_1 (l0_1.length : Int) (wrap64 (x8_1 + 1)) a0_0 l0_1) else (some false)) else (none)) else (none)) = some r := by first | (rw [hji19] at H; exact H) | (simp only [hji19] at H ⊢; exact H)
          (try rw [hji19] at A7)
          (try rw [hji19] at A16)
          have hji19w : (IntKind.i64.wrap (x8_1 - 1)) = ji19 := (i64_w _).trans hji19
          by_cases c20 : 0 ≤ (ji19)
          ·
           rw [if_pos c20] at H
           have c20b0 : decide (0 ≤ (ji19)) = true := decide_eq_true c20
           clear c20
           by_cases c21 : (ji19) < (l0_1.length : Int)
           ·
            rw [if_pos c21] at H
            have c21b0 : decide ((ji19) < (l0_1.length : Int)) = true := decide_eq_true c21
            clear c21
            by_cases c22 : ((Op.bytesLess (((rd_T102 l0_1 (ji19)).f0).toList) (((rd_T102 l0_1 x8_1).f0).toList)) = true)
            ·
             rw [if_pos c22] at H
             have c22b0 : (Op.bytesLess (((rd_T102 l0_1 (ji19)).f0).toList) (((rd_T102 l0_1 x8_1).f0).toList)) = true := c22
             clear c22
             have H' := aM H
             clear H
             have p313 : 0 ≤ (x8_1 : Int) := of_decide_eq_true (by first | (with_reducible assumption) | assumption)
             have q313 : x8_1 < (l0_1.length : Int) := of_decide_eq_true (by first | (with_reducible assumption) | assumption)
             obtain ⟨ad313, A313_1, c313_1, e313, hx313_0, hx313_1, hl313_1, hi313_1⟩ := at_T102 HR0_1.out x8_1 p313 q313
             cases e313
             try have hz_hx313_0 := aM hx313_0
             try have hz_hx313_1 := aM hx313_1
             replace hx313_0 := (HB.out.cell (World.block_lt_of_cell? w _ hx313_0)).trans hx313_0
             replace hx313_1 := (HB.out.cell (World.block_lt_of_cell? w _ hx313_1)).trans hx313_1
             have HR313_1 := aM hi313_1
             have HC313_1 := aM hl313_1
             clear hi313_1 hl313_1
             replace p313 := eq_true p313
             replace q313 := eq_true q313
             try go_wp2_with (((with_reducible refine gate_dst (N := 4) rfl ?_); (try (refine gate_guard (by rfl) ?_; dsimp only)); refine box_event ?hg (N := 4) ?hd (cs := #[.string (⟨#[]⟩ : ByteArray), .slice none 0 0]) (t := 102) ?hr ?_; (case hd => rfl); (case hg => rfl); (case hr => first | (go_simp; done) | (go_simp; rfl)); intro gb314 hg w23 hbox hb; have n0_ := aM (blk_below (g := gb311) (o := .cells #[.int .i64 a0_0, .slice (some ad313) l0_1.length c0_1] 33 (0, 0)) (gK BK311.out) hb); have n1_ := aM (below_step (gB HB.out) hb); have n2_ := aM (hbox); have n3_ := aM ((by rw [hg]; exact (below_size (gB HB.out)) : w.heap.size ≤ gb314)); have n4_ := aM ((by rw [hg]; exact (below_size (gB HB.out)) : w.heap.size ≤ gb314)); have n5_ := aM ((by rw [hg]; exact Nat.ne_of_lt (blk_lt (g := gb311) (o := .cells #[.int .i64 a0_0, .slice (some ad313) l0_1.length c0_1] 33 (0, 0)) (gK BK311.out)) : gb311 ≠ gb314)); have n6_ := aM ((by rw [hg]; exact Nat.ne_of_gt (blk_lt (g := gb311) (o := .cells #[.int .i64 a0_0, .slice (some ad313) l0_1.length c0_1] 33 (0, 0)) (gK BK311.out)) : gb314 ≠ gb311)); clear BK311; clear HB; have BK311 := n0_; have HB := n1_; have BK314 := n2_; have GW314 := n3_; have GE314 := n4_; have NB311_314 := n5_; have NB314_311 := n6_; clear n0_ n1_ n2_ n3_ n4_ n5_ n6_; clear hb hbox hg; have hnb24 := NB314_311.out; have hnc24 := NB311_314.out; have hcz25_0 : w23.cell? ⟨gb314, 0, none⟩ = some (.string (⟨#[]⟩ : ByteArray)) := (blk_cell BK314.out 0).trans rfl; have hcz25_1 : w23.cell? ⟨gb314, 1, none⟩ = some (.slice none 0 0) := (blk_cell BK314.out 1).trans rfl; have hfz25_0 := blk_frozen BK314.out 0; have hfz25_1 := blk_frozen BK314.out 1))
             have n0_ : Aside0 (((w23.setCell ⟨gb314, 0, none⟩ (.string ((rd_T102 l0_1 x8_1).f0))).setCell ⟨gb314, 1, none⟩ (.slice A313_1 ((rd_T102 l0_1 x8_1).f1).length c313_1)).heap[gb311]? = some (.cells #[.int .i64 a0_0, .slice (some ad313) l0_1.length c0_1] 33 (0, 0))) := ⟨by (with_reducible repeat (first | refine blk_drewN ?_ _ | refine blk_drew ?_ | refine blk_alloc ?_ _)); refine blk_far ?_ NB311_314.out _; (with_reducible repeat (first | refine blk_drewN ?_ _ | refine blk_drew ?_ | refine blk_alloc ?_ _)); refine blk_far ?_ NB311_314.out _; (with_reducible repeat (first | refine blk_drewN ?_ _ | refine blk_drew ?_ | refine blk_alloc ?_ _)); exact BK311.out⟩
             have n1_ : Aside0 (((w23.setCell ⟨gb314, 0, none⟩ (.string ((rd_T102 l0_1 x8_1).f0))).setCell ⟨gb314, 1, none⟩ (.slice A313_1 ((rd_T102 l0_1 x8_1).f1).length c313_1)).heap[gb314]? = some (.cells #[.string ((rd_T102 l0_1 x8_1).f0), .slice A313_1 ((rd_T102 l0_1 x8_1).f1).length c313_1] 102 (0, 0))) := ⟨by (with_reducible repeat (first | refine blk_drewN ?_ _ | refine blk_drew ?_ | refine blk_alloc ?_ _)); refine blk_put (cs := #[.string ((rd_T102 l0_1 x8_1).f0), .slice none 0 0]) ?_ 1 _ rfl; (with_reducible repeat (first | refine blk_drewN ?_ _ | refine blk_drew ?_ | refine blk_alloc ?_ _)); refine blk_put (cs := #[.string (⟨#[]⟩ : ByteArray), .slice none 0 0]) ?_ 0 _ rfl; (with_reducible repeat (first | refine blk_drewN ?_ _ | refine blk_drew ?_ | refine blk_alloc ?_ _)); exact BK314.out⟩
             have n2_ : Aside0 (Below w.heap.size w ((w23.setCell ⟨gb314, 0, none⟩ (.string ((rd_T102 l0_1 x8_1).f0))).setCell ⟨gb314, 1, none⟩ (.slice A313_1 ((rd_T102 l0_1 x8_1).f1).length c313_1))) := ⟨by repeat (first | (with_reducible first | exact HB.out | apply below_alloc | apply pw_below_drewN | apply below_drew1 | refine below_set ?_ GE311.out | refine below_set ?_ GE314.out) | exact HB.out)⟩
             (try clear BK311)
             (try clear BK314)
             (try clear HB)
             generalize ((w23.setCell ⟨gb314, 0, none⟩ (.string ((rd_T102 l0_1 x8_1).f0))).setCell ⟨gb314, 1, none⟩ (.slice A313_1 ((rd_T102 l0_1 x8_1).f1).length c313_1)) = w26 at n0_ n1_ n2_ ⊢
             have BK311 := n0_
             have BK314 := n1_
             have HB := n2_
             clear n0_ n1_ n2_
             have n0_ := aM (blk_drew BK311.out)
             have n1_ := aM (blk_drew BK314.out)
             have n2_ := aM (below_drew1 HB.out)
             clear BK311
             clear BK314
             clear HB
             have BK311 := n0_
             have BK314 := n1_
             have HB := n2_
             clear n0_ n1_ n2_
             have p317 : 0 ≤ ((ji19) : Int) := of_decide_eq_true (by first | (with_reducible assumption) | assumption)
             have q317 : (ji19) < (l0_1.length : Int) := of_decide_eq_true (by first | (with_reducible assumption) | assumption)
             obtain ⟨ad317, A317_1, c317_1, e317, hx317_0, hx317_1, hl317_1, hi317_1⟩ := at_T102 HR0_1.out (ji19) p317 q317
             have hw317_1 := hx317_1
             have hw317_0 := hx317_0
             obtain rfl : ad313 = ad317 := (by injection e317)
             try have hz_hx317_0 := aM hx317_0
             try have hz_hx317_1 := aM hx317_1
             replace hx317_0 := (HB.out.cell (World.block_lt_of_cell? w _ hx317_0)).trans hx317_0
             replace hx317_1 := (HB.out.cell (World.block_lt_of_cell? w _ hx317_1)).trans hx317_1
             have HR317_1 := aM hi317_1
             have HC317_1 := aM hl317_1
             clear hi317_1 hl317_1
             replace p317 := eq_true p317
             replace q317 := eq_true q317
             refine start_ (n := 34) (S := fun w' => w'.cell? ⟨gb314, 0, none⟩ = some (.string ((rd_T102 l0_1 x8_1).f0)) ∧ w'.cell? ⟨gb314, 1, none⟩ = some (.slice A313_1 ((rd_T102 l0_1 x8_1).f1).length c313_1) ∧ w'.cell? ⟨gb311, 0, none⟩ = some (.int .i64 a0_0) ∧ w'.cell? ⟨gb311, 1, none⟩ = some (.slice (some ad313) l0_1.length c0_1) ∧ w'.cell? (ad313.add (((ji19)).toNat * 2)) = some (.string ((rd_T102 l0_1 (ji19)).f0)) ∧ w'.cell? ⟨(ad313.add (((ji19)).toNat * 2)).block, (ad313.add (((ji19)).toNat * 2)).off + 1, none⟩ = some (.slice A317_1 ((rd_T102 l0_1 (ji19)).f1).length c317_1)) (ds := []) (bq 34 0) (by kernel_rfl) rfl (by kernel_rfl) ⟨(blk_cell BK314.out 0).trans rfl, (blk_cell BK314.out 1).trans rfl, (blk_cell BK311.out 0).trans rfl, (blk_cell BK311.out 1).trans rfl, ((HB.out.cell (World.block_lt_of_cell? w _ hw317_0)).trans hw317_0), ((HB.out.cell (World.block_lt_of_cell? w _ hw317_1)).trans hw317_1)⟩ (fun hHeld => ?_); refine with_tabW spec_GoodWords.tab4 spec_GoodWords.bits4 (fun HT_ HW_ => ?_)
             generalize w26.drew = w27 at BK311 BK314 HB HR317_1 hx317_0 hx317_1 hHeld ⊢
             refine pure_ (i := 0) (N := some 13) (v := ?_) (a' := ?_) (bq 34 1) rfl rfl (any_of HT_.out (by kernel_rfl)) (fun _ _ _ h => h) (Or.inl ⟨by rfl, ?_⟩) ?_ ?_; rotate_left; (intro w'; go_simp; (with_reducible rfl)); rotate_left; (simp only [Act.put, zSA, zSB, zSC, i64_w, i32_w]; rfl)
             refine take_ (i := 1) (N := some 14) (v := ?_) (a' := ?_) (bq 34 3) rfl rfl (take_ofW HT_.out HW_.out (by kernel_rfl)) (fun _ _ _ h => h) (Or.inl ⟨by rfl, ?_⟩) hHeld ?_ ?_; rotate_left; (rintro w' ⟨s0, s1, s2, s3, s4, s5⟩; go_simp; (with_reducible rfl)); rotate_left; (simp only [Act.put, zSA, zSB, zSC, i64_w, i32_w]; rfl)
             refine one_ (i := 2) (N := some 15) (bq 34 7) rfl rfl (one_of HT_.out (by kernel_rfl)) (by decide) (fun K hK => ?_)
             refine goes_ Try.func94 (by kernel_rfl) rfl #[.string ((rd_T102 l0_1 x8_1).f0)] (by rfl) rfl rfl (by (try simp only [List.map_toArray, List.map_cons, List.map_nil]); first | done | rfl | (simp only [List.length_drop, List.length_take]; rfl)) ?_
             with_reducible refine (spec_l10Word.calls k1 ((rd_T102 l0_1 x8_1).f0) true _ A7.out).mono ?_
             rintro e w28 ⟨rfl, hb⟩
             refine ⟨_, rfl, ?_⟩
             have n0_ := aM (blk_below (g := gb311) (o := .cells #[.int .i64 a0_0, .slice (some ad313) l0_1.length c0_1] 33 (0, 0)) (gK BK311.out) hb)
             have n1_ := aM (blk_below (g := gb314) (o := .cells #[.string ((rd_T102 l0_1 x8_1).f0), .slice A313_1 ((rd_T102 l0_1 x8_1).f1).length c313_1] 102 (0, 0)) (gK BK314.out) hb)
             have n2_ := aM (below_step (gB HB.out) hb)
             clear BK311
             clear BK314
             clear HB
             have BK311 := n0_
             have BK314 := n1_
             have HB := n2_
             clear n0_ n1_ n2_
             (try clear hb)
             (try clear hb2)
             (try clear hk)
             (try clear hi)
             refine hK.out _ _ ⟨(blk_cell BK314.out 0).trans rfl, (blk_cell BK314.out 1).trans rfl, (blk_cell BK311.out 0).trans rfl, (blk_cell BK311.out 1).trans rfl, ((HB.out.cell (World.block_lt_of_cell? w _ hw317_0)).trans hw317_0), ((HB.out.cell (World.block_lt_of_cell? w _ hw317_1)).trans hw317_1)⟩ (fun hHeld => ?_)
             clear hK K
             refine norm_ (a' := ?_) ?_ ?_
             rotate_left
             ·
              show Act.put _ (some 15) _ = _
              simp only [Act.put, zSA, zSB, zSC, i64_w, i32_w]
              rfl
             refine pure_ (i := 3) (N := some 16) (v := ?_) (a' := ?_) (bq 34 15) rfl rfl (any_of HT_.out (by kernel_rfl)) (fun _ _ _ h => h) (Or.inl ⟨by rfl, ?_⟩) ?_ ?_; rotate_left; (intro w'; go_simp; (with_reducible rfl)); rotate_left; (simp only [Act.put, zSA, zSB, zSC, i64_w, i32_w]; rfl)
             refine pure_ (i := 4) (N := some 17) (v := ?_) (a' := ?_) (bq 34 31) rfl rfl (any_of HT_.out (by kernel_rfl)) (fun _ _ _ h => h) (Or.inl ⟨by rfl, ?_⟩) ?_ ?_; rotate_left; (intro w'; go_simp; (with_reducible rfl)); rotate_left; (simp only [Act.put, zSA, zSB, zSC, i64_w, i32_w]; rfl)
             refine pure_ (i := 5) (N := some 18) (v := ?_) (a' := ?_) (bq 34 63) rfl rfl (any_of HT_.out (by kernel_rfl)) (fun _ _ _ h => h) (Or.inl ⟨by rfl, ?_⟩) ?_ ?_; rotate_left; (intro w'; go_simp; (with_reducible rfl)); rotate_left; (simp only [Act.put, zSA, zSB, zSC, i64_w, i32_w]; rfl)
             refine take_ (i := 6) (N := some 19) (v := ?_) (a' := ?_) (bq 34 127) rfl rfl (take_ofW HT_.out HW_.out (by kernel_rfl)) (fun _ _ _ h => h) (Or.inl ⟨by rfl, ?_⟩) hHeld ?_ ?_; rotate_left; (rintro w' ⟨s0, s1, s2, s3, s4, s5⟩; go_simp; (with_reducible rfl)); rotate_left; (simp only [Act.put, zSA, zSB, zSC, i64_w, i32_w]; rfl)
             refine pure_ (i := 7) (N := some 20) (v := ?_) (a' := ?_) (bq 34 255) rfl rfl (any_of HT_.out (by kernel_rfl)) (fun _ _ _ h => h) (Or.inl ⟨by rfl, ?_⟩) ?_ ?_; rotate_left; (intro w'; go_simp; (with_reducible rfl)); rotate_left; (simp only [Act.put, zSA, zSB, zSC, i64_w, i32_w]; rfl)
             refine pure_ (i := 8) (N := some 21) (v := ?_) (a' := ?_) (bq 34 511) rfl rfl (any_of HT_.out (by kernel_rfl)) (fun _ _ _ h => h) (Or.inl ⟨by rfl, ?_⟩) ?_ ?_; rotate_left; (intro w'; go_simp; (with_reducible rfl)); rotate_left; (simp only [Act.put, zSA, zSB, zSC, i64_w, i32_w]; rfl)
             refine pure_ (i := 9) (N := some 22) (v := ?_) (a' := ?_) (bq 34 1023) rfl rfl (any_of HT_.out (by kernel_rfl)) (fun _ _ _ h => h) (Or.inl ⟨by rfl, ?_⟩) ?_ ?_; rotate_left; (intro w'; go_simp; (with_reducible rfl)); rotate_left; (simp only [Act.put, zSA, zSB, zSC, i64_w, i32_w]; rfl)
             refine pure_ (i := 10) (N := some 23) (v := ?_) (a' := ?_) (bq 34 2047) rfl rfl (any_of HT_.out (by kernel_rfl)) (fun _ _ _ h => h) (Or.inl ⟨by rfl, ?_⟩) ?_ ?_; rotate_left; (intro w'; go_simp; (with_reducible rfl)); rotate_left; (simp only [Act.put, zSA, zSB, zSC, i64_w, i32_w]; rfl)
             refine pure_ (i := 11) (N := some 24) (v := ?_) (a' := ?_) (bq 34 4095) rfl rfl (any_of HT_.out (by kernel_rfl)) (fun _ _ _ h => h) (Or.inl ⟨by rfl, ?_⟩) ?_ ?_; rotate_left; (intro w'; go_simp; (with_reducible rfl)); rotate_left; (simp only [Act.put, zSA, zSB, zSC, i64_w, i32_w]; rfl)
             refine pure_ (i := 13) (N := some 26) (v := ?_) (a' := ?_) (bq 34 12287) rfl rfl (any_of HT_.out (by kernel_rfl)) (fun _ _ _ h => h) (Or.inl ⟨by rfl, ?_⟩) ?_ ?_; rotate_left; (intro w'; go_simp; (with_reducible rfl)); rotate_left; (simp only [Act.put, zSA, zSB, zSC, i64_w, i32_w]; rfl)
             refine take_ (i := 12) (N := some 25) (v := ?_) (a' := ?_) (bq 34 16383) rfl rfl (take_ofW HT_.out HW_.out (by kernel_rfl)) (fun _ _ _ h => h) (Or.inl ⟨by rfl, ?_⟩) hHeld ?_ ?_; rotate_left; (rintro w' ⟨s0, s1, s2, s3, s4, s5⟩; go_simp; (with_reducible rfl)); rotate_left; (simp only [Act.put, zSA, zSB, zSC, i64_w, i32_w]; rfl)
             refine take_ (i := 14) (N := some 27) (v := ?_) (a' := ?_) (bq 34 32767) rfl rfl (take_ofW HT_.out HW_.out (by kernel_rfl)) (fun _ _ _ h => h) (Or.inl ⟨by rfl, ?_⟩) hHeld ?_ ?_; rotate_left; (rintro w' ⟨s0, s1, s2, s3, s4, s5⟩; go_simp; (with_reducible rfl)); rotate_left; (simp only [Act.put, zSA, zSB, zSC, i64_w, i32_w]; rfl)
             refine one_ (i := 15) (N := some 28) (bq 34 65535) rfl rfl (one_of HT_.out (by kernel_rfl)) (by decide) (fun K hK => ?_)
             refine goes_ Try.func95 (by kernel_rfl) rfl #[.slice A313_1 ((rd_T102 l0_1 x8_1).f1).length c313_1, .int .i64 a0_0] (by rfl) rfl rfl (by (try simp only [List.map_toArray, List.map_cons, List.map_nil]); first | done | rfl | (simp only [List.length_drop, List.length_take]; rfl)) ?_
             with_reducible refine (spec_l10List.calls k1 _ _ ((rd_T102 l0_1 x8_1).f1) a0_0 true _ ?side1 ?side2 A16.out).mono ?_
             (case side1 => repeat (first | exact (Kd.C_below HR313_1.out HB.out) | (with_reducible refine Kd.C_alloc ?_ _) | (with_reducible refine Kd.C_drewN ?_ _) | (with_reducible refine Kd.C_drew ?_)))
             (case side2 => exact HC313_1.out)
             rintro e w29 ⟨rfl, hb⟩
             refine ⟨_, rfl, ?_⟩
             have n0_ := aM (blk_below (g := gb311) (o := .cells #[.int .i64 a0_0, .slice (some ad313) l0_1.length c0_1] 33 (0, 0)) (gK BK311.out) hb)
             have n1_ := aM (blk_below (g := gb314) (o := .cells #[.string ((rd_T102 l0_1 x8_1).f0), .slice A313_1 ((rd_T102 l0_1 x8_1).f1).length c313_1] 102 (0, 0)) (gK BK314.out) hb)
             have n2_ := aM (below_step (gB HB.out) hb)
             clear BK311
             clear BK314
             clear HB
             have BK311 := n0_
             have BK314 := n1_
             have HB := n2_
             clear n0_ n1_ n2_
             (try clear hb)
             (try clear hb2)
             (try clear hk)
             (try clear hi)
             refine hK.out _ _ ⟨(blk_cell BK314.out 0).trans rfl, (blk_cell BK314.out 1).trans rfl, (blk_cell BK311.out 0).trans rfl, (blk_cell BK311.out 1).trans rfl, ((HB.out.cell (World.block_lt_of_cell? w _ hw317_0)).trans hw317_0), ((HB.out.cell (World.block_lt_of_cell? w _ hw317_1)).trans hw317_1)⟩ (fun hHeld => ?_)
             clear hK K
             refine norm_ (a' := ?_) ?_ ?_
             rotate_left
             ·
              show Act.put _ (some 28) _ = _
              simp only [Act.put, zSA, zSB, zSC, i64_w, i32_w]
              rfl
             refine pure_ (i := 16) (N := some 29) (v := ?_) (a' := ?_) (bq 34 131071) rfl rfl (any_of HT_.out (by kernel_rfl)) (fun _ _ _ h => h) (Or.inl ⟨by rfl, ?_⟩) ?_ ?_; rotate_left; (intro w'; go_simp; (with_reducible rfl)); rotate_left; (simp only [Act.put, zSA, zSB, zSC, i64_w, i32_w]; rfl)
             refine pure_ (i := 17) (N := some 30) (v := ?_) (a' := ?_) (bq 34 262143) rfl rfl (any_of HT_.out (by kernel_rfl)) (fun _ _ _ h => h) (Or.inl ⟨by rfl, ?_⟩) ?_ ?_; rotate_left; (intro w'; go_simp; (with_reducible rfl)); rotate_left; (simp only [Act.put, zSA, zSB, zSC, i64_w, i32_w]; rfl)
             refine pure_ (i := 18) (N := some 31) (v := ?_) (a' := ?_) (bq 34 524287) rfl rfl (any_of HT_.out (by kernel_rfl)) (fun _ _ _ h => h) (Or.inl ⟨by rfl, ?_⟩) ?_ ?_; rotate_left; (intro w'; go_simp; (with_reducible rfl)); rotate_left; (simp only [Act.put, zSA, zSB, zSC, i64_w, i32_w]; rfl)
             refine pure_ (i := 19) (N := some 32) (v := ?_) (a' := ?_) (bq 34 1048575) rfl rfl (any_of HT_.out (by kernel_rfl)) (fun _ _ _ h => h) (Or.inl ⟨by rfl, ?_⟩) ?_ ?_; rotate_left; (intro w'; go_simp; (with_reducible rfl)); rotate_left; (simp only [Act.put, zSA, zSB, zSC, i64_w, i32_w]; rfl)
             refine pure_ (i := 20) (N := some 33) (v := ?_) (a' := ?_) (bq 34 2097151) rfl rfl (any_of HT_.out (by kernel_rfl)) (fun _ _ _ h => h) (Or.inl ⟨by rfl, ?_⟩) ?_ ?_; rotate_left; (intro w'; go_simp; (with_reducible rfl)); rotate_left; (simp only [Act.put, zSA, zSB, zSC, i64_w, i32_w]; rfl)
             refine pure_ (i := 21) (N := some 34) (v := ?_) (a' := ?_) (bq 34 4194303) rfl rfl (any_of HT_.out (by kernel_rfl)) (fun _ _ _ h => h) (Or.inl ⟨by rfl, ?_⟩) ?_ ?_; rotate_left; (intro w'; go_simp; (with_reducible rfl)); rotate_left; (simp only [Act.put, zSA, zSB, zSC, i64_w, i32_w]; rfl)
             refine pure_ (i := 22) (N := some 35) (v := ?_) (a' := ?_) (bq 34 8388607) rfl rfl (any_of HT_.out (by kernel_rfl)) (fun _ _ _ h => h) (Or.inl ⟨by rfl, ?_⟩) ?_ ?_; rotate_left; (intro w'; go_simp; (with_reducible rfl)); rotate_left; (simp only [Act.put, zSA, zSB, zSC, i64_w, i32_w]; rfl)
             refine pure_ (i := 24) (N := some 37) (v := ?_) (a' := ?_) (bq 34 25165823) rfl rfl (any_of HT_.out (by kernel_rfl)) (fun _ _ _ h => h) (Or.inl ⟨by rfl, ?_⟩) ?_ ?_; rotate_left; (intro w'; go_simp; (with_reducible rfl)); rotate_left; (simp only [Act.put, zSA, zSB, zSC, i64_w, i32_w]; rfl)
             refine pure_ (i := 25) (N := some 38) (v := ?_) (a' := ?_) (bq 34 58720255) rfl rfl (any_of HT_.out (by kernel_rfl)) (fun _ _ _ h => h) (Or.inl ⟨by rfl, ?_⟩) ?_ ?_; rotate_left; (intro w'; go_simp; (with_reducible rfl)); rotate_left; (simp only [Act.put, zSA, zSB, zSC, i64_w, i32_w]; rfl)
             refine pure_ (i := 29) (N := some 42) (v := ?_) (a' := ?_) (bq 34 595591167) rfl rfl (any_of HT_.out (by kernel_rfl)) (fun _ _ _ h => h) (Or.inl ⟨by rfl, ?_⟩) ?_ ?_; rotate_left; (intro w'; go_simp; (with_reducible rfl)); rotate_left; (simp only [Act.put, zSA, zSB, zSC, i64_w, i32_w]; rfl)
             refine take_ (i := 23) (N := some 36) (v := ?_) (a' := ?_) (bq 34 603979775) rfl rfl (take_ofW HT_.out HW_.out (by kernel_rfl)) (fun _ _ _ h => h) (Or.inl ⟨by rfl, ?_⟩) hHeld ?_ ?_; rotate_left; (rintro w' ⟨s0, s1, s2, s3, s4, s5⟩; go_simp; (with_reducible rfl)); rotate_left; (simp only [Act.put, zSA, zSB, zSC, i64_w, i32_w]; rfl)
             refine pure_ (i := 26) (N := some 39) (v := ?_) (a' := ?_) (bq 34 671088639) rfl rfl (any_of HT_.out (by kernel_rfl)) (fun _ _ _ h => h) (Or.inl ⟨by rfl, ?_⟩) ?_ ?_; rotate_left; (intro w'; go_simp; (with_reducible rfl)); rotate_left; (simp only [Act.put, zSA, zSB, zSC, i64_w, i32_w]; rfl)
             refine pure_ (i := 27) (N := some 40) (v := ?_) (a' := ?_) (bq 34 805306367) rfl rfl (any_of HT_.out (by kernel_rfl)) (fun _ _ _ h => h) (Or.inl ⟨by rfl, ?_⟩) ?_ ?_; rotate_left; (intro w'; go_simp; (with_reducible rfl)); rotate_left; (simp only [Act.put, zSA, zSB, zSC, i64_w, i32_w]; rfl)
             refine take_ (i := 28) (N := some 41) (v := ?_) (a' := ?_) (bq 34 1073741823) rfl rfl (take_ofW HT_.out HW_.out (by kernel_rfl)) (fun _ _ _ h => h) (Or.inl ⟨by rfl, ?_⟩) hHeld ?_ ?_; rotate_left; (rintro w' ⟨s0, s1, s2, s3, s4, s5⟩; go_simp; (with_reducible rfl)); rotate_left; (simp only [Act.put, zSA, zSB, zSC, i64_w, i32_w]; rfl)
             refine take_ (i := 30) (N := some 43) (v := ?_) (a' := ?_) (bq 34 2147483647) rfl rfl (take_ofW HT_.out HW_.out (by kernel_rfl)) (fun _ _ _ h => h) (Or.inl ⟨by rfl, ?_⟩) hHeld ?_ ?_; rotate_left; (rintro w' ⟨s0, s1, s2, s3, s4, s5⟩; go_simp; (with_reducible rfl)); rotate_left; (simp only [Act.put, zSA, zSB, zSC, i64_w, i32_w]; rfl)
             refine pure_ (i := 31) (N := some 44) (v := ?_) (a' := ?_) (bq 34 4294967295) rfl rfl (any_of HT_.out (by kernel_rfl)) (fun _ _ _ h => h) (Or.inl ⟨by rfl, ?_⟩) ?_ ?_; rotate_left; (intro w'; go_simp; (with_reducible rfl)); rotate_left; (simp only [Act.put, zSA, zSB, zSC, i64_w, i32_w]; rfl)
             refine pure_ (i := 32) (N := some 45) (v := ?_) (a' := ?_) (bq 34 8589934591) rfl rfl (any_of HT_.out (by kernel_rfl)) (fun _ _ _ h => h) (Or.inl ⟨by rfl, ?_⟩) ?_ ?_; rotate_left; (intro w'; go_simp; (with_reducible rfl)); rotate_left; (simp only [Act.put, zSA, zSB, zSC, i64_w, i32_w]; rfl)
             refine pure_ (i := 33) (N := some 46) (v := ?_) (a' := ?_) (bq 34 17179869183) rfl rfl (any_of HT_.out (by kernel_rfl)) (fun _ _ _ h => h) (Or.inl ⟨by rfl, ?_⟩) ?_ ?_; rotate_left; (intro w'; go_simp; (with_reducible rfl)); rotate_left; (simp only [Act.put, zSA, zSB, zSC, i64_w, i32_w]; rfl)
             refine done_ (done_of HT_.out (by kernel_rfl)) ?_
             try go_wp2
             go_roundg k1
             case measure => have := HK1.out; omega
             case rel => exact ⟨(wrap64 (x8_1 + 1)), (by first | rfl | (simp; done) | (simp [*]; done)), H', ⟨by have := HK1.out; omega⟩, ⟨gK BK311.out⟩, ⟨by repeat (first | (with_reducible first | exact HB.out | apply below_alloc | apply pw_below_drewN | apply below_drew1 | refine below_set ?_ GE311.out | refine below_set ?_ GE314.out) | exact HB.out)⟩⟩
            ·
             rw [if_neg c22] at H
             have c22b0 : (Op.bytesLess (((rd_T102 l0_1 (ji19)).f0).toList) (((rd_T102 l0_1 x8_1).f0).toList)) = false := by simpa using c22
             clear c22
             obtain rfl := Option.some.inj H
             have p313 : 0 ≤ (x8_1 : Int) := of_decide_eq_true (by first | (with_reducible assumption) | assumption)
             have q313 : x8_1 < (l0_1.length : Int) := of_decide_eq_true (by first | (with_reducible assumption) | assumption)
             obtain ⟨ad313, A313_1, c313_1, e313, hx313_0, hx313_1, hl313_1, hi313_1⟩ := at_T102 HR0_1.out x8_1 p313 q313
             cases e313
             try have hz_hx313_0 := aM hx313_0
             try have hz_hx313_1 := aM hx313_1
             replace hx313_0 := (HB.out.cell (World.block_lt_of_cell? w _ hx313_0)).trans hx313_0
             replace hx313_1 := (HB.out.cell (World.block_lt_of_cell? w _ hx313_1)).trans hx313_1
             have HR313_1 := aM hi313_1
             have HC313_1 := aM hl313_1
             clear hi313_1 hl313_1
             replace p313 := eq_true p313
             replace q313 := eq_true q313
             try go_wp2_with (((with_reducible refine gate_dst (N := 4) rfl ?_); (try (refine gate_guard (by rfl) ?_; dsimp only)); refine box_event ?hg (N := 4) ?hd (cs := #[.string (⟨#[]⟩ : ByteArray), .slice none 0 0]) (t := 102) ?hr ?_; (case hd => rfl); (case hg => rfl); (case hr => first | (go_simp; done) | (go_simp; rfl)); intro gb314 hg w30 hbox hb; have n0_ := aM (blk_below (g := gb311) (o := .cells #[.int .i64 a0_0, .slice (some ad313) l0_1.length c0_1] 33 (0, 0)) (gK BK311.out) hb); have n1_ := aM (below_step (gB HB.out) hb); have n2_ := aM (hbox); have n3_ := aM ((by rw [hg]; exact (below_size (gB HB.out)) : w.heap.size ≤ gb314)); have n4_ := aM ((by rw [hg]; exact (below_size (gB HB.out)) : w.heap.size ≤ gb314)); have n5_ := aM ((by rw [hg]; exact Nat.ne_of_lt (blk_lt (g := gb311) (o := .cells #[.int .i64 a0_0, .slice (some ad313) l0_1.length c0_1] 33 (0, 0)) (gK BK311.out)) : gb311 ≠ gb314)); have n6_ := aM ((by rw [hg]; exact Nat.ne_of_gt (blk_lt (g := gb311) (o := .cells #[.int .i64 a0_0, .slice (some ad313) l0_1.length c0_1] 33 (0, 0)) (gK BK311.out)) : gb314 ≠ gb311)); clear BK311; clear HB; have BK311 := n0_; have HB := n1_; have BK314 := n2_; have GW314 := n3_; have GE314 := n4_; have NB311_314 := n5_; have NB314_311 := n6_; clear n0_ n1_ n2_ n3_ n4_ n5_ n6_; clear hb hbox hg; have hnb31 := NB314_311.out; have hnc31 := NB311_314.out; have hcz32_0 : w30.cell? ⟨gb314, 0, none⟩ = some (.string (⟨#[]⟩ : ByteArray)) := (blk_cell BK314.out 0).trans rfl; have hcz32_1 : w30.cell? ⟨gb314, 1, none⟩ = some (.slice none 0 0) := (blk_cell BK314.out 1).trans rfl; have hfz32_0 := blk_frozen BK314.out 0; have hfz32_1 := blk_frozen BK314.out 1))
             have n0_ : Aside0 (((w30.setCell ⟨gb314, 0, none⟩ (.string ((rd_T102 l0_1 x8_1).f0))).setCell ⟨gb314, 1, none⟩ (.slice A313_1 ((rd_T102 l0_1 x8_1).f1).length c313_1)).heap[gb311]? = some (.cells #[.int .i64 a0_0, .slice (some ad313) l0_1.length c0_1] 33 (0, 0))) := ⟨by (with_reducible repeat (first | refine blk_drewN ?_ _ | refine blk_drew ?_ | refine blk_alloc ?_ _)); refine blk_far ?_ NB311_314.out _; (with_reducible repeat (first | refine blk_drewN ?_ _ | refine blk_drew ?_ | refine blk_alloc ?_ _)); refine blk_far ?_ NB311_314.out _; (with_reducible repeat (first | refine blk_drewN ?_ _ | refine blk_drew ?_ | refine blk_alloc ?_ _)); exact BK311.out⟩
             have n1_ : Aside0 (((w30.setCell ⟨gb314, 0, none⟩ (.string ((rd_T102 l0_1 x8_1).f0))).setCell ⟨gb314, 1, none⟩ (.slice A313_1 ((rd_T102 l0_1 x8_1).f1).length c313_1)).heap[gb314]? = some (.cells #[.string ((rd_T102 l0_1 x8_1).f0), .slice A313_1 ((rd_T102 l0_1 x8_1).f1).length c313_1] 102 (0, 0))) := ⟨by (with_reducible repeat (first | refine blk_drewN ?_ _ | refine blk_drew ?_ | refine blk_alloc ?_ _)); refine blk_put (cs := #[.string ((rd_T102 l0_1 x8_1).f0), .slice none 0 0]) ?_ 1 _ rfl; (with_reducible repeat (first | refine blk_drewN ?_ _ | refine blk_drew ?_ | refine blk_alloc ?_ _)); refine blk_put (cs := #[.string (⟨#[]⟩ : ByteArray), .slice none 0 0]) ?_ 0 _ rfl; (with_reducible repeat (first | refine blk_drewN ?_ _ | refine blk_drew ?_ | refine blk_alloc ?_ _)); exact BK314.out⟩
             have n2_ : Aside0 (Below w.heap.size w ((w30.setCell ⟨gb314, 0, none⟩ (.string ((rd_T102 l0_1 x8_1).f0))).setCell ⟨gb314, 1, none⟩ (.slice A313_1 ((rd_T102 l0_1 x8_1).f1).length c313_1))) := ⟨by repeat (first | (with_reducible first | exact HB.out | apply below_alloc | apply pw_below_drewN | apply below_drew1 | refine below_set ?_ GE311.out | refine below_set ?_ GE314.out) | exact HB.out)⟩
             (try clear BK311)
             (try clear BK314)
             (try clear HB)
             generalize ((w30.setCell ⟨gb314, 0, none⟩ (.string ((rd_T102 l0_1 x8_1).f0))).setCell ⟨gb314, 1, none⟩ (.slice A313_1 ((rd_T102 l0_1 x8_1).f1).length c313_1)) = w33 at n0_ n1_ n2_ ⊢
             have BK311 := n0_
             have BK314 := n1_
             have HB := n2_
             clear n0_ n1_ n2_
             have n0_ := aM (blk_drew BK311.out)
             have n1_ := aM (blk_drew BK314.out)
             have n2_ := aM (below_drew1 HB.out)
             clear BK311
             clear BK314
             clear HB
             have BK311 := n0_
             have BK314 := n1_
             have HB := n2_
             clear n0_ n1_ n2_
             have p317 : 0 ≤ ((ji19) : Int) := of_decide_eq_true (by first | (with_reducible assumption) | assumption)
             have q317 : (ji19) < (l0_1.length : Int) := of_decide_eq_true (by first | (with_reducible assumption) | assumption)
             obtain ⟨ad317, A317_1, c317_1, e317, hx317_0, hx317_1, hl317_1, hi317_1⟩ := at_T102 HR0_1.out (ji19) p317 q317
             have hw317_1 := hx317_1
             have hw317_0 := hx317_0
             obtain rfl : ad313 = ad317 := (by injection e317)
             try have hz_hx317_0 := aM hx317_0
             try have hz_hx317_1 := aM hx317_1
             replace hx317_0 := (HB.out.cell (World.block_lt_of_cell? w _ hx317_0)).trans hx317_0
             replace hx317_1 := (HB.out.cell (World.block_lt_of_cell? w _ hx317_1)).trans hx317_1
             have HR317_1 := aM hi317_1
             have HC317_1 := aM hl317_1
             clear hi317_1 hl317_1
             replace p317 := eq_true p317
             replace q317 := eq_true q317
             refine start_ (n := 34) (S := fun w' => w'.cell? ⟨gb314, 0, none⟩ = some (.string ((rd_T102 l0_1 x8_1).f0)) ∧ w'.cell? ⟨gb314, 1, none⟩ = some (.slice A313_1 ((rd_T102 l0_1 x8_1).f1).length c313_1) ∧ w'.cell? ⟨gb311, 0, none⟩ = some (.int .i64 a0_0) ∧ w'.cell? ⟨gb311, 1, none⟩ = some (.slice (some ad313) l0_1.length c0_1) ∧ w'.cell? (ad313.add (((ji19)).toNat * 2)) = some (.string ((rd_T102 l0_1 (ji19)).f0)) ∧ w'.cell? ⟨(ad313.add (((ji19)).toNat * 2)).block, (ad313.add (((ji19)).toNat * 2)).off + 1, none⟩ = some (.slice A317_1 ((rd_T102 l0_1 (ji19)).f1).length c317_1)) (ds := []) (bq 34 0) (by kernel_rfl) rfl (by kernel_rfl) ⟨(blk_cell BK314.out 0).trans rfl, (blk_cell BK314.out 1).trans rfl, (blk_cell BK311.out 0).trans rfl, (blk_cell BK311.out 1).trans rfl, ((HB.out.cell (World.block_lt_of_cell? w _ hw317_0)).trans hw317_0), ((HB.out.cell (World.block_lt_of_cell? w _ hw317_1)).trans hw317_1)⟩ (fun hHeld => ?_); refine with_tabW spec_GoodWords.tab4 spec_GoodWords.bits4 (fun HT_ HW_ => ?_)
             generalize w33.drew = w34 at BK311 BK314 HB HR317_1 hx317_0 hx317_1 hHeld ⊢
             refine pure_ (i := 0) (N := some 13) (v := ?_) (a' := ?_) (bq 34 1) rfl rfl (any_of HT_.out (by kernel_rfl)) (fun _ _ _ h => h) (Or.inl ⟨by rfl, ?_⟩) ?_ ?_; rotate_left; (intro w'; go_simp; (with_reducible rfl)); rotate_left; (simp only [Act.put, zSA, zSB, zSC, i64_w, i32_w]; rfl)
             refine take_ (i := 1) (N := some 14) (v := ?_) (a' := ?_) (bq 34 3) rfl rfl (take_ofW HT_.out HW_.out (by kernel_rfl)) (fun _ _ _ h => h) (Or.inl ⟨by rfl, ?_⟩) hHeld ?_ ?_; rotate_left; (rintro w' ⟨s0, s1, s2, s3, s4, s5⟩; go_simp; (with_reducible rfl)); rotate_left; (simp only [Act.put, zSA, zSB, zSC, i64_w, i32_w]; rfl)
             refine one_ (i := 2) (N := some 15) (bq 34 7) rfl rfl (one_of HT_.out (by kernel_rfl)) (by decide) (fun K hK => ?_)
             refine goes_ Try.func94 (by kernel_rfl) rfl #[.string ((rd_T102 l0_1 x8_1).f0)] (by rfl) rfl rfl (by (try simp only [List.map_toArray, List.map_cons, List.map_nil]); first | done | rfl | (simp only [List.length_drop, List.length_take]; rfl)) ?_
             with_reducible refine (spec_l10Word.calls k1 ((rd_T102 l0_1 x8_1).f0) true _ A7.out).mono ?_
             rintro e w35 ⟨rfl, hb⟩
             refine ⟨_, rfl, ?_⟩
             have n0_ := aM (blk_below (g := gb311) (o := .cells #[.int .i64 a0_0, .slice (some ad313) l0_1.length c0_1] 33 (0, 0)) (gK BK311.out) hb)
             have n1_ := aM (blk_below (g := gb314) (o := .cells #[.string ((rd_T102 l0_1 x8_1).f0), .slice A313_1 ((rd_T102 l0_1 x8_1).f1).length c313_1] 102 (0, 0)) (gK BK314.out) hb)
             have n2_ := aM (below_step (gB HB.out) hb)
             clear BK311
             clear BK314
             clear HB
             have BK311 := n0_
             have BK314 := n1_
             have HB := n2_
             clear n0_ n1_ n2_
             (try clear hb)
             (try clear hb2)
             (try clear hk)
             (try clear hi)
             refine hK.out _ _ ⟨(blk_cell BK314.out 0).trans rfl, (blk_cell BK314.out 1).trans rfl, (blk_cell BK311.out 0).trans rfl, (blk_cell BK311.out 1).trans rfl, ((HB.out.cell (World.block_lt_of_cell? w _ hw317_0)).trans hw317_0), ((HB.out.cell (World.block_lt_of_cell? w _ hw317_1)).trans hw317_1)⟩ (fun hHeld => ?_)
             clear hK K
             refine norm_ (a' := ?_) ?_ ?_
             rotate_left
             ·
              show Act.put _ (some 15) _ = _
              simp only [Act.put, zSA, zSB, zSC, i64_w, i32_w]
              rfl
             refine pure_ (i := 3) (N := some 16) (v := ?_) (a' := ?_) (bq 34 15) rfl rfl (any_of HT_.out (by kernel_rfl)) (fun _ _ _ h => h) (Or.inl ⟨by rfl, ?_⟩) ?_ ?_; rotate_left; (intro w'; go_simp; (with_reducible rfl)); rotate_left; (simp only [Act.put, zSA, zSB, zSC, i64_w, i32_w]; rfl)
             refine pure_ (i := 4) (N := some 17) (v := ?_) (a' := ?_) (bq 34 31) rfl rfl (any_of HT_.out (by kernel_rfl)) (fun _ _ _ h => h) (Or.inl ⟨by rfl, ?_⟩) ?_ ?_; rotate_left; (intro w'; go_simp; (with_reducible rfl)); rotate_left; (simp only [Act.put, zSA, zSB, zSC, i64_w, i32_w]; rfl)
             refine pure_ (i := 5) (N := some 18) (v := ?_) (a' := ?_) (bq 34 63) rfl rfl (any_of HT_.out (by kernel_rfl)) (fun _ _ _ h => h) (Or.inl ⟨by rfl, ?_⟩) ?_ ?_; rotate_left; (intro w'; go_simp; (with_reducible rfl)); rotate_left; (simp only [Act.put, zSA, zSB, zSC, i64_w, i32_w]; rfl)
             refine take_ (i := 6) (N := some 19) (v := ?_) (a' := ?_) (bq 34 127) rfl rfl (take_ofW HT_.out HW_.out (by kernel_rfl)) (fun _ _ _ h => h) (Or.inl ⟨by rfl, ?_⟩) hHeld ?_ ?_; rotate_left; (rintro w' ⟨s0, s1, s2, s3, s4, s5⟩; go_simp; (with_reducible rfl)); rotate_left; (simp only [Act.put, zSA, zSB, zSC, i64_w, i32_w]; rfl)
             refine pure_ (i := 7) (N := some 20) (v := ?_) (a' := ?_) (bq 34 255) rfl rfl (any_of HT_.out (by kernel_rfl)) (fun _ _ _ h => h) (Or.inl ⟨by rfl, ?_⟩) ?_ ?_; rotate_left; (intro w'; go_simp; (with_reducible rfl)); rotate_left; (simp only [Act.put, zSA, zSB, zSC, i64_w, i32_w]; rfl)
             refine pure_ (i := 8) (N := some 21) (v := ?_) (a' := ?_) (bq 34 511) rfl rfl (any_of HT_.out (by kernel_rfl)) (fun _ _ _ h => h) (Or.inl ⟨by rfl, ?_⟩) ?_ ?_; rotate_left; (intro w'; go_simp; (with_reducible rfl)); rotate_left; (simp only [Act.put, zSA, zSB, zSC, i64_w, i32_w]; rfl)
             refine pure_ (i := 9) (N := some 22) (v := ?_) (a' := ?_) (bq 34 1023) rfl rfl (any_of HT_.out (by kernel_rfl)) (fun _ _ _ h => h) (Or.inl ⟨by rfl, ?_⟩) ?_ ?_; rotate_left; (intro w'; go_simp; (with_reducible rfl)); rotate_left; (simp only [Act.put, zSA, zSB, zSC, i64_w, i32_w]; rfl)
             refine pure_ (i := 10) (N := some 23) (v := ?_) (a' := ?_) (bq 34 2047) rfl rfl (any_of HT_.out (by kernel_rfl)) (fun _ _ _ h => h) (Or.inl ⟨by rfl, ?_⟩) ?_ ?_; rotate_left; (intro w'; go_simp; (with_reducible rfl)); rotate_left; (simp only [Act.put, zSA, zSB, zSC, i64_w, i32_w]; rfl)
             refine pure_ (i := 11) (N := some 24) (v := ?_) (a' := ?_) (bq 34 4095) rfl rfl (any_of HT_.out (by kernel_rfl)) (fun _ _ _ h => h) (Or.inl ⟨by rfl, ?_⟩) ?_ ?_; rotate_left; (intro w'; go_simp; (with_reducible rfl)); rotate_left; (simp only [Act.put, zSA, zSB, zSC, i64_w, i32_w]; rfl)
             refine pure_ (i := 13) (N := some 26) (v := ?_) (a' := ?_) (bq 34 12287) rfl rfl (any_of HT_.out (by kernel_rfl)) (fun _ _ _ h => h) (Or.inl ⟨by rfl, ?_⟩) ?_ ?_; rotate_left; (intro w'; go_simp; (with_reducible rfl)); rotate_left; (simp only [Act.put, zSA, zSB, zSC, i64_w, i32_w]; rfl)
             refine take_ (i := 12) (N := some 25) (v := ?_) (a' := ?_) (bq 34 16383) rfl rfl (take_ofW HT_.out HW_.out (by kernel_rfl)) (fun _ _ _ h => h) (Or.inl ⟨by rfl, ?_⟩) hHeld ?_ ?_; rotate_left; (rintro w' ⟨s0, s1, s2, s3, s4, s5⟩; go_simp; (with_reducible rfl)); rotate_left; (simp only [Act.put, zSA, zSB, zSC, i64_w, i32_w]; rfl)
             refine take_ (i := 14) (N := some 27) (v := ?_) (a' := ?_) (bq 34 32767) rfl rfl (take_ofW HT_.out HW_.out (by kernel_rfl)) (fun _ _ _ h => h) (Or.inl ⟨by rfl, ?_⟩) hHeld ?_ ?_; rotate_left; (rintro w' ⟨s0, s1, s2, s3, s4, s5⟩; go_simp; (with_reducible rfl)); rotate_left; (simp only [Act.put, zSA, zSB, zSC, i64_w, i32_w]; rfl)
             refine one_ (i := 15) (N := some 28) (bq 34 65535) rfl rfl (one_of HT_.out (by kernel_rfl)) (by decide) (fun K hK => ?_)
             refine goes_ Try.func95 (by kernel_rfl) rfl #[.slice A313_1 ((rd_T102 l0_1 x8_1).f1).length c313_1, .int .i64 a0_0] (by rfl) rfl rfl (by (try simp only [List.map_toArray, List.map_cons, List.map_nil]); first | done | rfl | (simp only [List.length_drop, List.length_take]; rfl)) ?_
             with_reducible refine (spec_l10List.calls k1 _ _ ((rd_T102 l0_1 x8_1).f1) a0_0 true _ ?side1 ?side2 A16.out).mono ?_
             (case side1 => repeat (first | exact (Kd.C_below HR313_1.out HB.out) | (with_reducible refine Kd.C_alloc ?_ _) | (with_reducible refine Kd.C_drewN ?_ _) | (with_reducible refine Kd.C_drew ?_)))
             (case side2 => exact HC313_1.out)
             rintro e w36 ⟨rfl, hb⟩
             refine ⟨_, rfl, ?_⟩
             have n0_ := aM (blk_below (g := gb311) (o := .cells #[.int .i64 a0_0, .slice (some ad313) l0_1.length c0_1] 33 (0, 0)) (gK BK311.out) hb)
             have n1_ := aM (blk_below (g := gb314) (o := .cells #[.string ((rd_T102 l0_1 x8_1).f0), .slice A313_1 ((rd_T102 l0_1 x8_1).f1).length c313_1] 102 (0, 0)) (gK BK314.out) hb)
             have n2_ := aM (below_step (gB HB.out) hb)
             clear BK311
             clear BK314
             clear HB
             have BK311 := n0_
             have BK314 := n1_
             have HB := n2_
             clear n0_ n1_ n2_
             (try clear hb)
             (try clear hb2)
             (try clear hk)
             (try clear hi)
             refine hK.out _ _ ⟨(blk_cell BK314.out 0).trans rfl, (blk_cell BK314.out 1).trans rfl, (blk_cell BK311.out 0).trans rfl, (blk_cell BK311.out 1).trans rfl, ((HB.out.cell (World.block_lt_of_cell? w _ hw317_0)).trans hw317_0), ((HB.out.cell (World.block_lt_of_cell? w _ hw317_1)).trans hw317_1)⟩ (fun hHeld => ?_)
             clear hK K
             refine norm_ (a' := ?_) ?_ ?_
             rotate_left
             ·
              show Act.put _ (some 28) _ = _
              simp only [Act.put, zSA, zSB, zSC, i64_w, i32_w]
              rfl
             refine pure_ (i := 16) (N := some 29) (v := ?_) (a' := ?_) (bq 34 131071) rfl rfl (any_of HT_.out (by kernel_rfl)) (fun _ _ _ h => h) (Or.inl ⟨by rfl, ?_⟩) ?_ ?_; rotate_left; (intro w'; go_simp; (with_reducible rfl)); rotate_left; (simp only [Act.put, zSA, zSB, zSC, i64_w, i32_w]; rfl)
             refine pure_ (i := 17) (N := some 30) (v := ?_) (a' := ?_) (bq 34 262143) rfl rfl (any_of HT_.out (by kernel_rfl)) (fun _ _ _ h => h) (Or.inl ⟨by rfl, ?_⟩) ?_ ?_; rotate_left; (intro w'; go_simp; (with_reducible rfl)); rotate_left; (simp only [Act.put, zSA, zSB, zSC, i64_w, i32_w]; rfl)
             refine pure_ (i := 18) (N := some 31) (v := ?_) (a' := ?_) (bq 34 524287) rfl rfl (any_of HT_.out (by kernel_rfl)) (fun _ _ _ h => h) (Or.inl ⟨by rfl, ?_⟩) ?_ ?_; rotate_left; (intro w'; go_simp; (with_reducible rfl)); rotate_left; (simp only [Act.put, zSA, zSB, zSC, i64_w, i32_w]; rfl)
             refine pure_ (i := 19) (N := some 32) (v := ?_) (a' := ?_) (bq 34 1048575) rfl rfl (any_of HT_.out (by kernel_rfl)) (fun _ _ _ h => h) (Or.inl ⟨by rfl, ?_⟩) ?_ ?_; rotate_left; (intro w'; go_simp; (with_reducible rfl)); rotate_left; (simp only [Act.put, zSA, zSB, zSC, i64_w, i32_w]; rfl)
             refine pure_ (i := 20) (N := some 33) (v := ?_) (a' := ?_) (bq 34 2097151) rfl rfl (any_of HT_.out (by kernel_rfl)) (fun _ _ _ h => h) (Or.inl ⟨by rfl, ?_⟩) ?_ ?_; rotate_left; (intro w'; go_simp; (with_reducible rfl)); rotate_left; (simp only [Act.put, zSA, zSB, zSC, i64_w, i32_w]; rfl)
             refine pure_ (i := 21) (N := some 34) (v := ?_) (a' := ?_) (bq 34 4194303) rfl rfl (any_of HT_.out (by kernel_rfl)) (fun _ _ _ h => h) (Or.inl ⟨by rfl, ?_⟩) ?_ ?_; rotate_left; (intro w'; go_simp; (with_reducible rfl)); rotate_left; (simp only [Act.put, zSA, zSB, zSC, i64_w, i32_w]; rfl)
             refine pure_ (i := 22) (N := some 35) (v := ?_) (a' := ?_) (bq 34 8388607) rfl rfl (any_of HT_.out (by kernel_rfl)) (fun _ _ _ h => h) (Or.inl ⟨by rfl, ?_⟩) ?_ ?_; rotate_left; (intro w'; go_simp; (with_reducible rfl)); rotate_left; (simp only [Act.put, zSA, zSB, zSC, i64_w, i32_w]; rfl)
             refine pure_ (i := 24) (N := some 37) (v := ?_) (a' := ?_) (bq 34 25165823) rfl rfl (any_of HT_.out (by kernel_rfl)) (fun _ _ _ h => h) (Or.inl ⟨by rfl, ?_⟩) ?_ ?_; rotate_left; (intro w'; go_simp; (with_reducible rfl)); rotate_left; (simp only [Act.put, zSA, zSB, zSC, i64_w, i32_w]; rfl)
             refine pure_ (i := 25) (N := some 38) (v := ?_) (a' := ?_) (bq 34 58720255) rfl rfl (any_of HT_.out (by kernel_rfl)) (fun _ _ _ h => h) (Or.inl ⟨by rfl, ?_⟩) ?_ ?_; rotate_left; (intro w'; go_simp; (with_reducible rfl)); rotate_left; (simp only [Act.put, zSA, zSB, zSC, i64_w, i32_w]; rfl)
             refine pure_ (i := 29) (N := some 42) (v := ?_) (a' := ?_) (bq 34 595591167) rfl rfl (any_of HT_.out (by kernel_rfl)) (fun _ _ _ h => h) (Or.inl ⟨by rfl, ?_⟩) ?_ ?_; rotate_left; (intro w'; go_simp; (with_reducible rfl)); rotate_left; (simp only [Act.put, zSA, zSB, zSC, i64_w, i32_w]; rfl)
             refine take_ (i := 23) (N := some 36) (v := ?_) (a' := ?_) (bq 34 603979775) rfl rfl (take_ofW HT_.out HW_.out (by kernel_rfl)) (fun _ _ _ h => h) (Or.inl ⟨by rfl, ?_⟩) hHeld ?_ ?_; rotate_left; (rintro w' ⟨s0, s1, s2, s3, s4, s5⟩; go_simp; (with_reducible rfl)); rotate_left; (simp only [Act.put, zSA, zSB, zSC, i64_w, i32_w]; rfl)
             refine pure_ (i := 26) (N := some 39) (v := ?_) (a' := ?_) (bq 34 671088639) rfl rfl (any_of HT_.out (by kernel_rfl)) (fun _ _ _ h => h) (Or.inl ⟨by rfl, ?_⟩) ?_ ?_; rotate_left; (intro w'; go_simp; (with_reducible rfl)); rotate_left; (simp only [Act.put, zSA, zSB, zSC, i64_w, i32_w]; rfl)
             refine pure_ (i := 27) (N := some 40) (v := ?_) (a' := ?_) (bq 34 805306367) rfl rfl (any_of HT_.out (by kernel_rfl)) (fun _ _ _ h => h) (Or.inl ⟨by rfl, ?_⟩) ?_ ?_; rotate_left; (intro w'; go_simp; (with_reducible rfl)); rotate_left; (simp only [Act.put, zSA, zSB, zSC, i64_w, i32_w]; rfl)
             refine take_ (i := 28) (N := some 41) (v := ?_) (a' := ?_) (bq 34 1073741823) rfl rfl (take_ofW HT_.out HW_.out (by kernel_rfl)) (fun _ _ _ h => h) (Or.inl ⟨by rfl, ?_⟩) hHeld ?_ ?_; rotate_left; (rintro w' ⟨s0, s1, s2, s3, s4, s5⟩; go_simp; (with_reducible rfl)); rotate_left; (simp only [Act.put, zSA, zSB, zSC, i64_w, i32_w]; rfl)
             refine take_ (i := 30) (N := some 43) (v := ?_) (a' := ?_) (bq 34 2147483647) rfl rfl (take_ofW HT_.out HW_.out (by kernel_rfl)) (fun _ _ _ h => h) (Or.inl ⟨by rfl, ?_⟩) hHeld ?_ ?_; rotate_left; (rintro w' ⟨s0, s1, s2, s3, s4, s5⟩; go_simp; (with_reducible rfl)); rotate_left; (simp only [Act.put, zSA, zSB, zSC, i64_w, i32_w]; rfl)
             refine pure_ (i := 31) (N := some 44) (v := ?_) (a' := ?_) (bq 34 4294967295) rfl rfl (any_of HT_.out (by kernel_rfl)) (fun _ _ _ h => h) (Or.inl ⟨by rfl, ?_⟩) ?_ ?_; rotate_left; (intro w'; go_simp; (with_reducible rfl)); rotate_left; (simp only [Act.put, zSA, zSB, zSC, i64_w, i32_w]; rfl)
             refine pure_ (i := 32) (N := some 45) (v := ?_) (a' := ?_) (bq 34 8589934591) rfl rfl (any_of HT_.out (by kernel_rfl)) (fun _ _ _ h => h) (Or.inl ⟨by rfl, ?_⟩) ?_ ?_; rotate_left; (intro w'; go_simp; (with_reducible rfl)); rotate_left; (simp only [Act.put, zSA, zSB, zSC, i64_w, i32_w]; rfl)
             refine pure_ (i := 33) (N := some 46) (v := ?_) (a' := ?_) (bq 34 17179869183) rfl rfl (any_of HT_.out (by kernel_rfl)) (fun _ _ _ h => h) (Or.inl ⟨by rfl, ?_⟩) ?_ ?_; rotate_left; (intro w'; go_simp; (with_reducible rfl)); rotate_left; (simp only [Act.put, zSA, zSB, zSC, i64_w, i32_w]; rfl)
             refine done_ (done_of HT_.out (by kernel_rfl)) ?_
             try go_wp2
             go_ret
             exact ⟨by first | rfl | (simp [errW_none, errW_some] <;> rfl) | (simp only [← hji19]; first | rfl | (simp [errW_none, errW_some] <;> rfl)) | (simp [*, errW_none, errW_some] <;> rfl), by repeat (first | (with_reducible first | exact HB.out | apply below_alloc | apply pw_below_drewN | apply below_drew1 | refine below_set ?_ GE311.out | refine below_set ?_ GE314.out) | exact HB.out)⟩
           ·
            rw [if_neg c21] at H
            exact absurd H (by simp)
          ·
           rw [if_neg c20] at H
           exact absurd H (by simp)
         ·
          rw [if_neg c18] at H
          have c18b0 : decide (0 < x8_1) = false := decide_eq_false c18
          clear c18
          have H' := aM H
          clear H
          have p313 : 0 ≤ (x8_1 : Int) := of_decide_eq_true (by first | (with_reducible assumption) | assumption)
          have q313 : x8_1 < (l0_1.length : Int) := of_decide_eq_true (by first | (with_reducible assumption) | assumption)
          obtain ⟨ad313, A313_1, c313_1, e313, hx313_0, hx313_1, hl313_1, hi313_1⟩ := at_T102 HR0_1.out x8_1 p313 q313
          cases e313
          try have hz_hx313_0 := aM hx313_0
          try have hz_hx313_1 := aM hx313_1
          replace hx313_0 := (HB.out.cell (World.block_lt_of_cell? w _ hx313_0)).trans hx313_0
          replace hx313_1 := (HB.out.cell (World.block_lt_of_cell? w _ hx313_1)).trans hx313_1
          have HR313_1 := aM hi313_1
          have HC313_1 := aM hl313_1
          clear hi313_1 hl313_1
          replace p313 := eq_true p313
          replace q313 := eq_true q313
          try go_wp2_with (((with_reducible refine gate_dst (N := 4) rfl ?_); (try (refine gate_guard (by rfl) ?_; dsimp only)); refine box_event ?hg (N := 4) ?hd (cs := #[.string (⟨#[]⟩ : ByteArray), .slice none 0 0]) (t := 102) ?hr ?_; (case hd => rfl); (case hg => rfl); (case hr => first | (go_simp; done) | (go_simp; rfl)); intro gb314 hg w37 hbox hb; have n0_ := aM (blk_below (g := gb311) (o := .cells #[.int .i64 a0_0, .slice (some ad313) l0_1.length c0_1] 33 (0, 0)) (gK BK311.out) hb); have n1_ := aM (below_step (gB HB.out) hb); have n2_ := aM (hbox); have n3_ := aM ((by rw [hg]; exact (below_size (gB HB.out)) : w.heap.size ≤ gb314)); have n4_ := aM ((by rw [hg]; exact (below_size (gB HB.out)) : w.heap.size ≤ gb314)); have n5_ := aM ((by rw [hg]; exact Nat.ne_of_lt (blk_lt (g := gb311) (o := .cells #[.int .i64 a0_0, .slice (some ad313) l0_1.length c0_1] 33 (0, 0)) (gK BK311.out)) : gb311 ≠ gb314)); have n6_ := aM ((by rw [hg]; exact Nat.ne_of_gt (blk_lt (g := gb311) (o := .cells #[.int .i64 a0_0, .slice (some ad313) l0_1.length c0_1] 33 (0, 0)) (gK BK311.out)) : gb314 ≠ gb311)); clear BK311; clear HB; have BK311 := n0_; have HB := n1_; have BK314 := n2_; have GW314 := n3_; have GE314 := n4_; have NB311_314 := n5_; have NB314_311 := n6_; clear n0_ n1_ n2_ n3_ n4_ n5_ n6_; clear hb hbox hg; have hnb38 := NB314_311.out; have hnc38 := NB311_314.out; have hcz39_0 : w37.cell? ⟨gb314, 0, none⟩ = some (.string (⟨#[]⟩ : ByteArray)) := (blk_cell BK314.out 0).trans rfl; have hcz39_1 : w37.cell? ⟨gb314, 1, none⟩ = some (.slice none 0 0) := (blk_cell BK314.out 1).trans rfl; have hfz39_0 := blk_frozen BK314.out 0; have hfz39_1 := blk_frozen BK314.out 1))
          have n0_ : Aside0 (((w37.setCell ⟨gb314, 0, none⟩ (.string ((rd_T102 l0_1 x8_1).f0))).setCell ⟨gb314, 1, none⟩ (.slice A313_1 ((rd_T102 l0_1 x8_1).f1).length c313_1)).heap[gb311]? = some (.cells #[.int .i64 a0_0, .slice (some ad313) l0_1.length c0_1] 33 (0, 0))) := ⟨by (with_reducible repeat (first | refine blk_drewN ?_ _ | refine blk_drew ?_ | refine blk_alloc ?_ _)); refine blk_far ?_ NB311_314.out _; (with_reducible repeat (first | refine blk_drewN ?_ _ | refine blk_drew ?_ | refine blk_alloc ?_ _)); refine blk_far ?_ NB311_314.out _; (with_reducible repeat (first | refine blk_drewN ?_ _ | refine blk_drew ?_ | refine blk_alloc ?_ _)); exact BK311.out⟩
          have n1_ : Aside0 (((w37.setCell ⟨gb314, 0, none⟩ (.string ((rd_T102 l0_1 x8_1).f0))).setCell ⟨gb314, 1, none⟩ (.slice A313_1 ((rd_T102 l0_1 x8_1).f1).length c313_1)).heap[gb314]? = some (.cells #[.string ((rd_T102 l0_1 x8_1).f0), .slice A313_1 ((rd_T102 l0_1 x8_1).f1).length c313_1] 102 (0, 0))) := ⟨by (with_reducible repeat (first | refine blk_drewN ?_ _ | refine blk_drew ?_ | refine blk_alloc ?_ _)); refine blk_put (cs := #[.string ((rd_T102 l0_1 x8_1).f0), .slice none 0 0]) ?_ 1 _ rfl; (with_reducible repeat (first | refine blk_drewN ?_ _ | refine blk_drew ?_ | refine blk_alloc ?_ _)); refine blk_put (cs := #[.string (⟨#[]⟩ : ByteArray), .slice none 0 0]) ?_ 0 _ rfl; (with_reducible repeat (first | refine blk_drewN ?_ _ | refine blk_drew ?_ | refine blk_alloc ?_ _)); exact BK314.out⟩
          have n2_ : Aside0 (Below w.heap.size w ((w37.setCell ⟨gb314, 0, none⟩ (.string ((rd_T102 l0_1 x8_1).f0))).setCell ⟨gb314, 1, none⟩ (.slice A313_1 ((rd_T102 l0_1 x8_1).f1).length c313_1))) := ⟨by repeat (first | (with_reducible first | exact HB.out | apply below_alloc | apply pw_below_drewN | apply below_drew1 | refine below_set ?_ GE311.out | refine below_set ?_ GE314.out) | exact HB.out)⟩
          (try clear BK311)
          (try clear BK314)
          (try clear HB)
          generalize ((w37.setCell ⟨gb314, 0, none⟩ (.string ((rd_T102 l0_1 x8_1).f0))).setCell ⟨gb314, 1, none⟩ (.slice A313_1 ((rd_T102 l0_1 x8_1).f1).length c313_1)) = w40 at n0_ n1_ n2_ ⊢
          have BK311 := n0_
          have BK314 := n1_
          have HB := n2_
          clear n0_ n1_ n2_
          have n0_ := aM (blk_drew BK311.out)
          have n1_ := aM (blk_drew BK314.out)
          have n2_ := aM (below_drew1 HB.out)
          clear BK311
          clear BK314
          clear HB
          have BK311 := n0_
          have BK314 := n1_
          have HB := n2_
          clear n0_ n1_ n2_
          refine start_ (n := 34) (S := fun w' => w'.cell? ⟨gb314, 0, none⟩ = some (.string ((rd_T102 l0_1 x8_1).f0)) ∧ w'.cell? ⟨gb314, 1, none⟩ = some (.slice A313_1 ((rd_T102 l0_1 x8_1).f1).length c313_1) ∧ w'.cell? ⟨gb311, 0, none⟩ = some (.int .i64 a0_0) ∧ w'.cell? ⟨gb311, 1, none⟩ = some (.slice (some ad313) l0_1.length c0_1)) (ds := []) (bq 34 0) (by kernel_rfl) rfl (by kernel_rfl) ⟨(blk_cell BK314.out 0).trans rfl, (blk_cell BK314.out 1).trans rfl, (blk_cell BK311.out 0).trans rfl, (blk_cell BK311.out 1).trans rfl⟩ (fun hHeld => ?_); refine with_tabW spec_GoodWords.tab4 spec_GoodWords.bits4 (fun HT_ HW_ => ?_)
          generalize w40.drew = w41 at BK311 BK314 HB hHeld ⊢
          refine pure_ (i := 0) (N := some 13) (v := ?_) (a' := ?_) (bq 34 1) rfl rfl (any_of HT_.out (by kernel_rfl)) (fun _ _ _ h => h) (Or.inl ⟨by rfl, ?_⟩) ?_ ?_; rotate_left; (intro w'; go_simp; (with_reducible rfl)); rotate_left; (simp only [Act.put, zSA, zSB, zSC, i64_w, i32_w]; rfl)
          refine take_ (i := 1) (N := some 14) (v := ?_) (a' := ?_) (bq 34 3) rfl rfl (take_ofW HT_.out HW_.out (by kernel_rfl)) (fun _ _ _ h => h) (Or.inl ⟨by rfl, ?_⟩) hHeld ?_ ?_; rotate_left; (rintro w' ⟨s0, s1, s2, s3⟩; go_simp; (with_reducible rfl)); rotate_left; (simp only [Act.put, zSA, zSB, zSC, i64_w, i32_w]; rfl)
          refine one_ (i := 2) (N := some 15) (bq 34 7) rfl rfl (one_of HT_.out (by kernel_rfl)) (by decide) (fun K hK => ?_)
          refine goes_ Try.func94 (by kernel_rfl) rfl #[.string ((rd_T102 l0_1 x8_1).f0)] (by rfl) rfl rfl (by (try simp only [List.map_toArray, List.map_cons, List.map_nil]); first | done | rfl | (simp only [List.length_drop, List.length_take]; rfl)) ?_
          with_reducible refine (spec_l10Word.calls k1 ((rd_T102 l0_1 x8_1).f0) true _ A7.out).mono ?_
          rintro e w42 ⟨rfl, hb⟩
          refine ⟨_, rfl, ?_⟩
          have n0_ := aM (blk_below (g := gb311) (o := .cells #[.int .i64 a0_0, .slice (some ad313) l0_1.length c0_1] 33 (0, 0)) (gK BK311.out) hb)
          have n1_ := aM (blk_below (g := gb314) (o := .cells #[.string ((rd_T102 l0_1 x8_1).f0), .slice A313_1 ((rd_T102 l0_1 x8_1).f1).length c313_1] 102 (0, 0)) (gK BK314.out) hb)
          have n2_ := aM (below_step (gB HB.out) hb)
          clear BK311
          clear BK314
          clear HB
          have BK311 := n0_
          have BK314 := n1_
          have HB := n2_
          clear n0_ n1_ n2_
          (try clear hb)
          (try clear hb2)
          (try clear hk)
          (try clear hi)
          refine hK.out _ _ ⟨(blk_cell BK314.out 0).trans rfl, (blk_cell BK314.out 1).trans rfl, (blk_cell BK311.out 0).trans rfl, (blk_cell BK311.out 1).trans rfl⟩ (fun hHeld => ?_)
          clear hK K
          refine norm_ (a' := ?_) ?_ ?_
          rotate_left
          ·
           show Act.put _ (some 15) _ = _
           simp only [Act.put, zSA, zSB, zSC, i64_w, i32_w]
           rfl
          refine pure_ (i := 3) (N := some 16) (v := ?_) (a' := ?_) (bq 34 15) rfl rfl (any_of HT_.out (by kernel_rfl)) (fun _ _ _ h => h) (Or.inl ⟨by rfl, ?_⟩) ?_ ?_; rotate_left; (intro w'; go_simp; (with_reducible rfl)); rotate_left; (simp only [Act.put, zSA, zSB, zSC, i64_w, i32_w]; rfl)
          refine pure_ (i := 4) (N := some 17) (v := ?_) (a' := ?_) (bq 34 31) rfl rfl (any_of HT_.out (by kernel_rfl)) (fun _ _ _ h => h) (Or.inl ⟨by rfl, ?_⟩) ?_ ?_; rotate_left; (intro w'; go_simp; (with_reducible rfl)); rotate_left; (simp only [Act.put, zSA, zSB, zSC, i64_w, i32_w]; rfl)
          refine pure_ (i := 5) (N := some 18) (v := ?_) (a' := ?_) (bq 34 63) rfl rfl (any_of HT_.out (by kernel_rfl)) (fun _ _ _ h => h) (Or.inl ⟨by rfl, ?_⟩) ?_ ?_; rotate_left; (intro w'; go_simp; (with_reducible rfl)); rotate_left; (simp only [Act.put, zSA, zSB, zSC, i64_w, i32_w]; rfl)
          refine take_ (i := 6) (N := some 19) (v := ?_) (a' := ?_) (bq 34 127) rfl rfl (take_ofW HT_.out HW_.out (by kernel_rfl)) (fun _ _ _ h => h) (Or.inl ⟨by rfl, ?_⟩) hHeld ?_ ?_; rotate_left; (rintro w' ⟨s0, s1, s2, s3⟩; go_simp; (with_reducible rfl)); rotate_left; (simp only [Act.put, zSA, zSB, zSC, i64_w, i32_w]; rfl)
          refine pure_ (i := 7) (N := some 20) (v := ?_) (a' := ?_) (bq 34 255) rfl rfl (any_of HT_.out (by kernel_rfl)) (fun _ _ _ h => h) (Or.inl ⟨by rfl, ?_⟩) ?_ ?_; rotate_left; (intro w'; go_simp; (with_reducible rfl)); rotate_left; (simp only [Act.put, zSA, zSB, zSC, i64_w, i32_w]; rfl)
          refine pure_ (i := 8) (N := some 21) (v := ?_) (a' := ?_) (bq 34 511) rfl rfl (any_of HT_.out (by kernel_rfl)) (fun _ _ _ h => h) (Or.inl ⟨by rfl, ?_⟩) ?_ ?_; rotate_left; (intro w'; go_simp; (with_reducible rfl)); rotate_left; (simp only [Act.put, zSA, zSB, zSC, i64_w, i32_w]; rfl)
          refine pure_ (i := 9) (N := some 22) (v := ?_) (a' := ?_) (bq 34 1023) rfl rfl (any_of HT_.out (by kernel_rfl)) (fun _ _ _ h => h) (Or.inl ⟨by rfl, ?_⟩) ?_ ?_; rotate_left; (intro w'; go_simp; (with_reducible rfl)); rotate_left; (simp only [Act.put, zSA, zSB, zSC, i64_w, i32_w]; rfl)
          refine pure_ (i := 10) (N := some 23) (v := ?_) (a' := ?_) (bq 34 2047) rfl rfl (any_of HT_.out (by kernel_rfl)) (fun _ _ _ h => h) (Or.inl ⟨by rfl, ?_⟩) ?_ ?_; rotate_left; (intro w'; go_simp; (with_reducible rfl)); rotate_left; (simp only [Act.put, zSA, zSB, zSC, i64_w, i32_w]; rfl)
          refine pure_ (i := 11) (N := some 24) (v := ?_) (a' := ?_) (bq 34 4095) rfl rfl (any_of HT_.out (by kernel_rfl)) (fun _ _ _ h => h) (Or.inl ⟨by rfl, ?_⟩) ?_ ?_; rotate_left; (intro w'; go_simp; (with_reducible rfl)); rotate_left; (simp only [Act.put, zSA, zSB, zSC, i64_w, i32_w]; rfl)
          refine pure_ (i := 13) (N := some 26) (v := ?_) (a' := ?_) (bq 34 12287) rfl rfl (any_of HT_.out (by kernel_rfl)) (fun _ _ _ h => h) (Or.inl ⟨by rfl, ?_⟩) ?_ ?_; rotate_left; (intro w'; go_simp; (with_reducible rfl)); rotate_left; (simp only [Act.put, zSA, zSB, zSC, i64_w, i32_w]; rfl)
          refine take_ (i := 12) (N := some 25) (v := ?_) (a' := ?_) (bq 34 16383) rfl rfl (take_ofW HT_.out HW_.out (by kernel_rfl)) (fun _ _ _ h => h) (Or.inl ⟨by rfl, ?_⟩) hHeld ?_ ?_; rotate_left; (rintro w' ⟨s0, s1, s2, s3⟩; go_simp; (with_reducible rfl)); rotate_left; (simp only [Act.put, zSA, zSB, zSC, i64_w, i32_w]; rfl)
          refine take_ (i := 14) (N := some 27) (v := ?_) (a' := ?_) (bq 34 32767) rfl rfl (take_ofW HT_.out HW_.out (by kernel_rfl)) (fun _ _ _ h => h) (Or.inl ⟨by rfl, ?_⟩) hHeld ?_ ?_; rotate_left; (rintro w' ⟨s0, s1, s2, s3⟩; go_simp; (with_reducible rfl)); rotate_left; (simp only [Act.put, zSA, zSB, zSC, i64_w, i32_w]; rfl)
          refine one_ (i := 15) (N := some 28) (bq 34 65535) rfl rfl (one_of HT_.out (by kernel_rfl)) (by decide) (fun K hK => ?_)
          refine goes_ Try.func95 (by kernel_rfl) rfl #[.slice A313_1 ((rd_T102 l0_1 x8_1).f1).length c313_1, .int .i64 a0_0] (by rfl) rfl rfl (by (try simp only [List.map_toArray, List.map_cons, List.map_nil]); first | done | rfl | (simp only [List.length_drop, List.length_take]; rfl)) ?_
          with_reducible refine (spec_l10List.calls k1 _ _ ((rd_T102 l0_1 x8_1).f1) a0_0 true _ ?side1 ?side2 A16.out).mono ?_
          (case side1 => repeat (first | exact (Kd.C_below HR313_1.out HB.out) | (with_reducible refine Kd.C_alloc ?_ _) | (with_reducible refine Kd.C_drewN ?_ _) | (with_reducible refine Kd.C_drew ?_)))
          (case side2 => exact HC313_1.out)
          rintro e w43 ⟨rfl, hb⟩
          refine ⟨_, rfl, ?_⟩
          have n0_ := aM (blk_below (g := gb311) (o := .cells #[.int .i64 a0_0, .slice (some ad313) l0_1.length c0_1] 33 (0, 0)) (gK BK311.out) hb)
          have n1_ := aM (blk_below (g := gb314) (o := .cells #[.string ((rd_T102 l0_1 x8_1).f0), .slice A313_1 ((rd_T102 l0_1 x8_1).f1).length c313_1] 102 (0, 0)) (gK BK314.out) hb)
          have n2_ := aM (below_step (gB HB.out) hb)
          clear BK311
          clear BK314
          clear HB
          have BK311 := n0_
          have BK314 := n1_
          have HB := n2_
          clear n0_ n1_ n2_
          (try clear hb)
          (try clear hb2)
          (try clear hk)
          (try clear hi)
          refine hK.out _ _ ⟨(blk_cell BK314.out 0).trans rfl, (blk_cell BK314.out 1).trans rfl, (blk_cell BK311.out 0).trans rfl, (blk_cell BK311.out 1).trans rfl⟩ (fun hHeld => ?_)
          clear hK K
          refine norm_ (a' := ?_) ?_ ?_
          rotate_left
          ·
           show Act.put _ (some 28) _ = _
           simp only [Act.put, zSA, zSB, zSC, i64_w, i32_w]
           rfl
          refine pure_ (i := 16) (N := some 29) (v := ?_) (a' := ?_) (bq 34 131071) rfl rfl (any_of HT_.out (by kernel_rfl)) (fun _ _ _ h => h) (Or.inl ⟨by rfl, ?_⟩) ?_ ?_; rotate_left; (intro w'; go_simp; (with_reducible rfl)); rotate_left; (simp only [Act.put, zSA, zSB, zSC, i64_w, i32_w]; rfl)
          refine pure_ (i := 17) (N := some 30) (v := ?_) (a' := ?_) (bq 34 262143) rfl rfl (any_of HT_.out (by kernel_rfl)) (fun _ _ _ h => h) (Or.inl ⟨by rfl, ?_⟩) ?_ ?_; rotate_left; (intro w'; go_simp; (with_reducible rfl)); rotate_left; (simp only [Act.put, zSA, zSB, zSC, i64_w, i32_w]; rfl)
          refine pure_ (i := 18) (N := some 31) (v := ?_) (a' := ?_) (bq 34 524287) rfl rfl (any_of HT_.out (by kernel_rfl)) (fun _ _ _ h => h) (Or.inl ⟨by rfl, ?_⟩) ?_ ?_; rotate_left; (intro w'; go_simp; (with_reducible rfl)); rotate_left; (simp only [Act.put, zSA, zSB, zSC, i64_w, i32_w]; rfl)
          refine pure_ (i := 19) (N := some 32) (v := ?_) (a' := ?_) (bq 34 1048575) rfl rfl (any_of HT_.out (by kernel_rfl)) (fun _ _ _ h => h) (Or.inl ⟨by rfl, ?_⟩) ?_ ?_; rotate_left; (intro w'; go_simp; (with_reducible rfl)); rotate_left; (simp only [Act.put, zSA, zSB, zSC, i64_w, i32_w]; rfl)
          refine pure_ (i := 20) (N := some 33) (v := ?_) (a' := ?_) (bq 34 2097151) rfl rfl (any_of HT_.out (by kernel_rfl)) (fun _ _ _ h => h) (Or.inl ⟨by rfl, ?_⟩) ?_ ?_; rotate_left; (intro w'; go_simp; (with_reducible rfl)); rotate_left; (simp only [Act.put, zSA, zSB, zSC, i64_w, i32_w]; rfl)
          refine pure_ (i := 21) (N := some 34) (v := ?_) (a' := ?_) (bq 34 4194303) rfl rfl (any_of HT_.out (by kernel_rfl)) (fun _ _ _ h => h) (Or.inl ⟨by rfl, ?_⟩) ?_ ?_; rotate_left; (intro w'; go_simp; (with_reducible rfl)); rotate_left; (simp only [Act.put, zSA, zSB, zSC, i64_w, i32_w]; rfl)
          refine pure_ (i := 22) (N := some 35) (v := undef) (a' := ?_) (bq 34 8388607) rfl rfl (any_of HT_.out (by kernel_rfl)) (fun _ _ _ h => h) (Or.inr ⟨by rfl, rfl⟩) ?_ ?_
          rotate_left
          ·
           simp only [Act.put, zSA, zSB, zSC, i64_w, i32_w]
           rfl
          refine pure_ (i := 23) (N := some 36) (v := undef) (a' := ?_) (bq 34 16777215) rfl rfl (any_of HT_.out (by kernel_rfl)) (fun _ _ _ h => h) (Or.inr ⟨by rfl, rfl⟩) ?_ ?_
          rotate_left
          ·
           simp only [Act.put, zSA, zSB, zSC, i64_w, i32_w]
           rfl
          refine pure_ (i := 24) (N := some 37) (v := undef) (a' := ?_) (bq 34 33554431) rfl rfl (any_of HT_.out (by kernel_rfl)) (fun _ _ _ h => h) (Or.inr ⟨by rfl, rfl⟩) ?_ ?_
          rotate_left
          ·
           simp only [Act.put, zSA, zSB, zSC, i64_w, i32_w]
           rfl
          refine pure_ (i := 25) (N := some 38) (v := undef) (a' := ?_) (bq 34 67108863) rfl rfl (any_of HT_.out (by kernel_rfl)) (fun _ _ _ h => h) (Or.inr ⟨by rfl, rfl⟩) ?_ ?_
          rotate_left
          ·
           simp only [Act.put, zSA, zSB, zSC, i64_w, i32_w]
           rfl
          refine pure_ (i := 26) (N := some 39) (v := undef) (a' := ?_) (bq 34 134217727) rfl rfl (any_of HT_.out (by kernel_rfl)) (fun _ _ _ h => h) (Or.inr ⟨by rfl, rfl⟩) ?_ ?_
          rotate_left
          ·
           simp only [Act.put, zSA, zSB, zSC, i64_w, i32_w]
           rfl
          refine pure_ (i := 27) (N := some 40) (v := undef) (a' := ?_) (bq 34 268435455) rfl rfl (any_of HT_.out (by kernel_rfl)) (fun _ _ _ h => h) (Or.inr ⟨by rfl, rfl⟩) ?_ ?_
          rotate_left
          ·
           simp only [Act.put, zSA, zSB, zSC, i64_w, i32_w]
           rfl
          refine pure_ (i := 28) (N := some 41) (v := undef) (a' := ?_) (bq 34 536870911) rfl rfl (any_of HT_.out (by kernel_rfl)) (fun _ _ _ h => h) (Or.inr ⟨by rfl, rfl⟩) ?_ ?_
          rotate_left
          ·
           simp only [Act.put, zSA, zSB, zSC, i64_w, i32_w]
           rfl
          refine pure_ (i := 29) (N := some 42) (v := undef) (a' := ?_) (bq 34 1073741823) rfl rfl (any_of HT_.out (by kernel_rfl)) (fun _ _ _ h => h) (Or.inr ⟨by rfl, rfl⟩) ?_ ?_
          rotate_left
          ·
           simp only [Act.put, zSA, zSB, zSC, i64_w, i32_w]
           rfl
          refine pure_ (i := 30) (N := some 43) (v := undef) (a' := ?_) (bq 34 2147483647) rfl rfl (any_of HT_.out (by kernel_rfl)) (fun _ _ _ h => h) (Or.inr ⟨by rfl, rfl⟩) ?_ ?_
          rotate_left
          ·
           simp only [Act.put, zSA, zSB, zSC, i64_w, i32_w]
           rfl
          refine pure_ (i := 31) (N := some 44) (v := undef) (a' := ?_) (bq 34 4294967295) rfl rfl (any_of HT_.out (by kernel_rfl)) (fun _ _ _ h => h) (Or.inr ⟨by rfl, rfl⟩) ?_ ?_
          rotate_left
          ·
           simp only [Act.put, zSA, zSB, zSC, i64_w, i32_w]
           rfl
          refine pure_ (i := 32) (N := some 45) (v := ?_) (a' := ?_) (bq 34 8589934591) rfl rfl (any_of HT_.out (by kernel_rfl)) (fun _ _ _ h => h) (Or.inl ⟨by rfl, ?_⟩) ?_ ?_; rotate_left; (intro w'; go_simp; (with_reducible rfl)); rotate_left; (simp only [Act.put, zSA, zSB, zSC, i64_w, i32_w]; rfl)
          refine pure_ (i := 33) (N := some 46) (v := ?_) (a' := ?_) (bq 34 17179869183) rfl rfl (any_of HT_.out (by kernel_rfl)) (fun _ _ _ h => h) (Or.inl ⟨by rfl, ?_⟩) ?_ ?_; rotate_left; (intro w'; go_simp; (with_reducible rfl)); rotate_left; (simp only [Act.put, zSA, zSB, zSC, i64_w, i32_w]; rfl)
          refine done_ (done_of HT_.out (by kernel_rfl)) ?_
          try go_wp2
          go_roundg k1
          case measure => have := HK1.out; omega
          case rel => exact ⟨(wrap64 (x8_1 + 1)), (by first | rfl | (simp; done) | (simp [*]; done)), H', ⟨by have := HK1.out; omega⟩, ⟨gK BK311.out⟩, ⟨by repeat (first | (with_reducible first | exact HB.out | apply below_alloc | apply pw_below_drewN | apply below_drew1 | refine below_set ?_ GE311.out | refine below_set ?_ GE314.out) | exact HB.out)⟩⟩
        ·
         replace c17 := Bool.eq_false_iff.mpr c17
         subst c17
         have H1 : (some false) = some r := by rw [if_neg (show ¬ (false = true) by decide)] at H; exact H
         clear H
         have H := H1
         clear H1
         obtain rfl := Option.some.inj H
         have p313 : 0 ≤ (x8_1 : Int) := of_decide_eq_true (by first | (with_reducible assumption) | assumption)
         have q313 : x8_1 < (l0_1.length : Int) := of_decide_eq_true (by first | (with_reducible assumption) | assumption)
         obtain ⟨ad313, A313_1, c313_1, e313, hx313_0, hx313_1, hl313_1, hi313_1⟩ := at_T102 HR0_1.out x8_1 p313 q313
         cases e313
         try have hz_hx313_0 := aM hx313_0
         try have hz_hx313_1 := aM hx313_1
         replace hx313_0 := (HB.out.cell (World.block_lt_of_cell? w _ hx313_0)).trans hx313_0
         replace hx313_1 := (HB.out.cell (World.block_lt_of_cell? w _ hx313_1)).trans hx313_1
         have HR313_1 := aM hi313_1
         have HC313_1 := aM hl313_1
         clear hi313_1 hl313_1
         replace p313 := eq_true p313
         replace q313 := eq_true q313
         try go_wp2_with (((with_reducible refine gate_dst (N := 4) rfl ?_); (try (refine gate_guard (by rfl) ?_; dsimp only)); refine box_event ?hg (N := 4) ?hd (cs := #[.string (⟨#[]⟩ : ByteArray), .slice none 0 0]) (t := 102) ?hr ?_; (case hd => rfl); (case hg => rfl); (case hr => first | (go_simp; done) | (go_simp; rfl)); intro gb314 hg w44 hbox hb; have n0_ := aM (blk_below (g := gb311) (o := .cells #[.int .i64 a0_0, .slice (some ad313) l0_1.length c0_1] 33 (0, 0)) (gK BK311.out) hb); have n1_ := aM (below_step (gB HB.out) hb); have n2_ := aM (hbox); have n3_ := aM ((by rw [hg]; exact (below_size (gB HB.out)) : w.heap.size ≤ gb314)); have n4_ := aM ((by rw [hg]; exact (below_size (gB HB.out)) : w.heap.size ≤ gb314)); have n5_ := aM ((by rw [hg]; exact Nat.ne_of_lt (blk_lt (g := gb311) (o := .cells #[.int .i64 a0_0, .slice (some ad313) l0_1.length c0_1] 33 (0, 0)) (gK BK311.out)) : gb311 ≠ gb314)); have n6_ := aM ((by rw [hg]; exact Nat.ne_of_gt (blk_lt (g := gb311) (o := .cells #[.int .i64 a0_0, .slice (some ad313) l0_1.length c0_1] 33 (0, 0)) (gK BK311.out)) : gb314 ≠ gb311)); clear BK311; clear HB; have BK311 := n0_; have HB := n1_; have BK314 := n2_; have GW314 := n3_; have GE314 := n4_; have NB311_314 := n5_; have NB314_311 := n6_; clear n0_ n1_ n2_ n3_ n4_ n5_ n6_; clear hb hbox hg; have hnb45 := NB314_311.out; have hnc45 := NB311_314.out; have hcz46_0 : w44.cell? ⟨gb314, 0, none⟩ = some (.string (⟨#[]⟩ : ByteArray)) := (blk_cell BK314.out 0).trans rfl; have hcz46_1 : w44.cell? ⟨gb314, 1, none⟩ = some (.slice none 0 0) := (blk_cell BK314.out 1).trans rfl; have hfz46_0 := blk_frozen BK314.out 0; have hfz46_1 := blk_frozen BK314.out 1))
         have n0_ : Aside0 (((w44.setCell ⟨gb314, 0, none⟩ (.string ((rd_T102 l0_1 x8_1).f0))).setCell ⟨gb314, 1, none⟩ (.slice A313_1 ((rd_T102 l0_1 x8_1).f1).length c313_1)).heap[gb311]? = some (.cells #[.int .i64 a0_0, .slice (some ad313) l0_1.length c0_1] 33 (0, 0))) := ⟨by (with_reducible repeat (first | refine blk_drewN ?_ _ | refine blk_drew ?_ | refine blk_alloc ?_ _)); refine blk_far ?_ NB311_314.out _; (with_reducible repeat (first | refine blk_drewN ?_ _ | refine blk_drew ?_ | refine blk_alloc ?_ _)); refine blk_far ?_ NB311_314.out _; (with_reducible repeat (first | refine blk_drewN ?_ _ | refine blk_drew ?_ | refine blk_alloc ?_ _)); exact BK311.out⟩
         have n1_ : Aside0 (((w44.setCell ⟨gb314, 0, none⟩ (.string ((rd_T102 l0_1 x8_1).f0))).setCell ⟨gb314, 1, none⟩ (.slice A313_1 ((rd_T102 l0_1 x8_1).f1).length c313_1)).heap[gb314]? = some (.cells #[.string ((rd_T102 l0_1 x8_1).f0), .slice A313_1 ((rd_T102 l0_1 x8_1).f1).length c313_1] 102 (0, 0))) := ⟨by (with_reducible repeat (first | refine blk_drewN ?_ _ | refine blk_drew ?_ | refine blk_alloc ?_ _)); refine blk_put (cs := #[.string ((rd_T102 l0_1 x8_1).f0), .slice none 0 0]) ?_ 1 _ rfl; (with_reducible repeat (first | refine blk_drewN ?_ _ | refine blk_drew ?_ | refine blk_alloc ?_ _)); refine blk_put (cs := #[.string (⟨#[]⟩ : ByteArray), .slice none 0 0]) ?_ 0 _ rfl; (with_reducible repeat (first | refine blk_drewN ?_ _ | refine blk_drew ?_ | refine blk_alloc ?_ _)); exact BK314.out⟩
         have n2_ : Aside0 (Below w.heap.size w ((w44.setCell ⟨gb314, 0, none⟩ (.string ((rd_T102 l0_1 x8_1).f0))).setCell ⟨gb314, 1, none⟩ (.slice A313_1 ((rd_T102 l0_1 x8_1).f1).length c313_1))) := ⟨by repeat (first | (with_reducible first | exact HB.out | apply below_alloc | apply pw_below_drewN | apply below_drew1 | refine below_set ?_ GE311.out | refine below_set ?_ GE314.out) | exact HB.out)⟩
         (try clear BK311)
         (try clear BK314)
         (try clear HB)
         generalize ((w44.setCell ⟨gb314, 0, none⟩ (.string ((rd_T102 l0_1 x8_1).f0))).setCell ⟨gb314, 1, none⟩ (.slice A313_1 ((rd_T102 l0_1 x8_1).f1).length c313_1)) = w47 at n0_ n1_ n2_ ⊢
         have BK311 := n0_
         have BK314 := n1_
         have HB := n2_
         clear n0_ n1_ n2_
         have n0_ := aM (blk_drew BK311.out)
         have n1_ := aM (blk_drew BK314.out)
         have n2_ := aM (below_drew1 HB.out)
         clear BK311
         clear BK314
         clear HB
         have BK311 := n0_
         have BK314 := n1_
         have HB := n2_
         clear n0_ n1_ n2_
         refine start_ (n := 34) (S := fun w' => w'.cell? ⟨gb314, 0, none⟩ = some (.string ((rd_T102 l0_1 x8_1).f0)) ∧ w'.cell? ⟨gb314, 1, none⟩ = some (.slice A313_1 ((rd_T102 l0_1 x8_1).f1).length c313_1) ∧ w'.cell? ⟨gb311, 0, none⟩ = some (.int .i64 a0_0) ∧ w'.cell? ⟨gb311, 1, none⟩ = some (.slice (some ad313) l0_1.length c0_1)) (ds := []) (bq 34 0) (by kernel_rfl) rfl (by kernel_rfl) ⟨(blk_cell BK314.out 0).trans rfl, (blk_cell BK314.out 1).trans rfl, (blk_cell BK311.out 0).trans rfl, (blk_cell BK311.out 1).trans rfl⟩ (fun hHeld => ?_); refine with_tabW spec_GoodWords.tab4 spec_GoodWords.bits4 (fun HT_ HW_ => ?_)
         generalize w47.drew = w48 at BK311 BK314 HB hHeld ⊢
         refine pure_ (i := 0) (N := some 13) (v := ?_) (a' := ?_) (bq 34 1) rfl rfl (any_of HT_.out (by kernel_rfl)) (fun _ _ _ h => h) (Or.inl ⟨by rfl, ?_⟩) ?_ ?_; rotate_left; (intro w'; go_simp; (with_reducible rfl)); rotate_left; (simp only [Act.put, zSA, zSB, zSC, i64_w, i32_w]; rfl)
         refine take_ (i := 1) (N := some 14) (v := ?_) (a' := ?_) (bq 34 3) rfl rfl (take_ofW HT_.out HW_.out (by kernel_rfl)) (fun _ _ _ h => h) (Or.inl ⟨by rfl, ?_⟩) hHeld ?_ ?_; rotate_left; (rintro w' ⟨s0, s1, s2, s3⟩; go_simp; (with_reducible rfl)); rotate_left; (simp only [Act.put, zSA, zSB, zSC, i64_w, i32_w]; rfl)
         refine one_ (i := 2) (N := some 15) (bq 34 7) rfl rfl (one_of HT_.out (by kernel_rfl)) (by decide) (fun K hK => ?_)
         refine goes_ Try.func94 (by kernel_rfl) rfl #[.string ((rd_T102 l0_1 x8_1).f0)] (by rfl) rfl rfl (by (try simp only [List.map_toArray, List.map_cons, List.map_nil]); first | done | rfl | (simp only [List.length_drop, List.length_take]; rfl)) ?_
         with_reducible refine (spec_l10Word.calls k1 ((rd_T102 l0_1 x8_1).f0) true _ A7.out).mono ?_
         rintro e w49 ⟨rfl, hb⟩
         refine ⟨_, rfl, ?_⟩
         have n0_ := aM (blk_below (g := gb311) (o := .cells #[.int .i64 a0_0, .slice (some ad313) l0_1.length c0_1] 33 (0, 0)) (gK BK311.out) hb)
         have n1_ := aM (blk_below (g := gb314) (o := .cells #[.string ((rd_T102 l0_1 x8_1).f0), .slice A313_1 ((rd_T102 l0_1 x8_1).f1).length c313_1] 102 (0, 0)) (gK BK314.out) hb)
         have n2_ := aM (below_step (gB HB.out) hb)
         clear BK311
         clear BK314
         clear HB
         have BK311 := n0_
         have BK314 := n1_
         have HB := n2_
         clear n0_ n1_ n2_
         (try clear hb)
         (try clear hb2)
         (try clear hk)
         (try clear hi)
         refine hK.out _ _ ⟨(blk_cell BK314.out 0).trans rfl, (blk_cell BK314.out 1).trans rfl, (blk_cell BK311.out 0).trans rfl, (blk_cell BK311.out 1).trans rfl⟩ (fun hHeld => ?_)
         clear hK K
         refine norm_ (a' := ?_) ?_ ?_
         rotate_left
         ·
          show Act.put _ (some 15) _ = _
          simp only [Act.put, zSA, zSB, zSC, i64_w, i32_w]
          rfl
         refine pure_ (i := 3) (N := some 16) (v := ?_) (a' := ?_) (bq 34 15) rfl rfl (any_of HT_.out (by kernel_rfl)) (fun _ _ _ h => h) (Or.inl ⟨by rfl, ?_⟩) ?_ ?_; rotate_left; (intro w'; go_simp; (with_reducible rfl)); rotate_left; (simp only [Act.put, zSA, zSB, zSC, i64_w, i32_w]; rfl)
         refine pure_ (i := 4) (N := some 17) (v := ?_) (a' := ?_) (bq 34 31) rfl rfl (any_of HT_.out (by kernel_rfl)) (fun _ _ _ h => h) (Or.inl ⟨by rfl, ?_⟩) ?_ ?_; rotate_left; (intro w'; go_simp; (with_reducible rfl)); rotate_left; (simp only [Act.put, zSA, zSB, zSC, i64_w, i32_w]; rfl)
         refine pure_ (i := 5) (N := some 18) (v := ?_) (a' := ?_) (bq 34 63) rfl rfl (any_of HT_.out (by kernel_rfl)) (fun _ _ _ h => h) (Or.inl ⟨by rfl, ?_⟩) ?_ ?_; rotate_left; (intro w'; go_simp; (with_reducible rfl)); rotate_left; (simp only [Act.put, zSA, zSB, zSC, i64_w, i32_w]; rfl)
         refine take_ (i := 6) (N := some 19) (v := ?_) (a' := ?_) (bq 34 127) rfl rfl (take_ofW HT_.out HW_.out (by kernel_rfl)) (fun _ _ _ h => h) (Or.inl ⟨by rfl, ?_⟩) hHeld ?_ ?_; rotate_left; (rintro w' ⟨s0, s1, s2, s3⟩; go_simp; (with_reducible rfl)); rotate_left; (simp only [Act.put, zSA, zSB, zSC, i64_w, i32_w]; rfl)
         refine pure_ (i := 7) (N := some 20) (v := ?_) (a' := ?_) (bq 34 255) rfl rfl (any_of HT_.out (by kernel_rfl)) (fun _ _ _ h => h) (Or.inl ⟨by rfl, ?_⟩) ?_ ?_; rotate_left; (intro w'; go_simp; (with_reducible rfl)); rotate_left; (simp only [Act.put, zSA, zSB, zSC, i64_w, i32_w]; rfl)
         refine pure_ (i := 8) (N := some 21) (v := ?_) (a' := ?_) (bq 34 511) rfl rfl (any_of HT_.out (by kernel_rfl)) (fun _ _ _ h => h) (Or.inl ⟨by rfl, ?_⟩) ?_ ?_; rotate_left; (intro w'; go_simp; (with_reducible rfl)); rotate_left; (simp only [Act.put, zSA, zSB, zSC, i64_w, i32_w]; rfl)
         refine pure_ (i := 9) (N := some 22) (v := ?_) (a' := ?_) (bq 34 1023) rfl rfl (any_of HT_.out (by kernel_rfl)) (fun _ _ _ h => h) (Or.inl ⟨by rfl, ?_⟩) ?_ ?_; rotate_left; (intro w'; go_simp; (with_reducible rfl)); rotate_left; (simp only [Act.put, zSA, zSB, zSC, i64_w, i32_w]; rfl)
         refine pure_ (i := 10) (N := some 23) (v := ?_) (a' := ?_) (bq 34 2047) rfl rfl (any_of HT_.out (by kernel_rfl)) (fun _ _ _ h => h) (Or.inl ⟨by rfl, ?_⟩) ?_ ?_; rotate_left; (intro w'; go_simp; (with_reducible rfl)); rotate_left; (simp only [Act.put, zSA, zSB, zSC, i64_w, i32_w]; rfl)
         refine pure_ (i := 11) (N := some 24) (v := ?_) (a' := ?_) (bq 34 4095) rfl rfl (any_of HT_.out (by kernel_rfl)) (fun _ _ _ h => h) (Or.inl ⟨by rfl, ?_⟩) ?_ ?_; rotate_left; (intro w'; go_simp; (with_reducible rfl)); rotate_left; (simp only [Act.put, zSA, zSB, zSC, i64_w, i32_w]; rfl)
         refine pure_ (i := 13) (N := some 26) (v := ?_) (a' := ?_) (bq 34 12287) rfl rfl (any_of HT_.out (by kernel_rfl)) (fun _ _ _ h => h) (Or.inl ⟨by rfl, ?_⟩) ?_ ?_; rotate_left; (intro w'; go_simp; (with_reducible rfl)); rotate_left; (simp only [Act.put, zSA, zSB, zSC, i64_w, i32_w]; rfl)
         refine take_ (i := 12) (N := some 25) (v := ?_) (a' := ?_) (bq 34 16383) rfl rfl (take_ofW HT_.out HW_.out (by kernel_rfl)) (fun _ _ _ h => h) (Or.inl ⟨by rfl, ?_⟩) hHeld ?_ ?_; rotate_left; (rintro w' ⟨s0, s1, s2, s3⟩; go_simp; (with_reducible rfl)); rotate_left; (simp only [Act.put, zSA, zSB, zSC, i64_w, i32_w]; rfl)
         refine take_ (i := 14) (N := some 27) (v := ?_) (a' := ?_) (bq 34 32767) rfl rfl (take_ofW HT_.out HW_.out (by kernel_rfl)) (fun _ _ _ h => h) (Or.inl ⟨by rfl, ?_⟩) hHeld ?_ ?_; rotate_left; (rintro w' ⟨s0, s1, s2, s3⟩; go_simp; (with_reducible rfl)); rotate_left; (simp only [Act.put, zSA, zSB, zSC, i64_w, i32_w]; rfl)
         refine one_ (i := 15) (N := some 28) (bq 34 65535) rfl rfl (one_of HT_.out (by kernel_rfl)) (by decide) (fun K hK => ?_)
         refine goes_ Try.func95 (by kernel_rfl) rfl #[.slice A313_1 ((rd_T102 l0_1 x8_1).f1).length c313_1, .int .i64 a0_0] (by rfl) rfl rfl (by (try simp only [List.map_toArray, List.map_cons, List.map_nil]); first | done | rfl | (simp only [List.length_drop, List.length_take]; rfl)) ?_
         with_reducible refine (spec_l10List.calls k1 _ _ ((rd_T102 l0_1 x8_1).f1) a0_0 false _ ?side1 ?side2 A16.out).mono ?_
         (case side1 => repeat (first | exact (Kd.C_below HR313_1.out HB.out) | (with_reducible refine Kd.C_alloc ?_ _) | (with_reducible refine Kd.C_drewN ?_ _) | (with_reducible refine Kd.C_drew ?_)))
         (case side2 => exact HC313_1.out)
         rintro e w50 ⟨rfl, hb⟩
         refine ⟨_, rfl, ?_⟩
         have n0_ := aM (blk_below (g := gb311) (o := .cells #[.int .i64 a0_0, .slice (some ad313) l0_1.length c0_1] 33 (0, 0)) (gK BK311.out) hb)
         have n1_ := aM (blk_below (g := gb314) (o := .cells #[.string ((rd_T102 l0_1 x8_1).f0), .slice A313_1 ((rd_T102 l0_1 x8_1).f1).length c313_1] 102 (0, 0)) (gK BK314.out) hb)
         have n2_ := aM (below_step (gB HB.out) hb)
         clear BK311
         clear BK314
         clear HB
         have BK311 := n0_
         have BK314 := n1_
         have HB := n2_
         clear n0_ n1_ n2_
         (try clear hb)
         (try clear hb2)
         (try clear hk)
         (try clear hi)
         refine hK.out _ _ ⟨(blk_cell BK314.out 0).trans rfl, (blk_cell BK314.out 1).trans rfl, (blk_cell BK311.out 0).trans rfl, (blk_cell BK311.out 1).trans rfl⟩ (fun hHeld => ?_)
         clear hK K
         refine norm_ (a' := ?_) ?_ ?_
         rotate_left
         ·
          show Act.put _ (some 28) _ = _
          simp only [Act.put, zSA, zSB, zSC, i64_w, i32_w]
          rfl
         refine pure_ (i := 16) (N := some 29) (v := ?_) (a' := ?_) (bq 34 131071) rfl rfl (any_of HT_.out (by kernel_rfl)) (fun _ _ _ h => h) (Or.inl ⟨by rfl, ?_⟩) ?_ ?_; rotate_left; (intro w'; go_simp; (with_reducible rfl)); rotate_left; (simp only [Act.put, zSA, zSB, zSC, i64_w, i32_w]; rfl)
         refine pure_ (i := 17) (N := some 30) (v := ?_) (a' := ?_) (bq 34 262143) rfl rfl (any_of HT_.out (by kernel_rfl)) (fun _ _ _ h => h) (Or.inl ⟨by rfl, ?_⟩) ?_ ?_; rotate_left; (intro w'; go_simp; (with_reducible rfl)); rotate_left; (simp only [Act.put, zSA, zSB, zSC, i64_w, i32_w]; rfl)
         refine pure_ (i := 18) (N := some 31) (v := ?_) (a' := ?_) (bq 34 524287) rfl rfl (any_of HT_.out (by kernel_rfl)) (fun _ _ _ h => h) (Or.inl ⟨by rfl, ?_⟩) ?_ ?_; rotate_left; (intro w'; go_simp; (with_reducible rfl)); rotate_left; (simp only [Act.put, zSA, zSB, zSC, i64_w, i32_w]; rfl)
         refine pure_ (i := 19) (N := some 32) (v := undef) (a' := ?_) (bq 34 1048575) rfl rfl (any_of HT_.out (by kernel_rfl)) (fun _ _ _ h => h) (Or.inr ⟨by rfl, rfl⟩) ?_ ?_
         rotate_left
         ·
          simp only [Act.put, zSA, zSB, zSC, i64_w, i32_w]
          rfl
         refine pure_ (i := 20) (N := some 33) (v := undef) (a' := ?_) (bq 34 2097151) rfl rfl (any_of HT_.out (by kernel_rfl)) (fun _ _ _ h => h) (Or.inr ⟨by rfl, rfl⟩) ?_ ?_
         rotate_left
         ·
          simp only [Act.put, zSA, zSB, zSC, i64_w, i32_w]
          rfl
         refine pure_ (i := 21) (N := some 34) (v := undef) (a' := ?_) (bq 34 4194303) rfl rfl (any_of HT_.out (by kernel_rfl)) (fun _ _ _ h => h) (Or.inr ⟨by rfl, rfl⟩) ?_ ?_
         rotate_left
         ·
          simp only [Act.put, zSA, zSB, zSC, i64_w, i32_w]
          rfl
         refine pure_ (i := 22) (N := some 35) (v := undef) (a' := ?_) (bq 34 8388607) rfl rfl (any_of HT_.out (by kernel_rfl)) (fun _ _ _ h => h) (Or.inr ⟨by rfl, rfl⟩) ?_ ?_
         rotate_left
         ·
          simp only [Act.put, zSA, zSB, zSC, i64_w, i32_w]
          rfl
         refine pure_ (i := 23) (N := some 36) (v := undef) (a' := ?_) (bq 34 16777215) rfl rfl (any_of HT_.out (by kernel_rfl)) (fun _ _ _ h => h) (Or.inr ⟨by rfl, rfl⟩) ?_ ?_
         rotate_left
         ·
          simp only [Act.put, zSA, zSB, zSC, i64_w, i32_w]
          rfl
         refine pure_ (i := 24) (N := some 37) (v := undef) (a' := ?_) (bq 34 33554431) rfl rfl (any_of HT_.out (by kernel_rfl)) (fun _ _ _ h => h) (Or.inr ⟨by rfl, rfl⟩) ?_ ?_
         rotate_left
         ·
          simp only [Act.put, zSA, zSB, zSC, i64_w, i32_w]
          rfl
         refine pure_ (i := 25) (N := some 38) (v := undef) (a' := ?_) (bq 34 67108863) rfl rfl (any_of HT_.out (by kernel_rfl)) (fun _ _ _ h => h) (Or.inr ⟨by rfl, rfl⟩) ?_ ?_
         rotate_left
         ·
          simp only [Act.put, zSA, zSB, zSC, i64_w, i32_w]
          rfl
         refine pure_ (i := 26) (N := some 39) (v := undef) (a' := ?_) (bq 34 134217727) rfl rfl (any_of HT_.out (by kernel_rfl)) (fun _ _ _ h => h) (Or.inr ⟨by rfl, rfl⟩) ?_ ?_
         rotate_left
         ·
          simp only [Act.put, zSA, zSB, zSC, i64_w, i32_w]
          rfl
         refine pure_ (i := 27) (N := some 40) (v := undef) (a' := ?_) (bq 34 268435455) rfl rfl (any_of HT_.out (by kernel_rfl)) (fun _ _ _ h => h) (Or.inr ⟨by rfl, rfl⟩) ?_ ?_
         rotate_left
         ·
          simp only [Act.put, zSA, zSB, zSC, i64_w, i32_w]
          rfl
         refine pure_ (i := 28) (N := some 41) (v := undef) (a' := ?_) (bq 34 536870911) rfl rfl (any_of HT_.out (by kernel_rfl)) (fun _ _ _ h => h) (Or.inr ⟨by rfl, rfl⟩) ?_ ?_
         rotate_left
         ·
          simp only [Act.put, zSA, zSB, zSC, i64_w, i32_w]
          rfl
         refine pure_ (i := 29) (N := some 42) (v := undef) (a' := ?_) (bq 34 1073741823) rfl rfl (any_of HT_.out (by kernel_rfl)) (fun _ _ _ h => h) (Or.inr ⟨by rfl, rfl⟩) ?_ ?_
         rotate_left
         ·
          simp only [Act.put, zSA, zSB, zSC, i64_w, i32_w]
          rfl
         refine pure_ (i := 30) (N := some 43) (v := undef) (a' := ?_) (bq 34 2147483647) rfl rfl (any_of HT_.out (by kernel_rfl)) (fun _ _ _ h => h) (Or.inr ⟨by rfl, rfl⟩) ?_ ?_
         rotate_left
         ·
          simp only [Act.put, zSA, zSB, zSC, i64_w, i32_w]
          rfl
         refine pure_ (i := 31) (N := some 44) (v := undef) (a' := ?_) (bq 34 4294967295) rfl rfl (any_of HT_.out (by kernel_rfl)) (fun _ _ _ h => h) (Or.inr ⟨by rfl, rfl⟩) ?_ ?_
         rotate_left
         ·
          simp only [Act.put, zSA, zSB, zSC, i64_w, i32_w]
          rfl
         refine pure_ (i := 32) (N := some 45) (v := undef) (a' := ?_) (bq 34 8589934591) rfl rfl (any_of HT_.out (by kernel_rfl)) (fun _ _ _ h => h) (Or.inr ⟨by rfl, rfl⟩) ?_ ?_
         rotate_left
         ·
          simp only [Act.put, zSA, zSB, zSC, i64_w, i32_w]
          rfl
         refine pure_ (i := 33) (N := some 46) (v := ?_) (a' := ?_) (bq 34 17179869183) rfl rfl (any_of HT_.out (by kernel_rfl)) (fun _ _ _ h => h) (Or.inl ⟨by rfl, ?_⟩) ?_ ?_; rotate_left; (intro w'; go_simp; (with_reducible rfl)); rotate_left; (simp only [Act.put, zSA, zSB, zSC, i64_w, i32_w]; rfl)
         refine done_ (done_of HT_.out (by kernel_rfl)) ?_
         try go_wp2
         go_ret
         exact ⟨by first | rfl | (simp [errW_none, errW_some] <;> rfl) | (simp [*, errW_none, errW_some] <;> rfl), by repeat (first | (with_reducible first | exact HB.out | apply below_alloc | apply pw_below_drewN | apply below_drew1 | refine below_set ?_ GE311.out | refine below_set ?_ GE314.out) | exact HB.out)⟩
      ·
       replace c8 := Bool.eq_false_iff.mpr c8
       subst c8
       have H1 : (some false) = some r := by rw [if_neg (show ¬ (false = true) by decide)] at H; exact H
       clear H
       have H := H1
       clear H1
       obtain rfl := Option.some.inj H
       have p313 : 0 ≤ (x8_1 : Int) := of_decide_eq_true (by first | (with_reducible assumption) | assumption)
       have q313 : x8_1 < (l0_1.length : Int) := of_decide_eq_true (by first | (with_reducible assumption) | assumption)
       obtain ⟨ad313, A313_1, c313_1, e313, hx313_0, hx313_1, hl313_1, hi313_1⟩ := at_T102 HR0_1.out x8_1 p313 q313
       cases e313
       try have hz_hx313_0 := aM hx313_0
       try have hz_hx313_1 := aM hx313_1
       replace hx313_0 := (HB.out.cell (World.block_lt_of_cell? w _ hx313_0)).trans hx313_0
       replace hx313_1 := (HB.out.cell (World.block_lt_of_cell? w _ hx313_1)).trans hx313_1
       have HR313_1 := aM hi313_1
       have HC313_1 := aM hl313_1
       clear hi313_1 hl313_1
       replace p313 := eq_true p313
       replace q313 := eq_true q313
       try go_wp2_with (((with_reducible refine gate_dst (N := 4) rfl ?_); (try (refine gate_guard (by rfl) ?_; dsimp only)); refine box_event ?hg (N := 4) ?hd (cs := #[.string (⟨#[]⟩ : ByteArray), .slice none 0 0]) (t := 102) ?hr ?_; (case hd => rfl); (case hg => rfl); (case hr => first | (go_simp; done) | (go_simp; rfl)); intro gb314 hg w51 hbox hb; have n0_ := aM (blk_below (g := gb311) (o := .cells #[.int .i64 a0_0, .slice (some ad313) l0_1.length c0_1] 33 (0, 0)) (gK BK311.out) hb); have n1_ := aM (below_step (gB HB.out) hb); have n2_ := aM (hbox); have n3_ := aM ((by rw [hg]; exact (below_size (gB HB.out)) : w.heap.size ≤ gb314)); have n4_ := aM ((by rw [hg]; exact (below_size (gB HB.out)) : w.heap.size ≤ gb314)); have n5_ := aM ((by rw [hg]; exact Nat.ne_of_lt (blk_lt (g := gb311) (o := .cells #[.int .i64 a0_0, .slice (some ad313) l0_1.length c0_1] 33 (0, 0)) (gK BK311.out)) : gb311 ≠ gb314)); have n6_ := aM ((by rw [hg]; exact Nat.ne_of_gt (blk_lt (g := gb311) (o := .cells #[.int .i64 a0_0, .slice (some ad313) l0_1.length c0_1] 33 (0, 0)) (gK BK311.out)) : gb314 ≠ gb311)); clear BK311; clear HB; have BK311 := n0_; have HB := n1_; have BK314 := n2_; have GW314 := n3_; have GE314 := n4_; have NB311_314 := n5_; have NB314_311 := n6_; clear n0_ n1_ n2_ n3_ n4_ n5_ n6_; clear hb hbox hg; have hnb52 := NB314_311.out; have hnc52 := NB311_314.out; have hcz53_0 : w51.cell? ⟨gb314, 0, none⟩ = some (.string (⟨#[]⟩ : ByteArray)) := (blk_cell BK314.out 0).trans rfl; have hcz53_1 : w51.cell? ⟨gb314, 1, none⟩ = some (.slice none 0 0) := (blk_cell BK314.out 1).trans rfl; have hfz53_0 := blk_frozen BK314.out 0; have hfz53_1 := blk_frozen BK314.out 1))
       have n0_ : Aside0 (((w51.setCell ⟨gb314, 0, none⟩ (.string ((rd_T102 l0_1 x8_1).f0))).setCell ⟨gb314, 1, none⟩ (.slice A313_1 ((rd_T102 l0_1 x8_1).f1).length c313_1)).heap[gb311]? = some (.cells #[.int .i64 a0_0, .slice (some ad313) l0_1.length c0_1] 33 (0, 0))) := ⟨by (with_reducible repeat (first | refine blk_drewN ?_ _ | refine blk_drew ?_ | refine blk_alloc ?_ _)); refine blk_far ?_ NB311_314.out _; (with_reducible repeat (first | refine blk_drewN ?_ _ | refine blk_drew ?_ | refine blk_alloc ?_ _)); refine blk_far ?_ NB311_314.out _; (with_reducible repeat (first | refine blk_drewN ?_ _ | refine blk_drew ?_ | refine blk_alloc ?_ _)); exact BK311.out⟩
       have n1_ : Aside0 (((w51.setCell ⟨gb314, 0, none⟩ (.string ((rd_T102 l0_1 x8_1).f0))).setCell ⟨gb314, 1, none⟩ (.slice A313_1 ((rd_T102 l0_1 x8_1).f1).length c313_1)).heap[gb314]? = some (.cells #[.string ((rd_T102 l0_1 x8_1).f0), .slice A313_1 ((rd_T102 l0_1 x8_1).f1).length c313_1] 102 (0, 0))) := ⟨by (with_reducible repeat (first | refine blk_drewN ?_ _ | refine blk_drew ?_ | refine blk_alloc ?_ _)); refine blk_put (cs := #[.string ((rd_T102 l0_1 x8_1).f0), .slice none 0 0]) ?_ 1 _ rfl; (with_reducible repeat (first | refine blk_drewN ?_ _ | refine blk_drew ?_ | refine blk_alloc ?_ _)); refine blk_put (cs := #[.string (⟨#[]⟩ : ByteArray), .slice none 0 0]) ?_ 0 _ rfl; (with_reducible repeat (first | refine blk_drewN ?_ _ | refine blk_drew ?_ | refine blk_alloc ?_ _)); exact BK314.out⟩
       have n2_ : Aside0 (Below w.heap.size w ((w51.setCell ⟨gb314, 0, none⟩ (.string ((rd_T102 l0_1 x8_1).f0))).setCell ⟨gb314, 1, none⟩ (.slice A313_1 ((rd_T102 l0_1 x8_1).f1).length c313_1))) := ⟨by repeat (first | (with_reducible first | exact HB.out | apply below_alloc | apply pw_below_drewN | apply below_drew1 | refine below_set ?_ GE311.out | refine below_set ?_ GE314.out) | exact HB.out)⟩
       (try clear BK311)
       (try clear BK314)
       (try clear HB)
       generalize ((w51.setCell ⟨gb314, 0, none⟩ (.string ((rd_T102 l0_1 x8_1).f0))).setCell ⟨gb314, 1, none⟩ (.slice A313_1 ((rd_T102 l0_1 x8_1).f1).length c313_1)) = w54 at n0_ n1_ n2_ ⊢
       have BK311 := n0_
       have BK314 := n1_
       have HB := n2_
       clear n0_ n1_ n2_
       have n0_ := aM (blk_drew BK311.out)
       have n1_ := aM (blk_drew BK314.out)
       have n2_ := aM (below_drew1 HB.out)
       clear BK311
       clear BK314
       clear HB
       have BK311 := n0_
       have BK314 := n1_
       have HB := n2_
       clear n0_ n1_ n2_
       refine start_ (n := 34) (S := fun w' => w'.cell? ⟨gb314, 0, none⟩ = some (.string ((rd_T102 l0_1 x8_1).f0)) ∧ w'.cell? ⟨gb314, 1, none⟩ = some (.slice A313_1 ((rd_T102 l0_1 x8_1).f1).length c313_1)) (ds := []) (bq 34 0) (by kernel_rfl) rfl (by kernel_rfl) ⟨(blk_cell BK314.out 0).trans rfl, (blk_cell BK314.out 1).trans rfl⟩ (fun hHeld => ?_); refine with_tabW spec_GoodWords.tab4 spec_GoodWords.bits4 (fun HT_ HW_ => ?_)
       generalize w54.drew = w55 at BK311 BK314 HB hHeld ⊢
       refine pure_ (i := 0) (N := some 13) (v := ?_) (a' := ?_) (bq 34 1) rfl rfl (any_of HT_.out (by kernel_rfl)) (fun _ _ _ h => h) (Or.inl ⟨by rfl, ?_⟩) ?_ ?_; rotate_left; (intro w'; go_simp; (with_reducible rfl)); rotate_left; (simp only [Act.put, zSA, zSB, zSC, i64_w, i32_w]; rfl)
       refine take_ (i := 1) (N := some 14) (v := ?_) (a' := ?_) (bq 34 3) rfl rfl (take_ofW HT_.out HW_.out (by kernel_rfl)) (fun _ _ _ h => h) (Or.inl ⟨by rfl, ?_⟩) hHeld ?_ ?_; rotate_left; (rintro w' ⟨s0, s1⟩; go_simp; (with_reducible rfl)); rotate_left; (simp only [Act.put, zSA, zSB, zSC, i64_w, i32_w]; rfl)
       refine one_ (i := 2) (N := some 15) (bq 34 7) rfl rfl (one_of HT_.out (by kernel_rfl)) (by decide) (fun K hK => ?_)
       refine goes_ Try.func94 (by kernel_rfl) rfl #[.string ((rd_T102 l0_1 x8_1).f0)] (by rfl) rfl rfl (by (try simp only [List.map_toArray, List.map_cons, List.map_nil]); first | done | rfl | (simp only [List.length_drop, List.length_take]; rfl)) ?_
       with_reducible refine (spec_l10Word.calls k1 ((rd_T102 l0_1 x8_1).f0) false _ A7.out).mono ?_
       rintro e w56 ⟨rfl, hb⟩
       refine ⟨_, rfl, ?_⟩
       have n0_ := aM (blk_below (g := gb311) (o := .cells #[.int .i64 a0_0, .slice (some ad313) l0_1.length c0_1] 33 (0, 0)) (gK BK311.out) hb)
       have n1_ := aM (blk_below (g := gb314) (o := .cells #[.string ((rd_T102 l0_1 x8_1).f0), .slice A313_1 ((rd_T102 l0_1 x8_1).f1).length c313_1] 102 (0, 0)) (gK BK314.out) hb)
       have n2_ := aM (below_step (gB HB.out) hb)
       clear BK311
       clear BK314
       clear HB
       have BK311 := n0_
       have BK314 := n1_
       have HB := n2_
       clear n0_ n1_ n2_
       (try clear hb)
       (try clear hb2)
       (try clear hk)
       (try clear hi)
       refine hK.out _ _ ⟨(blk_cell BK314.out 0).trans rfl, (blk_cell BK314.out 1).trans rfl⟩ (fun hHeld => ?_)
       clear hK K
       refine norm_ (a' := ?_) ?_ ?_
       rotate_left
       ·
        show Act.put _ (some 15) _ = _
        simp only [Act.put, zSA, zSB, zSC, i64_w, i32_w]
        rfl
       refine pure_ (i := 3) (N := some 16) (v := ?_) (a' := ?_) (bq 34 15) rfl rfl (any_of HT_.out (by kernel_rfl)) (fun _ _ _ h => h) (Or.inl ⟨by rfl, ?_⟩) ?_ ?_; rotate_left; (intro w'; go_simp; (with_reducible rfl)); rotate_left; (simp only [Act.put, zSA, zSB, zSC, i64_w, i32_w]; rfl)
       refine pure_ (i := 4) (N := some 17) (v := ?_) (a' := ?_) (bq 34 31) rfl rfl (any_of HT_.out (by kernel_rfl)) (fun _ _ _ h => h) (Or.inl ⟨by rfl, ?_⟩) ?_ ?_; rotate_left; (intro w'; go_simp; (with_reducible rfl)); rotate_left; (simp only [Act.put, zSA, zSB, zSC, i64_w, i32_w]; rfl)
       refine pure_ (i := 5) (N := some 18) (v := undef) (a' := ?_) (bq 34 63) rfl rfl (any_of HT_.out (by kernel_rfl)) (fun _ _ _ h => h) (Or.inr ⟨by rfl, rfl⟩) ?_ ?_
       rotate_left
       ·
        simp only [Act.put, zSA, zSB, zSC, i64_w, i32_w]
        rfl
       refine pure_ (i := 6) (N := some 19) (v := undef) (a' := ?_) (bq 34 127) rfl rfl (any_of HT_.out (by kernel_rfl)) (fun _ _ _ h => h) (Or.inr ⟨by rfl, rfl⟩) ?_ ?_
       rotate_left
       ·
        simp only [Act.put, zSA, zSB, zSC, i64_w, i32_w]
        rfl
       refine pure_ (i := 7) (N := some 20) (v := undef) (a' := ?_) (bq 34 255) rfl rfl (any_of HT_.out (by kernel_rfl)) (fun _ _ _ h => h) (Or.inr ⟨by rfl, rfl⟩) ?_ ?_
       rotate_left
       ·
        simp only [Act.put, zSA, zSB, zSC, i64_w, i32_w]
        rfl
       refine pure_ (i := 8) (N := some 21) (v := undef) (a' := ?_) (bq 34 511) rfl rfl (any_of HT_.out (by kernel_rfl)) (fun _ _ _ h => h) (Or.inr ⟨by rfl, rfl⟩) ?_ ?_
       rotate_left
       ·
        simp only [Act.put, zSA, zSB, zSC, i64_w, i32_w]
        rfl
       refine pure_ (i := 9) (N := some 22) (v := ?_) (a' := ?_) (bq 34 1023) rfl rfl (any_of HT_.out (by kernel_rfl)) (fun _ _ _ h => h) (Or.inl ⟨by rfl, ?_⟩) ?_ ?_; rotate_left; (intro w'; go_simp; (with_reducible rfl)); rotate_left; (simp only [Act.put, zSA, zSB, zSC, i64_w, i32_w]; rfl)
       refine pure_ (i := 10) (N := some 23) (v := ?_) (a' := ?_) (bq 34 2047) rfl rfl (any_of HT_.out (by kernel_rfl)) (fun _ _ _ h => h) (Or.inl ⟨by rfl, ?_⟩) ?_ ?_; rotate_left; (intro w'; go_simp; (with_reducible rfl)); rotate_left; (simp only [Act.put, zSA, zSB, zSC, i64_w, i32_w]; rfl)
       refine pure_ (i := 11) (N := some 24) (v := undef) (a' := ?_) (bq 34 4095) rfl rfl (any_of HT_.out (by kernel_rfl)) (fun _ _ _ h => h) (Or.inr ⟨by rfl, rfl⟩) ?_ ?_
       rotate_left
       ·
        simp only [Act.put, zSA, zSB, zSC, i64_w, i32_w]
        rfl
       refine pure_ (i := 12) (N := some 25) (v := undef) (a' := ?_) (bq 34 8191) rfl rfl (any_of HT_.out (by kernel_rfl)) (fun _ _ _ h => h) (Or.inr ⟨by rfl, rfl⟩) ?_ ?_
       rotate_left
       ·
        simp only [Act.put, zSA, zSB, zSC, i64_w, i32_w]
        rfl
       refine pure_ (i := 13) (N := some 26) (v := undef) (a' := ?_) (bq 34 16383) rfl rfl (any_of HT_.out (by kernel_rfl)) (fun _ _ _ h => h) (Or.inr ⟨by rfl, rfl⟩) ?_ ?_
       rotate_left
       ·
        simp only [Act.put, zSA, zSB, zSC, i64_w, i32_w]
        rfl
       refine pure_ (i := 14) (N := some 27) (v := undef) (a' := ?_) (bq 34 32767) rfl rfl (any_of HT_.out (by kernel_rfl)) (fun _ _ _ h => h) (Or.inr ⟨by rfl, rfl⟩) ?_ ?_
       rotate_left
       ·
        simp only [Act.put, zSA, zSB, zSC, i64_w, i32_w]
        rfl
       refine pure_ (i := 15) (N := some 28) (v := undef) (a' := ?_) (bq 34 65535) rfl rfl (any_of HT_.out (by kernel_rfl)) (fun _ _ _ h => h) (Or.inr ⟨by rfl, rfl⟩) ?_ ?_
       rotate_left
       ·
        simp only [Act.put, zSA, zSB, zSC, i64_w, i32_w]
        rfl
       refine pure_ (i := 16) (N := some 29) (v := undef) (a' := ?_) (bq 34 131071) rfl rfl (any_of HT_.out (by kernel_rfl)) (fun _ _ _ h => h) (Or.inr ⟨by rfl, rfl⟩) ?_ ?_
       rotate_left
       ·
        simp only [Act.put, zSA, zSB, zSC, i64_w, i32_w]
        rfl
       refine pure_ (i := 17) (N := some 30) (v := ?_) (a' := ?_) (bq 34 262143) rfl rfl (any_of HT_.out (by kernel_rfl)) (fun _ _ _ h => h) (Or.inl ⟨by rfl, ?_⟩) ?_ ?_; rotate_left; (intro w'; go_simp; (with_reducible rfl)); rotate_left; (simp only [Act.put, zSA, zSB, zSC, i64_w, i32_w]; rfl)
       refine pure_ (i := 18) (N := some 31) (v := ?_) (a' := ?_) (bq 34 524287) rfl rfl (any_of HT_.out (by kernel_rfl)) (fun _ _ _ h => h) (Or.inl ⟨by rfl, ?_⟩) ?_ ?_; rotate_left; (intro w'; go_simp; (with_reducible rfl)); rotate_left; (simp only [Act.put, zSA, zSB, zSC, i64_w, i32_w]; rfl)
       refine pure_ (i := 19) (N := some 32) (v := undef) (a' := ?_) (bq 34 1048575) rfl rfl (any_of HT_.out (by kernel_rfl)) (fun _ _ _ h => h) (Or.inr ⟨by rfl, rfl⟩) ?_ ?_
       rotate_left
       ·
        simp only [Act.put, zSA, zSB, zSC, i64_w, i32_w]
        rfl
       refine pure_ (i := 20) (N := some 33) (v := undef) (a' := ?_) (bq 34 2097151) rfl rfl (any_of HT_.out (by kernel_rfl)) (fun _ _ _ h => h) (Or.inr ⟨by rfl, rfl⟩) ?_ ?_
       rotate_left
       ·
        simp only [Act.put, zSA, zSB, zSC, i64_w, i32_w]
        rfl
       refine pure_ (i := 21) (N := some 34) (v := undef) (a' := ?_) (bq 34 4194303) rfl rfl (any_of HT_.out (by kernel_rfl)) (fun _ _ _ h => h) (Or.inr ⟨by rfl, rfl⟩) ?_ ?_
       rotate_left
       ·
        simp only [Act.put, zSA, zSB, zSC, i64_w, i32_w]
        rfl
       refine pure_ (i := 22) (N := some 35) (v := undef) (a' := ?_) (bq 34 8388607) rfl rfl (any_of HT_.out (by kernel_rfl)) (fun _ _ _ h => h) (Or.inr ⟨by rfl, rfl⟩) ?_ ?_
       rotate_left
       ·
        simp only [Act.put, zSA, zSB, zSC, i64_w, i32_w]
        rfl
       refine pure_ (i := 23) (N := some 36) (v := undef) (a' := ?_) (bq 34 16777215) rfl rfl (any_of HT_.out (by kernel_rfl)) (fun _ _ _ h => h) (Or.inr ⟨by rfl, rfl⟩) ?_ ?_
       rotate_left
       ·
        simp only [Act.put, zSA, zSB, zSC, i64_w, i32_w]
        rfl
       refine pure_ (i := 24) (N := some 37) (v := undef) (a' := ?_) (bq 34 33554431) rfl rfl (any_of HT_.out (by kernel_rfl)) (fun _ _ _ h => h) (Or.inr ⟨by rfl, rfl⟩) ?_ ?_
       rotate_left
       ·
        simp only [Act.put, zSA, zSB, zSC, i64_w, i32_w]
        rfl
       refine pure_ (i := 25) (N := some 38) (v := undef) (a' := ?_) (bq 34 67108863) rfl rfl (any_of HT_.out (by kernel_rfl)) (fun _ _ _ h => h) (Or.inr ⟨by rfl, rfl⟩) ?_ ?_
       rotate_left
       ·
        simp only [Act.put, zSA, zSB, zSC, i64_w, i32_w]
        rfl
       refine pure_ (i := 26) (N := some 39) (v := undef) (a' := ?_) (bq 34 134217727) rfl rfl (any_of HT_.out (by kernel_rfl)) (fun _ _ _ h => h) (Or.inr ⟨by rfl, rfl⟩) ?_ ?_
       rotate_left
       ·
        simp only [Act.put, zSA, zSB, zSC, i64_w, i32_w]
        rfl
       refine pure_ (i := 27) (N := some 40) (v := undef) (a' := ?_) (bq 34 268435455) rfl rfl (any_of HT_.out (by kernel_rfl)) (fun _ _ _ h => h) (Or.inr ⟨by rfl, rfl⟩) ?_ ?_
       rotate_left
       ·
        simp only [Act.put, zSA, zSB, zSC, i64_w, i32_w]
        rfl
       refine pure_ (i := 28) (N := some 41) (v := undef) (a' := ?_) (bq 34 536870911) rfl rfl (any_of HT_.out (by kernel_rfl)) (fun _ _ _ h => h) (Or.inr ⟨by rfl, rfl⟩) ?_ ?_
       rotate_left
       ·
        simp only [Act.put, zSA, zSB, zSC, i64_w, i32_w]
        rfl
       refine pure_ (i := 29) (N := some 42) (v := undef) (a' := ?_) (bq 34 1073741823) rfl rfl (any_of HT_.out (by kernel_rfl)) (fun _ _ _ h => h) (Or.inr ⟨by rfl, rfl⟩) ?_ ?_
       rotate_left
       ·
        simp only [Act.put, zSA, zSB, zSC, i64_w, i32_w]
        rfl
       refine pure_ (i := 30) (N := some 43) (v := undef) (a' := ?_) (bq 34 2147483647) rfl rfl (any_of HT_.out (by kernel_rfl)) (fun _ _ _ h => h) (Or.inr ⟨by rfl, rfl⟩) ?_ ?_
       rotate_left
       ·
        simp only [Act.put, zSA, zSB, zSC, i64_w, i32_w]
        rfl
       refine pure_ (i := 31) (N := some 44) (v := undef) (a' := ?_) (bq 34 4294967295) rfl rfl (any_of HT_.out (by kernel_rfl)) (fun _ _ _ h => h) (Or.inr ⟨by rfl, rfl⟩) ?_ ?_
       rotate_left
       ·
        simp only [Act.put, zSA, zSB, zSC, i64_w, i32_w]
        rfl
       refine pure_ (i := 32) (N := some 45) (v := undef) (a' := ?_) (bq 34 8589934591) rfl rfl (any_of HT_.out (by kernel_rfl)) (fun _ _ _ h => h) (Or.inr ⟨by rfl, rfl⟩) ?_ ?_
       rotate_left
       ·
        simp only [Act.put, zSA, zSB, zSC, i64_w, i32_w]
        rfl
       refine pure_ (i := 33) (N := some 46) (v := ?_) (a' := ?_) (bq 34 17179869183) rfl rfl (any_of HT_.out (by kernel_rfl)) (fun _ _ _ h => h) (Or.inl ⟨by rfl, ?_⟩) ?_ ?_; rotate_left; (intro w'; go_simp; (with_reducible rfl)); rotate_left; (simp only [Act.put, zSA, zSB, zSC, i64_w, i32_w]; rfl)
       refine done_ (done_of HT_.out (by kernel_rfl)) ?_
       try go_wp2
       go_ret
       exact ⟨by first | rfl | (simp [errW_none, errW_some] <;> rfl) | (simp [*, errW_none, errW_some] <;> rfl), by repeat (first | (with_reducible first | exact HB.out | apply below_alloc | apply pw_below_drewN | apply below_drew1 | refine below_set ?_ GE311.out | refine below_set ?_ GE314.out) | exact HB.out)⟩
     ·
      rw [if_neg c6] at H
      exact absurd H (by simp)
    ·
     rw [if_neg c5] at H
     exact absurd H (by simp)
   ·
    rw [if_neg c4] at H
    have c4b0 : decide (x8_1 < (l0_1.length : Int)) = false := decide_eq_false c4
    clear c4
    replace H := Option.bind_eq_some_iff.mp H
    obtain ⟨t312, A570, H⟩ := H
    replace H : (if t312 = true then (some (decide ((l0_1.length : Int) ≤ 200))) else (some false)) = some r := H
    have A57 := aM A570
    clear A570
    by_cases c58 : t312 = true
    ·
     subst c58
     have H1 : (some (decide ((l0_1.length : Int) ≤ 200))) = some r := by rw [if_pos rfl] at H; exact H
     clear H
     have H := H1
     clear H1
     obtain rfl := Option.some.inj H
     have hcz59_0 : wr.cell? ⟨gb311, 0, none⟩ = some (.int .i64 a0_0) := (blk_cell BK311.out 0).trans rfl
     have hcz59_1 : wr.cell? ⟨gb311, 1, none⟩ = some (.slice A0_1 l0_1.length c0_1) := (blk_cell BK311.out 1).trans rfl
     have hfz59_0 := blk_frozen BK311.out 0
     have hfz59_1 := blk_frozen BK311.out 1
     go_wp2_with (((with_reducible refine gate_callee (f := 96) rfl ?_); refine goesL_ (some 50) rfl rfl Try.func96 (by kernel_rfl) rfl #[.int .i64 a0_0, .int .i64 0, .int .i64 40] rfl (by (try simp only [List.map_toArray, List.map_cons, List.map_nil]); first | done | rfl | (simp only [List.length_drop, List.length_take]; rfl)) ?_; (with_reducible refine (spec_l1In.calls a0_0 0 40 true _ A57.out).mono ?_); rintro e w' ⟨rfl, ⟨nd, rfl⟩⟩; refine ⟨_, rfl, ?_⟩))
     go_ret
     exact ⟨by first | rfl | (simp [errW_none, errW_some] <;> rfl) | (simp [*, errW_none, errW_some] <;> rfl), by repeat (first | (with_reducible first | exact HB.out | apply below_alloc | apply pw_below_drewN | apply below_drew1 | refine below_set ?_ GE311.out) | exact HB.out)⟩
    ·
     replace c58 := Bool.eq_false_iff.mpr c58
     subst c58
     have H1 : (some false) = some r := by rw [if_neg (show ¬ (false = true) by decide)] at H; exact H
     clear H
     have H := H1
     clear H1
     obtain rfl := Option.some.inj H
     have hcz60_0 : wr.cell? ⟨gb311, 0, none⟩ = some (.int .i64 a0_0) := (blk_cell BK311.out 0).trans rfl
     have hcz60_1 : wr.cell? ⟨gb311, 1, none⟩ = some (.slice A0_1 l0_1.length c0_1) := (blk_cell BK311.out 1).trans rfl
     have hfz60_0 := blk_frozen BK311.out 0
     have hfz60_1 := blk_frozen BK311.out 1
     go_wp2_with (((with_reducible refine gate_callee (f := 96) rfl ?_); refine goesL_ (some 50) rfl rfl Try.func96 (by kernel_rfl) rfl #[.int .i64 a0_0, .int .i64 0, .int .i64 40] rfl (by (try simp only [List.map_toArray, List.map_cons, List.map_nil]); first | done | rfl | (simp only [List.length_drop, List.length_take]; rfl)) ?_; (with_reducible refine (spec_l1In.calls a0_0 0 40 false _ A57.out).mono ?_); rintro e w' ⟨rfl, ⟨nd, rfl⟩⟩; refine ⟨_, rfl, ?_⟩))
     go_ret
     exact ⟨by first | rfl | (simp [errW_none, errW_some] <;> rfl) | (simp [*, errW_none, errW_some] <;> rfl), by repeat (first | (with_reducible first | exact HB.out | apply below_alloc | apply pw_below_drewN | apply below_drew1 | refine below_set ?_ GE311.out) | exact HB.out)⟩

end Go.Proofs.Ytaomjndfjmfelaa.PQ
end

section
namespace Go.Proofs.Ytaomjndfjmfelaa.PQ
open Go.RowKit Go.Proofs.YtaomjndfjmfelaaW.PrintWords Go.Proofs.YtaomjndfjmfelaaW.PrintLast Go.Proofs.YtaomjndfjmfelaaW.PrintMore
attribute [local go_sem] max2_int min2_int max_two min_two max_three min_three max_four min_four
set_option linter.unusedVariables false
set_option linter.unusedSimpArgs false

def spec_RankTexts.j0 : Nat → List ByteArray → Int → Bool → Int → List (S102) → Option ((List (S79)) × Bool)
 | 0, _, _, _, _, _ => none
 | k + 1, x1, x2, x20, x781000, x781001 => if x20 = true then (some (([] : List (S79)), false)) else ((spec_l11Rankings.f k x781000 x781001 x1).bind fun t784 => ((spec_l11All.f k t784 x2).bind fun t787 => (some (t787, true))))
def spec_RankTexts.f (k : Nat) (a0_0 : Int) (l0_1 : List (S102)) (l1 : List ByteArray) (a2 : Int) : Option ((List (S79)) × Bool) := (spec_GoodWords.f k a0_0 l0_1).bind fun t781 => (if t781 = true then ((spec_l11Distinct.f k l1).bind fun t782 => (if t782 = true then ((spec_l1In.f a2 0 60).bind fun t783 => (spec_RankTexts.j0 k l1 a2 (!t783) a0_0 l0_1)) else (spec_RankTexts.j0 k l1 a2 true a0_0 l0_1))) else (spec_RankTexts.j0 k l1 a2 true a0_0 l0_1))
set_option maxHeartbeats 8000000 in
set_option maxRecDepth 100000 in
theorem spec_RankTexts.calls (k : Nat) (a0_0 : Int) (A0_1 : Option Addr) (c0_1 : Nat) (l0_1 : List (S102)) (A1 : Option Addr) (c1 : Nat) (l1 : List ByteArray) (a2 : Int) (r1 : List (S79)) (r2 : Bool) (w : World) (hr0_1 : Kd.C k102 w A0_1 l0_1.length l0_1) (hc0_1 : l0_1.length ≤ c0_1) (hr1 : Kd.C Kd.string w A1 l1.length l1) (hc1 : l1.length ≤ c1) (h : spec_RankTexts.f k a0_0 l0_1 l1 a2 = some (r1, r2)) :
  Calls Try.prog 66 #[.agg #[.int .i64 a0_0, .slice A0_1 l0_1.length c0_1], .slice A1 l1.length c1, .int .i64 a2] w fun e w' => ∃ v0_ : Value, e = .returned (.tuple #[v0_, .bool r2]) ∧ Kd.R k79 79 w' w.heap.size (fun _ => True) v0_ r1 ∧ Below w.heap.size w w' := by
 have hu33 := Try.underlying33
 have HR0_1 := aM hr0_1
 have HC0_1 := aM hc0_1
 clear hr0_1 hc0_1
 have HR1 := aM hr1
 have HC1 := aM hc1
 clear hr1 hc1
 have HB := aM (Below.refl w.heap.size w)
 have H : ((spec_GoodWords.f k a0_0 l0_1).bind fun t781 => (if t781 = true then ((spec_l11Distinct.f k l1).bind fun t782 => (if t782 = true then ((spec_l1In.f a2 0 60).bind fun t783 => (spec_RankTexts.j0 k l1 a2 (!t783) a0_0 l0_1)) else (spec_RankTexts.j0 k l1 a2 true a0_0 l0_1))) else (spec_RankTexts.j0 k l1 a2 true a0_0 l0_1))) = some (r1, r2) := h
 clear h
 have HC4 := aM H
 clear H
 go_enter Try.func66, Try.ntmps66
 go_upto_region 1 with (((with_reducible refine gate_dst (N := 3) rfl ?_); refine box_event ?hg (N := 3) ?hd (cs := #[.int .i64 a0_0, .slice A0_1 l0_1.length c0_1]) (t := 33) ?hr ?_; (case hd => rfl); (case hg => rfl); (case hr => first | (go_simp; done) | (go_simp; rfl)); intro gb780 hg w5 hbox hb; have n0_ := aM (below_step (gB HB.out) hb); have n1_ := aM (hbox); have n2_ := aM ((by rw [hg]; exact (below_size (gB HB.out)) : w.heap.size ≤ gb780)); have n3_ := aM ((by rw [hg]; exact (below_size (gB HB.out)) : w.heap.size ≤ gb780)); clear HB; have HB := n0_; have BK780 := n1_; have GW780 := n2_; have GE780 := n3_; clear n0_ n1_ n2_ n3_; clear hb hbox hg))
 (try simp only [Act.put, zSA, zSB, zSC])
 go_cut [20] (fun v20 wc => ∃ (kq : Nat) (x20_3 : Bool), v20 = .bool x20_3 ∧ Aside0 (spec_RankTexts.j0 kq l1 a2 x20_3 a0_0 l0_1 = some (r1, r2)) ∧ Aside0 (kq ≤ k) ∧ Aside0 (wc.heap[gb780]? = some (.cells #[.int .i64 a0_0, (.slice A0_1 l0_1.length c0_1)] 33 (0, 0))) ∧ Aside0 (Below w.heap.size w wc))
 case first =>
  have H := HC4.out
  clear HC4
  replace H := Option.bind_eq_some_iff.mp H
  obtain ⟨t781, A60, H⟩ := H
  replace H : (if t781 = true then ((spec_l11Distinct.f k l1).bind fun t782 => (if t782 = true then ((spec_l1In.f a2 0 60).bind fun t783 => (spec_RankTexts.j0 k l1 a2 (!t783) a0_0 l0_1)) else (spec_RankTexts.j0 k l1 a2 true a0_0 l0_1))) else (spec_RankTexts.j0 k l1 a2 true a0_0 l0_1)) = some (r1, r2) := H
  have A6 := aM A60
  clear A60
  by_cases c7 : t781 = true
  ·
   subst c7
   have H1 : ((spec_l11Distinct.f k l1).bind fun t782 => (if t782 = true then ((spec_l1In.f a2 0 60).bind fun t783 => (spec_RankTexts.j0 k l1 a2 (!t783) a0_0 l0_1)) else (spec_RankTexts.j0 k l1 a2 true a0_0 l0_1))) = some (r1, r2) := by rw [if_pos rfl] at H; exact H
   clear H
   have H := H1
   clear H1
   replace H := Option.bind_eq_some_iff.mp H
   obtain ⟨t782, A80, H⟩ := H
   replace H : (if t782 = true then ((spec_l1In.f a2 0 60).bind fun t783 => (spec_RankTexts.j0 k l1 a2 (!t783) a0_0 l0_1)) else (spec_RankTexts.j0 k l1 a2 true a0_0 l0_1)) = some (r1, r2) := H
   have A8 := aM A80
   clear A80
   by_cases c9 : t782 = true
   ·
    subst c9
    have H1 : ((spec_l1In.f a2 0 60).bind fun t783 => (spec_RankTexts.j0 k l1 a2 (!t783) a0_0 l0_1)) = some (r1, r2) := by rw [if_pos rfl] at H; exact H
    clear H
    have H := H1
    clear H1
    replace H := Option.bind_eq_some_iff.mp H
    obtain ⟨t783, A100, H⟩ := H
    replace H : (spec_RankTexts.j0 k l1 a2 (!t783) a0_0 l0_1) = some (r1, r2) := H
    have A10 := aM A100
    clear A100
    have H' := aM H
    clear H
    have hcz11_0 : w5.cell? ⟨gb780, 0, none⟩ = some (.int .i64 a0_0) := (blk_cell BK780.out 0).trans rfl
    have hcz11_1 : w5.cell? ⟨gb780, 1, none⟩ = some (.slice A0_1 l0_1.length c0_1) := (blk_cell BK780.out 1).trans rfl
    have hfz11_0 := blk_frozen BK780.out 0
    have hfz11_1 := blk_frozen BK780.out 1
    go_wp2_with (first | ((with_reducible refine gate_callee (f := 44) rfl ?_); refine goesL_ (some 9) rfl rfl Try.func44 (by kernel_rfl) rfl #[.agg #[.int .i64 a0_0, .slice A0_1 l0_1.length c0_1]] rfl (by (try simp only [List.map_toArray, List.map_cons, List.map_nil]); first | done | rfl | (simp only [List.length_drop, List.length_take]; rfl)) ?_; (with_reducible refine (spec_GoodWords.calls k a0_0 _ _ l0_1 true _ ?side1 ?side2 A6.out).mono ?_); (case side1 => repeat (first | exact (Kd.C_below HR0_1.out HB.out) | (with_reducible refine Kd.C_alloc ?_ _) | (with_reducible refine Kd.C_drewN ?_ _) | (with_reducible refine Kd.C_drew ?_))); (case side2 => exact HC0_1.out); rintro e w12 ⟨rfl, hb⟩; refine ⟨_, rfl, ?_⟩; have n0_ := aM (blk_below (g := gb780) (o := .cells #[.int .i64 a0_0, .slice A0_1 l0_1.length c0_1] 33 (0, 0)) (gK BK780.out) hb); have n1_ := aM (below_step (gB HB.out) hb); clear BK780; clear HB; have BK780 := n0_; have HB := n1_; clear n0_ n1_; (try clear hb); (try clear hb2); (try clear hk); (try clear hi)) | (go_at_call 114; (try simp only [i64_w]); (with_reducible refine (spec_l11Distinct.calls k _ _ l1 true _ ?side1 ?side2 A8.out).mono ?_); (case side1 => repeat (first | exact (Kd.C_below HR1.out HB.out) | (with_reducible refine Kd.C_alloc ?_ _) | (with_reducible refine Kd.C_drewN ?_ _) | (with_reducible refine Kd.C_drew ?_))); (case side2 => exact HC1.out); rintro e w13 ⟨rfl, hb⟩; have n0_ := aM (blk_below (g := gb780) (o := .cells #[.int .i64 a0_0, .slice A0_1 l0_1.length c0_1] 33 (0, 0)) (gK BK780.out) hb); have n1_ := aM (below_step (gB HB.out) hb); clear BK780; clear HB; have BK780 := n0_; have HB := n1_; clear n0_ n1_; (try clear hb); (try clear hb2); (try clear hk); (try clear hi)) | (go_at_call 96; (try simp only [i64_w]); (with_reducible refine (spec_l1In.calls a2 0 60 t783 _ A10.out).mono ?_); rintro e w' ⟨rfl, ⟨nd, rfl⟩⟩))
    go_meet
    case rel => exact ⟨_, (!t783), (by first | rfl | (simp; done) | (simp [*]; done)), H', ⟨by first | omega | exact Nat.le_refl _⟩, ⟨gK BK780.out⟩, ⟨by repeat (first | (with_reducible first | exact HB.out | apply below_alloc | apply pw_below_drewN | apply below_drew1 | refine below_set ?_ GE780.out) | exact HB.out)⟩⟩
   ·
    replace c9 := Bool.eq_false_iff.mpr c9
    subst c9
    have H1 : (spec_RankTexts.j0 k l1 a2 true a0_0 l0_1) = some (r1, r2) := by rw [if_neg (show ¬ (false = true) by decide)] at H; exact H
    clear H
    have H := H1
    clear H1
    have H' := aM H
    clear H
    have hcz14_0 : w5.cell? ⟨gb780, 0, none⟩ = some (.int .i64 a0_0) := (blk_cell BK780.out 0).trans rfl
    have hcz14_1 : w5.cell? ⟨gb780, 1, none⟩ = some (.slice A0_1 l0_1.length c0_1) := (blk_cell BK780.out 1).trans rfl
    have hfz14_0 := blk_frozen BK780.out 0
    have hfz14_1 := blk_frozen BK780.out 1
    go_wp2_with (first | ((with_reducible refine gate_callee (f := 44) rfl ?_); refine goesL_ (some 9) rfl rfl Try.func44 (by kernel_rfl) rfl #[.agg #[.int .i64 a0_0, .slice A0_1 l0_1.length c0_1]] rfl (by (try simp only [List.map_toArray, List.map_cons, List.map_nil]); first | done | rfl | (simp only [List.length_drop, List.length_take]; rfl)) ?_; (with_reducible refine (spec_GoodWords.calls k a0_0 _ _ l0_1 true _ ?side1 ?side2 A6.out).mono ?_); (case side1 => repeat (first | exact (Kd.C_below HR0_1.out HB.out) | (with_reducible refine Kd.C_alloc ?_ _) | (with_reducible refine Kd.C_drewN ?_ _) | (with_reducible refine Kd.C_drew ?_))); (case side2 => exact HC0_1.out); rintro e w15 ⟨rfl, hb⟩; refine ⟨_, rfl, ?_⟩; have n0_ := aM (blk_below (g := gb780) (o := .cells #[.int .i64 a0_0, .slice A0_1 l0_1.length c0_1] 33 (0, 0)) (gK BK780.out) hb); have n1_ := aM (below_step (gB HB.out) hb); clear BK780; clear HB; have BK780 := n0_; have HB := n1_; clear n0_ n1_; (try clear hb); (try clear hb2); (try clear hk); (try clear hi)) | (go_at_call 114; (try simp only [i64_w]); (with_reducible refine (spec_l11Distinct.calls k _ _ l1 false _ ?side1 ?side2 A8.out).mono ?_); (case side1 => repeat (first | exact (Kd.C_below HR1.out HB.out) | (with_reducible refine Kd.C_alloc ?_ _) | (with_reducible refine Kd.C_drewN ?_ _) | (with_reducible refine Kd.C_drew ?_))); (case side2 => exact HC1.out); rintro e w16 ⟨rfl, hb⟩; have n0_ := aM (blk_below (g := gb780) (o := .cells #[.int .i64 a0_0, .slice A0_1 l0_1.length c0_1] 33 (0, 0)) (gK BK780.out) hb); have n1_ := aM (below_step (gB HB.out) hb); clear BK780; clear HB; have BK780 := n0_; have HB := n1_; clear n0_ n1_; (try clear hb); (try clear hb2); (try clear hk); (try clear hi)))
    go_meet
    case rel => exact ⟨_, (true), (by first | rfl | (simp; done) | (simp [*]; done)), H', ⟨by first | omega | exact Nat.le_refl _⟩, ⟨gK BK780.out⟩, ⟨by repeat (first | (with_reducible first | exact HB.out | apply below_alloc | apply pw_below_drewN | apply below_drew1 | refine below_set ?_ GE780.out) | exact HB.out)⟩⟩
  ·
   replace c7 := Bool.eq_false_iff.mpr c7
   subst c7
   have H1 : (spec_RankTexts.j0 k l1 a2 true a0_0 l0_1) = some (r1, r2) := by rw [if_neg (show ¬ (false = true) by decide)] at H; exact H
   clear H
   have H := H1
   clear H1
   have H' := aM H
   clear H
   have hcz17_0 : w5.cell? ⟨gb780, 0, none⟩ = some (.int .i64 a0_0) := (blk_cell BK780.out 0).trans rfl
   have hcz17_1 : w5.cell? ⟨gb780, 1, none⟩ = some (.slice A0_1 l0_1.length c0_1) := (blk_cell BK780.out 1).trans rfl
   have hfz17_0 := blk_frozen BK780.out 0
   have hfz17_1 := blk_frozen BK780.out 1
   go_wp2_with (((with_reducible refine gate_callee (f := 44) rfl ?_); refine goesL_ (some 9) rfl rfl Try.func44 (by kernel_rfl) rfl #[.agg #[.int .i64 a0_0, .slice A0_1 l0_1.length c0_1]] rfl (by (try simp only [List.map_toArray, List.map_cons, List.map_nil]); first | done | rfl | (simp only [List.length_drop, List.length_take]; rfl)) ?_; (with_reducible refine (spec_GoodWords.calls k a0_0 _ _ l0_1 false _ ?side1 ?side2 A6.out).mono ?_); (case side1 => repeat (first | exact (Kd.C_below HR0_1.out HB.out) | (with_reducible refine Kd.C_alloc ?_ _) | (with_reducible refine Kd.C_drewN ?_ _) | (with_reducible refine Kd.C_drew ?_))); (case side2 => exact HC0_1.out); rintro e w18 ⟨rfl, hb⟩; refine ⟨_, rfl, ?_⟩; have n0_ := aM (blk_below (g := gb780) (o := .cells #[.int .i64 a0_0, .slice A0_1 l0_1.length c0_1] 33 (0, 0)) (gK BK780.out) hb); have n1_ := aM (below_step (gB HB.out) hb); clear BK780; clear HB; have BK780 := n0_; have HB := n1_; clear n0_ n1_; (try clear hb); (try clear hb2); (try clear hk); (try clear hi)))
   go_meet
   case rel => exact ⟨_, (true), (by first | rfl | (simp; done) | (simp [*]; done)), H', ⟨by first | omega | exact Nat.le_refl _⟩, ⟨gK BK780.out⟩, ⟨by repeat (first | (with_reducible first | exact HB.out | apply below_alloc | apply pw_below_drewN | apply below_drew1 | refine below_set ?_ GE780.out) | exact HB.out)⟩⟩
 case rest =>
  clear HC4
  try clear c1
  try clear p2
  try clear c4
  try clear c6
  try clear c7
  try clear c9
  try clear hcz11_0
  try clear hcz11_1
  try clear hcz14_0
  try clear hcz14_1
  try clear hcz17_0
  try clear hcz17_1
  try clear hfz11_0
  try clear hfz11_1
  try clear hfz14_0
  try clear hfz14_1
  try clear hfz17_0
  try clear hfz17_1
  obtain ⟨kq, x20_3, rfl, HA, HJ3, BK780, HB⟩ := hcut
  cases kq with
  | zero => exact absurd HA.out (by simp [spec_RankTexts.j0])
  | succ kj3 =>
   have H := HA.out
   clear HA
   simp only [spec_RankTexts.j0] at H
   by_cases c19 : x20_3 = true
   ·
    subst c19
    have H1 : (some (([] : List (S79)), false)) = some (r1, r2) := by rw [if_pos rfl] at H; exact H
    clear H
    have H := H1
    clear H1
    simp only [Option.some.injEq, Prod.mk.injEq] at H
    obtain ⟨rfl, rfl⟩ := H
    go_wp2
    go_ret2
    exact ⟨_, by first | rfl | (simp [errW_none, errW_some] <;> rfl) | (simp [*, errW_none, errW_some] <;> rfl), by first | exact Kd.R_nil _ _ _ _ _ | exact Kd.N_nil _ _ _ _ _ | exact Kd.V_nil _ _ _ _ _ | exact Kd.Q_nil _ _ _ _ _ | exact Kd.S_nil _ _ _ _ _, by repeat (first | (with_reducible first | exact HB.out | apply below_alloc | apply pw_below_drewN | apply below_drew1 | refine below_set ?_ GE780.out) | exact HB.out)⟩
   ·
    replace c19 := Bool.eq_false_iff.mpr c19
    subst c19
    have H1 : ((spec_l11Rankings.f kj3 a0_0 l0_1 l1).bind fun t784 => ((spec_l11All.f kj3 t784 a2).bind fun t787 => (some (t787, true)))) = some (r1, r2) := by rw [if_neg (show ¬ (false = true) by decide)] at H; exact H
    clear H
    have H := H1
    clear H1
    replace H := Option.bind_eq_some_iff.mp H
    obtain ⟨t784, A200, H⟩ := H
    replace H : ((spec_l11All.f kj3 t784 a2).bind fun t787 => (some (t787, true))) = some (r1, r2) := H
    have A20 := aM A200
    clear A200
    replace H := Option.bind_eq_some_iff.mp H
    obtain ⟨t787, A210, H⟩ := H
    replace H : (some (t787, true)) = some (r1, r2) := H
    have A21 := aM A210
    clear A210
    simp only [Option.some.injEq, Prod.mk.injEq] at H
    obtain ⟨rfl, rfl⟩ := H
    have hcz22_0 : wc.cell? ⟨gb780, 0, none⟩ = some (.int .i64 a0_0) := (blk_cell BK780.out 0).trans rfl
    have hcz22_1 : wc.cell? ⟨gb780, 1, none⟩ = some (.slice A0_1 l0_1.length c0_1) := (blk_cell BK780.out 1).trans rfl
    have hfz22_0 := blk_frozen BK780.out 0
    have hfz22_1 := blk_frozen BK780.out 1
    go_wp2_with (first | ((with_reducible refine gate_callee (f := 115) rfl ?_); refine goesL_ (some 23) rfl rfl Try.func115 (by kernel_rfl) rfl #[.agg #[.int .i64 a0_0, .slice A0_1 l0_1.length c0_1], .slice A1 l1.length c1] rfl (by (try simp only [List.map_toArray, List.map_cons, List.map_nil]); first | done | rfl | (simp only [List.length_drop, List.length_take]; rfl)) ?_; (with_reducible refine (spec_l11Rankings.calls kj3 a0_0 _ _ l0_1 _ _ l1 t784 _ ?side1 ?side2 ?side3 ?side4 A20.out).mono ?_); (case side1 => repeat (first | exact (Kd.C_below HR0_1.out HB.out) | (with_reducible refine Kd.C_alloc ?_ _) | (with_reducible refine Kd.C_drewN ?_ _) | (with_reducible refine Kd.C_drew ?_))); (case side2 => exact HC0_1.out); (case side3 => repeat (first | exact (Kd.C_below HR1.out HB.out) | (with_reducible refine Kd.C_alloc ?_ _) | (with_reducible refine Kd.C_drewN ?_ _) | (with_reducible refine Kd.C_drew ?_))); (case side4 => exact HC1.out); rintro e w23 ⟨v785, rfl, ho0, hb⟩; refine ⟨_, rfl, ?_⟩; have n0_ := aM (Kd.S_lower ho0 (below_size (gB HB.out))); have n1_ := aM (blk_below (g := gb780) (o := .cells #[.int .i64 a0_0, .slice A0_1 l0_1.length c0_1] 33 (0, 0)) (gK BK780.out) hb); have n2_ := aM (below_step (gB HB.out) hb); clear BK780; clear HB; have HO786 := n0_; have BK780 := n1_; have HB := n2_; clear n0_ n1_ n2_; (try clear hb); (try clear hb2); (try clear hk); (try clear hi); (try clear ho0); obtain ⟨Ao24, co24, eo24⟩ := Kd.S_slice HO786.out; subst eo24) | ((with_reducible refine gate_callee (f := 98) rfl ?_); refine goesL_ (some 25) rfl rfl Try.func98 (by kernel_rfl) rfl #[.slice Ao24 t784.length co24, .int .i64 a2] rfl (by (try simp only [List.map_toArray, List.map_cons, List.map_nil]); first | done | rfl | (simp only [List.length_drop, List.length_take]; rfl)) ?_; (with_reducible refine (spec_l11All.calls kj3 _ _ t784 a2 t787 _ ?side1 ?side2 A21.out).mono ?_); (case side1 => repeat (first | exact (Kd.S_reads' HO786.out).2.2 | (with_reducible refine Kd.C_alloc ?_ _) | (with_reducible refine Kd.C_drewN ?_ _) | (with_reducible refine Kd.C_drew ?_))); (case side2 => exact (Kd.S_reads' HO786.out).2.1); rintro e w25 ⟨v788, rfl, ho0, hb⟩; refine ⟨_, rfl, ?_⟩; have n0_ := aM (Kd.S_elder' (by (with_reducible repeat (first | apply Kd.S_alloc | apply Kd.S_drewN | apply Kd.S_drew)); exact HO786.out) (Kd.R_base ho0) hb); have n1_ := aM (Kd.R_lower ho0 (below_size (gB HB.out))); have n2_ := aM (blk_below (g := gb780) (o := .cells #[.int .i64 a0_0, .slice A0_1 l0_1.length c0_1] 33 (0, 0)) (gK BK780.out) hb); have n3_ := aM (below_step (gB HB.out) hb); clear HO786; clear BK780; clear HB; have HO786 := n0_; have HO789 := n1_; have BK780 := n2_; have HB := n3_; clear n0_ n1_ n2_ n3_; (try clear hb); (try clear hb2); (try clear hk); (try clear hi); (try clear ho0)))
    go_ret2
    exact ⟨_, by first | rfl | (simp [errW_none, errW_some] <;> rfl) | (simp [*, errW_none, errW_some] <;> rfl), by (with_reducible repeat (first | apply Kd.R_alloc | apply Kd.R_drewN | apply Kd.R_drew)); exact HO789.out, by repeat (first | (with_reducible first | exact HB.out | apply below_alloc | apply pw_below_drewN | apply below_drew1 | refine below_set ?_ GE780.out) | exact HB.out)⟩

end Go.Proofs.Ytaomjndfjmfelaa.PQ
end
