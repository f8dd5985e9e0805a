/- Several texts in one: what the claim's last text rests on. No conditions. -/
import Derived.Test.YtaomjndfjmfelaaMWo5
import Derived.Test.YtaomjndfjmfelaaMWo7
import Derived.Test.YtaomjndfjmfelaaMWo3
section
namespace Go.Proofs.Ytaomjndfjmfelaa.PQ
open Go.RowKit Go.Proofs.YtaomjndfjmfelaaW.PrintWords Go.Proofs.YtaomjndfjmfelaaW.PrintLast Go.Proofs.YtaomjndfjmfelaaW.PrintMore
attribute [local go_sem] max2_int min2_int max_two min_two max_three min_three max_four min_four
set_option linter.unusedVariables false
set_option linter.unusedSimpArgs false
attribute [local go_sem] Go.Proofs.Ytaomjndfjmfelaa.StrO.leq_s Go.Proofs.Ytaomjndfjmfelaa.StrO.gtr_s Go.Proofs.Ytaomjndfjmfelaa.StrO.geq_s
mutual
def impl_GoodWords.j0 : Nat → Bool → Int → List (S102) → Option (Bool)
 | 0, _, _, _ => none
 | k + 1, x14, x203000, x203001 => if x14 = true then (some false) else (impl_GoodWords.l0 k x203001 (x203001.length : Int) 0 x203000 x203001)
def impl_GoodWords.l0 : Nat → List (S102) → Int → Int → Int → List (S102) → Option (Bool)
 | 0, _, _, _, _, _ => none
 | k + 1, x16, x17, x18, x203000, x203001 => if x18 < x17 then (if 0 ≤ x18 then (if x18 < (x16.length : Int) then ((impl_isWord.f k ((rd_T102 x16 x18).f0)).bind fun t206 => (if t206 = true then (if x18 > 0 then (if 0 ≤ (wrap64 (x18 - 1)) then (if (wrap64 (x18 - 1)) < (x203001.length : Int) then (if ((Op.bytesLess (((rd_T102 x203001 (wrap64 (x18 - 1))).f0).toList) (((rd_T102 x16 x18).f0).toList)) = true) then (if (((rd_T102 x16 x18).f1).length : Int) = 0 then (some false) else ((impl_postingsOK.f k ((rd_T102 x16 x18).f1) (wrap64 (x203000 - 1))).bind fun t208 => (if t208 = true then (impl_GoodWords.l0 k x16 x17 (wrap64 (x18 + 1)) x203000 x203001) else (some false)))) else (some false)) else (none)) else (none)) else (if (((rd_T102 x16 x18).f1).length : Int) = 0 then (some false) else ((impl_postingsOK.f k ((rd_T102 x16 x18).f1) (wrap64 (x203000 - 1))).bind fun t209 => (if t209 = true then (impl_GoodWords.l0 k x16 x17 (wrap64 (x18 + 1)) x203000 x203001) else (some false))))) else (some false))) else (none)) else (none)) else (some true)
end
def impl_GoodWords.f (k : Nat) (a0_0 : Int) (l0_1 : List (S102)) : Option (Bool) := (impl_within.f a0_0 0 40).bind fun t203 => (if t203 = true then (impl_GoodWords.j0 k (decide ((l0_1.length : Int) > 200)) a0_0 l0_1) else (impl_GoodWords.j0 k true a0_0 l0_1))
def impl_GoodWords.T6 : Bool × List (List Nat × List Nat) := (true, [([], []), ([0], [0]), ([1], [1]), ([2], [2]), ([3, 2], [3]), ([4], [4]), ([5, 4], [4, 5]), ([6, 4, 4], [4, 6]), ([7], [7]), ([8, 7], [7, 8]), ([7], [7]), ([10, 7], [7, 10]), ([9, 11, 7], [7, 9, 11]), ([12, 7], [7, 12]), ([13, 7], [7, 13]), ([7], [7]), ([15, 7], [7, 15]), ([14, 16, 7], [7, 14, 16]), ([7, 17, 4], [4, 7, 17]), ([4, 18], [4, 18]), ([19, 7], [19]), ([20], [20]), ([21, 20], [20, 21]), ([22, 20], [20, 22]), ([23, 20], [20, 23]), ([20, 24], [20, 24]), ([25, 20], [25]), ([26], [26]), ([27, 26], [26, 27]), ([26], [26]), ([29, 26], [26, 29]), ([30, 26], [26, 30]), ([28, 31, 26, 26], [26, 28, 31]), ([32, 26], [26, 32]), ([26, 33], [26, 33])])
def impl_GoodWords.B6 : List Nat := [0, 1, 3, 7, 15, 31, 63, 127, 255, 511, 255, 1279, 4095, 8191, 16383, 255, 33023, 131071, 262143, 524287, 1048575, 2097151, 4194303, 8388607, 16777215, 33554431, 67108863, 134217727, 268435455, 134217727, 671088639, 1744830463, 4294967295, 8589934591, 17179869183]
theorem impl_GoodWords.tab6 : rtab .any (opsOf Try.f38 6) = impl_GoodWords.T6 := by kernel_rfl
theorem impl_GoodWords.bits6 : waitsOk impl_GoodWords.T6.2 impl_GoodWords.B6 = true := by kernel_rfl
set_option maxHeartbeats 8000000 in
set_option maxRecDepth 100000 in
theorem impl_GoodWords.calls (k : Nat) (a0_0 : Int) (A0_1 : Option Addr) (c0_1 : Nat) (l0_1 : List (S102)) (r : Bool) (w : World) (hr0_1 : Kd.C k102 w A0_1 l0_1.length l0_1) (hc0_1 : l0_1.length ≤ c0_1) (h : impl_GoodWords.f k a0_0 l0_1 = some r) :
  Calls Try.prog 38 #[.agg #[.int .i64 a0_0, .slice A0_1 l0_1.length c0_1]] w fun e w' => e = .returned (.bool r) ∧ Below w.heap.size w w' := by
 have hu33 := Try.underlying33
 have hu102 := Try.underlying102
 have HR0_1 := aM hr0_1
 have HC0_1 := aM hc0_1
 clear hr0_1 hc0_1
 have HB := aM (Below.refl w.heap.size w)
 have H : ((impl_within.f a0_0 0 40).bind fun t203 => (if t203 = true then (impl_GoodWords.j0 k (decide ((l0_1.length : Int) > 200)) a0_0 l0_1) else (impl_GoodWords.j0 k true a0_0 l0_1))) = some r := h
 clear h
 have HC2 := aM H
 clear H
 go_enter Try.func38, Try.ntmps38
 go_upto_region 1 with (first | ((with_reducible refine gate_dst (N := 1) rfl ?_); (try (refine gate_guard (by rfl) ?_; dsimp only)); refine box_event ?hg (N := 1) ?hd (cs := #[.int .i64 a0_0, .slice A0_1 l0_1.length c0_1]) (t := 33) ?hr ?_; (case hd => rfl); (case hg => rfl); (case hr => first | (go_simp; done) | (go_simp; rfl)); intro gb202 hg w3 hbox hb; have n0_ := aM (below_step (by repeat (first | (with_reducible first | exact HB.out | apply below_alloc | apply pw_below_drewN | apply below_drew1) | exact HB.out)) hb); have n1_ := aM (hbox); have n2_ := aM ((by rw [hg]; exact (below_size (by repeat (first | (with_reducible first | exact HB.out | apply below_alloc | apply pw_below_drewN | apply below_drew1) | exact HB.out))) : w.heap.size ≤ gb202)); have n3_ := aM ((by rw [hg]; exact (below_size (by repeat (first | (with_reducible first | exact HB.out | apply below_alloc | apply pw_below_drewN | apply below_drew1) | exact HB.out))) : w.heap.size ≤ gb202)); clear HB; have HB := n0_; have BK202 := n1_; have GW202 := n2_; have GE202 := n3_; clear n0_ n1_ n2_ n3_; clear hb hbox hg))
 (try simp only [Act.put, zSA, zSB, zSC])
 go_cut [14] (fun v14 wc => ∃ (kq : Nat) (x14_1 : Bool), v14 = .bool x14_1 ∧ Aside0 (impl_GoodWords.j0 kq x14_1 a0_0 l0_1 = some r) ∧ Aside0 (kq ≤ k) ∧ Aside0 (wc.heap[gb202]? = some (.cells #[.int .i64 a0_0, (.slice A0_1 l0_1.length c0_1)] 33 (0, 0))) ∧ Aside0 (Below w.heap.size w wc))
 case first =>
  have H := HC2.out
  clear HC2
  replace H := Option.bind_eq_some_iff.mp H
  obtain ⟨t203, A40, H⟩ := H
  replace H : (if t203 = true then (impl_GoodWords.j0 k (decide ((l0_1.length : Int) > 200)) a0_0 l0_1) else (impl_GoodWords.j0 k true a0_0 l0_1)) = some r := H
  have A4 := aM A40
  clear A40
  by_cases c5 : t203 = true
  ·
   subst c5
   have H1 : (impl_GoodWords.j0 k (decide ((l0_1.length : Int) > 200)) a0_0 l0_1) = some r := by rw [if_pos rfl] at H; exact H
   clear H
   have H := H1
   clear H1
   have H' := aM H
   clear H
   have hcz6_0 : w3.cell? ⟨gb202, 0, none⟩ = some (.int .i64 a0_0) := (blk_cell BK202.out 0).trans rfl
   have hcz6_1 : w3.cell? ⟨gb202, 1, none⟩ = some (.slice A0_1 l0_1.length c0_1) := (blk_cell BK202.out 1).trans rfl
   have hfz6_0 := blk_frozen BK202.out 0
   have hfz6_1 := blk_frozen BK202.out 1
   go_wp2_with (first | ((with_reducible refine gate_callee (f := 88) rfl ?_); refine gL 7 Try.func88 #[.int .i64 a0_0, .int .i64 0, .int .i64 40] ?_; (with_reducible refine (impl_within.calls a0_0 0 40 true _ A4.out).mono ?_); rintro e w' ⟨rfl, ⟨nd, rfl⟩⟩; refine ⟨_, rfl, ?_⟩))
   go_meet
   case rel => exact ⟨_, (decide ((l0_1.length : Int) > 200)), (by first | rfl | (simp; done) | (simp [*]; done)), H', ⟨by first | omega | exact Nat.le_refl _⟩, ⟨by (with_reducible repeat (first | refine blk_drewN ?_ _ | refine blk_drew ?_ | refine blk_alloc ?_ _)); exact BK202.out⟩, ⟨by repeat (first | (with_reducible first | exact HB.out | apply below_alloc | apply pw_below_drewN | apply below_drew1 | refine below_set ?_ GE202.out) | exact HB.out)⟩⟩
  ·
   replace c5 := Bool.eq_false_iff.mpr c5
   subst c5
   have H1 : (impl_GoodWords.j0 k true a0_0 l0_1) = some r := by rw [if_neg (show ¬ (false = true) by decide)] at H; exact H
   clear H
   have H := H1
   clear H1
   have H' := aM H
   clear H
   have hcz7_0 : w3.cell? ⟨gb202, 0, none⟩ = some (.int .i64 a0_0) := (blk_cell BK202.out 0).trans rfl
   have hcz7_1 : w3.cell? ⟨gb202, 1, none⟩ = some (.slice A0_1 l0_1.length c0_1) := (blk_cell BK202.out 1).trans rfl
   have hfz7_0 := blk_frozen BK202.out 0
   have hfz7_1 := blk_frozen BK202.out 1
   go_wp2_with (first | ((with_reducible refine gate_callee (f := 88) rfl ?_); refine gL 7 Try.func88 #[.int .i64 a0_0, .int .i64 0, .int .i64 40] ?_; (with_reducible refine (impl_within.calls a0_0 0 40 false _ A4.out).mono ?_); rintro e w' ⟨rfl, ⟨nd, rfl⟩⟩; refine ⟨_, rfl, ?_⟩))
   go_meet
   case rel => exact ⟨_, (true), (by first | rfl | (simp; done) | (simp [*]; done)), H', ⟨by first | omega | exact Nat.le_refl _⟩, ⟨by (with_reducible repeat (first | refine blk_drewN ?_ _ | refine blk_drew ?_ | refine blk_alloc ?_ _)); exact BK202.out⟩, ⟨by repeat (first | (with_reducible first | exact HB.out | apply below_alloc | apply pw_below_drewN | apply below_drew1 | refine below_set ?_ GE202.out) | exact HB.out)⟩⟩
 case rest =>
  clear HC2
  try clear p2
  try clear c3
  try clear c5
  try clear hcz6_0
  try clear hcz6_1
  try clear hcz7_0
  try clear hcz7_1
  try clear hfz6_0
  try clear hfz6_1
  try clear hfz7_0
  try clear hfz7_1
  obtain ⟨kq, x14_1, rfl, HA, HJ1, BK202, HB⟩ := hcut
  cases kq with
  | zero => exact absurd HA.out (by simp [impl_GoodWords.j0])
  | succ kj1 =>
   have H := HA.out
   clear HA
   simp only [impl_GoodWords.j0] at H
   by_cases c8 : x14_1 = true
   ·
    subst c8
    have H1 : (some false) = some r := by rw [if_pos rfl] at H; exact H
    clear H
    have H := H1
    clear H1
    obtain rfl := Option.some.inj H
    go_wp2
    go_ret
    exact ⟨eR, by repeat (first | (with_reducible first | exact HB.out | apply below_alloc | apply pw_below_drewN | apply below_drew1 | refine below_set ?_ GE202.out) | exact HB.out)⟩
   ·
    replace c8 := Bool.eq_false_iff.mpr c8
    subst c8
    have H1 : (impl_GoodWords.l0 kj1 l0_1 (l0_1.length : Int) 0 a0_0 l0_1) = some r := by rw [if_neg (show ¬ (false = true) by decide)] at H; exact H
    clear H
    have H := H1
    clear H1
    have H' := aM H
    clear H
    have hcz9_0 : wc.cell? ⟨gb202, 0, none⟩ = some (.int .i64 a0_0) := (blk_cell BK202.out 0).trans rfl
    have hcz9_1 : wc.cell? ⟨gb202, 1, none⟩ = some (.slice A0_1 l0_1.length c0_1) := (blk_cell BK202.out 1).trans rfl
    have hfz9_0 := blk_frozen BK202.out 0
    have hfz9_1 := blk_frozen BK202.out 1
    go_wp2
    go_loopg [18] kj1 (fun kq v18 w' => ∃ (x18_2 : Int), v18 = .int .i64 x18_2 ∧ Aside0 (impl_GoodWords.l0 kq l0_1 (l0_1.length : Int) x18_2 a0_0 l0_1 = some r) ∧ Aside0 (kq ≤ kj1) ∧ Aside0 (w'.heap[gb202]? = some (.cells #[.int .i64 a0_0, (.slice A0_1 l0_1.length c0_1)] 33 (0, 0))) ∧ Aside0 (Below w.heap.size w w'))
    case atStart => exact ⟨(0), (by first | rfl | (simp; done) | (simp [*]; done)), H', ⟨Nat.le_refl _⟩, ⟨by (with_reducible repeat (first | refine blk_drewN ?_ _ | refine blk_drew ?_ | refine blk_alloc ?_ _)); exact BK202.out⟩, ⟨by repeat (first | (with_reducible first | exact HB.out | apply below_alloc | apply pw_below_drewN | apply below_drew1 | refine below_set ?_ GE202.out) | exact HB.out)⟩⟩
    case round =>
     clear H'
     try clear p2
     try clear c3
     try clear c5
     try clear c8
     try clear hcz6_0
     try clear hcz6_1
     try clear hcz7_0
     try clear hcz7_1
     try clear hcz9_0
     try clear hcz9_1
     try clear hfz6_0
     try clear hfz6_1
     try clear hfz7_0
     try clear hfz7_1
     try clear hfz9_0
     try clear hfz9_1
     try clear p2
     obtain ⟨x18_2, rfl, HA, HK2, BK202, HB⟩ := hrel
     cases gk with
     | zero => exact absurd HA.out (by simp [impl_GoodWords.l0])
     | succ k2 =>
      have H := HA.out
      clear HA
      simp only [impl_GoodWords.l0] at H
      by_cases c10 : x18_2 < (l0_1.length : Int)
      ·
       rw [if_pos c10] at H
       have c10b0 : decide (x18_2 < (l0_1.length : Int)) = true := decide_eq_true c10
       clear c10
       by_cases c11 : 0 ≤ x18_2
       ·
        rw [if_pos c11] at H
        have c11b0 : decide (0 ≤ x18_2) = true := decide_eq_true c11
        clear c11
        by_cases c12 : x18_2 < (l0_1.length : Int)
        ·
         rw [if_pos c12] at H
         have c12b0 : decide (x18_2 < (l0_1.length : Int)) = true := decide_eq_true c12
         clear c12
         replace H := Option.bind_eq_some_iff.mp H
         obtain ⟨t206, A130, H⟩ := H
         replace H : (if t206 = true then (if x18_2 > 0 then (if 0 ≤ (wrap64 (x18_2 - 1)) then (if (wrap64 (x18_2 - 1)) < (l0_1.length : Int) then (if ((Op.bytesLess (((rd_T102 l0_1 (wrap64 (x18_2 - 1))).f0).toList) (((rd_T102 l0_1 x18_2).f0).toList)) = true) then (if (((rd_T102 l0_1 x18_2).f1).length : Int) = 0 then (some false) else ((impl_postingsOK.f k2 ((rd_T102 l0_1 x18_2).f1) (wrap64 (a0_0 - 1))).bind fun t208 => (if t208 = true then (impl_GoodWords.l0 k2 l0_1 (l0_1.length : Int) (wrap64 (x18_2 + 1)) a0_0 l0_1) else (some false)))) else (some false)) else (none)) else (none)) else (if (((rd_T102 l0_1 x18_2).f1).length : Int) = 0 then (some false) else ((impl_postingsOK.f k2 ((rd_T102 l0_1 x18_2).f1) (wrap64 (a0_0 - 1))).bind fun t209 => (if t209 = true then (impl_GoodWords.l0 k2 l0_1 (l0_1.length : Int) (wrap64 (x18_2 + 1)) a0_0 l0_1) else (some false))))) else (some false)) = some r := H
         have A13 := aM A130
         clear A130
         by_cases c14 : t206 = true
         ·
          subst c14
          have H1 : (if x18_2 > 0 then (if 0 ≤ (wrap64 (x18_2 - 1)) then (if (wrap64 (x18_2 - 1)) < (l0_1.length : Int) then (if ((Op.bytesLess (((rd_T102 l0_1 (wrap64 (x18_2 - 1))).f0).toList) (((rd_T102 l0_1 x18_2).f0).toList)) = true) then (if (((rd_T102 l0_1 x18_2).f1).length : Int) = 0 then (some false) else ((impl_postingsOK.f k2 ((rd_T102 l0_1 x18_2).f1) (wrap64 (a0_0 - 1))).bind fun t208 => (if t208 = true then (impl_GoodWords.l0 k2 l0_1 (l0_1.length : Int) (wrap64 (x18_2 + 1)) a0_0 l0_1) else (some false)))) else (some false)) else (none)) else (none)) else (if (((rd_T102 l0_1 x18_2).f1).length : Int) = 0 then (some false) else ((impl_postingsOK.f k2 ((rd_T102 l0_1 x18_2).f1) (wrap64 (a0_0 - 1))).bind fun t209 => (if t209 = true then (impl_GoodWords.l0 k2 l0_1 (l0_1.length : Int) (wrap64 (x18_2 + 1)) a0_0 l0_1) else (some false))))) = some r := by rw [if_pos rfl] at H; exact H
          clear H
          have H := H1
          clear H1
          by_cases c15 : x18_2 > 0
          ·
           rw [if_pos c15] at H
           have c15b0 : decide (0 < x18_2) = true := decide_eq_true c15
           clear c15
           obtain ⟨ji16, hji16⟩ : ∃ j_ : Int, (wrap64 (x18_2 - 1)) = j_ := ⟨_, rfl⟩
           replace H : (if 0 ≤ (ji16) then (if (ji16) < (l0_1.length : Int) then (if ((Op.bytesLess (((rd_T102 l0_1 (ji16)).f0).toList) (((rd_T102 l0_1 x18_2).f0).toList)) = true) then (if (((rd_T102 l0_1 x18_2).f1).length : Int) = 0 then (some false) else ((impl_postingsOK.f k2 ((rd_T102 l0_1 x18_2).f1) (wrap64 (a0_0 - 1))).bind fun t208 => (if t208 = true then (impl_GoodWords.l0 k2 l0_1 (l0_1.length : Int) (wrap64 (x18_2 + 1)) a0_0 l0_1) else (some false)))) else (some false)) else (none)) else (none)) = some r := by first | (rw [hji16] at H; exact H) | (simp only [hji16] at H ⊢; exact H)
           (try rw [hji16] at A13)
           have hji16w : (IntKind.i64.wrap (x18_2 - 1)) = ji16 := (i64_w _).trans hji16
           by_cases c17 : 0 ≤ (ji16)
           ·
            rw [if_pos c17] at H
            have c17b0 : decide (0 ≤ (ji16)) = true := decide_eq_true c17
            clear c17
            by_cases c18 : (ji16) < (l0_1.length : Int)
            ·
             rw [if_pos c18] at H
             have c18b0 : decide ((ji16) < (l0_1.length : Int)) = true := decide_eq_true c18
             clear c18
             by_cases c19 : ((Op.bytesLess (((rd_T102 l0_1 (ji16)).f0).toList) (((rd_T102 l0_1 x18_2).f0).toList)) = true)
             ·
              rw [if_pos c19] at H
              have c19b0 : (Op.bytesLess (((rd_T102 l0_1 (ji16)).f0).toList) (((rd_T102 l0_1 x18_2).f0).toList)) = true := c19
              clear c19
              by_cases c20 : (((rd_T102 l0_1 x18_2).f1).length : Int) = 0
              ·
               rw [if_pos c20] at H
               have c20b0 : ((((rd_T102 l0_1 x18_2).f1).length : Int) == 0) = true := beq_iff_eq.mpr c20
               have c20b1 : ((((rd_T102 l0_1 x18_2).f1).length : Int) != 0) = false := bne_eq_false_iff_eq.mpr c20
               clear c20
               obtain rfl := Option.some.inj H
               have p204 : 0 ≤ (x18_2 : Int) := dT
               have q204 : x18_2 < (l0_1.length : Int) := dT
               obtain ⟨ad204, A204_1, c204_1, e204, hx204_0, hx204_1, hl204_1, hi204_1⟩ := at_T102 HR0_1.out x18_2 p204 q204
               cases e204
               try have hz_hx204_0 := aM hx204_0
               try have hz_hx204_1 := aM hx204_1
               replace hx204_0 := (HB.out.cell (World.block_lt_of_cell? w _ hx204_0)).trans hx204_0
               replace hx204_1 := (HB.out.cell (World.block_lt_of_cell? w _ hx204_1)).trans hx204_1
               have HR204_1 := aM hi204_1
               have HC204_1 := aM hl204_1
               clear hi204_1 hl204_1
               replace p204 := eq_true p204
               replace q204 := eq_true q204
               try go_wp2_with (first | ((with_reducible refine gate_dst (N := 4) rfl ?_); (try (refine gate_guard (by rfl) ?_; dsimp only)); refine box_event ?hg (N := 4) ?hd (cs := #[.string (⟨#[]⟩ : ByteArray), .slice none 0 0]) (t := 102) ?hr ?_; (case hd => rfl); (case hg => rfl); (case hr => first | (go_simp; done) | (go_simp; rfl)); intro gb205 hg w21 hbox hb; have n0_ := aM (blk_below (g := gb202) (o := .cells #[.int .i64 a0_0, .slice (some ad204) l0_1.length c0_1] 33 (0, 0)) (by (with_reducible repeat (first | refine blk_drewN ?_ _ | refine blk_drew ?_ | refine blk_alloc ?_ _)); exact BK202.out) hb); have n1_ := aM (below_step (by repeat (first | (with_reducible first | exact HB.out | apply below_alloc | apply pw_below_drewN | apply below_drew1 | refine below_set ?_ GE202.out) | exact HB.out)) hb); have n2_ := aM (hbox); have n3_ := aM ((by rw [hg]; exact (below_size (by repeat (first | (with_reducible first | exact HB.out | apply below_alloc | apply pw_below_drewN | apply below_drew1 | refine below_set ?_ GE202.out) | exact HB.out))) : w.heap.size ≤ gb205)); have n4_ := aM ((by rw [hg]; exact (below_size (by repeat (first | (with_reducible first | exact HB.out | apply below_alloc | apply pw_below_drewN | apply below_drew1 | refine below_set ?_ GE202.out) | exact HB.out))) : w.heap.size ≤ gb205)); have n5_ := aM ((by rw [hg]; exact Nat.ne_of_lt (blk_lt (g := gb202) (o := .cells #[.int .i64 a0_0, .slice (some ad204) l0_1.length c0_1] 33 (0, 0)) (by (with_reducible repeat (first | refine blk_drewN ?_ _ | refine blk_drew ?_ | refine blk_alloc ?_ _)); exact BK202.out)) : gb202 ≠ gb205)); have n6_ := aM ((by rw [hg]; exact Nat.ne_of_gt (blk_lt (g := gb202) (o := .cells #[.int .i64 a0_0, .slice (some ad204) l0_1.length c0_1] 33 (0, 0)) (by (with_reducible repeat (first | refine blk_drewN ?_ _ | refine blk_drew ?_ | refine blk_alloc ?_ _)); exact BK202.out)) : gb205 ≠ gb202)); clear BK202; clear HB; have BK202 := n0_; have HB := n1_; have BK205 := n2_; have GW205 := n3_; have GE205 := n4_; have NB202_205 := n5_; have NB205_202 := n6_; clear n0_ n1_ n2_ n3_ n4_ n5_ n6_; clear hb hbox hg; have hnb22 := NB205_202.out; have hnc22 := NB202_205.out; have hcz23_0 : w21.cell? ⟨gb205, 0, none⟩ = some (.string (⟨#[]⟩ : ByteArray)) := (blk_cell BK205.out 0).trans rfl; have hcz23_1 : w21.cell? ⟨gb205, 1, none⟩ = some (.slice none 0 0) := (blk_cell BK205.out 1).trans rfl; have hfz23_0 := blk_frozen BK205.out 0; have hfz23_1 := blk_frozen BK205.out 1))
               have n0_ : Aside0 (((w21.setCell ⟨gb205, 0, none⟩ (.string ((rd_T102 l0_1 x18_2).f0))).setCell ⟨gb205, 1, none⟩ (.slice A204_1 ((rd_T102 l0_1 x18_2).f1).length c204_1)).heap[gb202]? = some (.cells #[.int .i64 a0_0, .slice (some ad204) l0_1.length c0_1] 33 (0, 0))) := ⟨by (with_reducible repeat (first | refine blk_drewN ?_ _ | refine blk_drew ?_ | refine blk_alloc ?_ _)); refine blk_far ?_ NB202_205.out _; (with_reducible repeat (first | refine blk_drewN ?_ _ | refine blk_drew ?_ | refine blk_alloc ?_ _)); refine blk_far ?_ NB202_205.out _; (with_reducible repeat (first | refine blk_drewN ?_ _ | refine blk_drew ?_ | refine blk_alloc ?_ _)); exact BK202.out⟩
               have n1_ : Aside0 (((w21.setCell ⟨gb205, 0, none⟩ (.string ((rd_T102 l0_1 x18_2).f0))).setCell ⟨gb205, 1, none⟩ (.slice A204_1 ((rd_T102 l0_1 x18_2).f1).length c204_1)).heap[gb205]? = some (.cells #[.string ((rd_T102 l0_1 x18_2).f0), .slice A204_1 ((rd_T102 l0_1 x18_2).f1).length c204_1] 102 (0, 0))) := ⟨by (with_reducible repeat (first | refine blk_drewN ?_ _ | refine blk_drew ?_ | refine blk_alloc ?_ _)); refine blk_put (cs := #[.string ((rd_T102 l0_1 x18_2).f0), .slice none 0 0]) ?_ 1 _ rfl; (with_reducible repeat (first | refine blk_drewN ?_ _ | refine blk_drew ?_ | refine blk_alloc ?_ _)); refine blk_put (cs := #[.string (⟨#[]⟩ : ByteArray), .slice none 0 0]) ?_ 0 _ rfl; (with_reducible repeat (first | refine blk_drewN ?_ _ | refine blk_drew ?_ | refine blk_alloc ?_ _)); exact BK205.out⟩
               have n2_ : Aside0 (Below w.heap.size w ((w21.setCell ⟨gb205, 0, none⟩ (.string ((rd_T102 l0_1 x18_2).f0))).setCell ⟨gb205, 1, none⟩ (.slice A204_1 ((rd_T102 l0_1 x18_2).f1).length c204_1))) := ⟨by repeat (first | (with_reducible first | exact HB.out | apply below_alloc | apply pw_below_drewN | apply below_drew1 | refine below_set ?_ GE202.out | refine below_set ?_ GE205.out) | exact HB.out)⟩
               (try clear BK202)
               (try clear BK205)
               (try clear HB)
               generalize ((w21.setCell ⟨gb205, 0, none⟩ (.string ((rd_T102 l0_1 x18_2).f0))).setCell ⟨gb205, 1, none⟩ (.slice A204_1 ((rd_T102 l0_1 x18_2).f1).length c204_1)) = w24 at n0_ n1_ n2_ ⊢
               have BK202 := n0_
               have BK205 := n1_
               have HB := n2_
               clear n0_ n1_ n2_
               have n0_ := aM (blk_drew BK202.out)
               have n1_ := aM (blk_drew BK205.out)
               have n2_ := aM (below_drew1 HB.out)
               clear BK202
               clear BK205
               clear HB
               have BK202 := n0_
               have BK205 := n1_
               have HB := n2_
               clear n0_ n1_ n2_
               have p207 : 0 ≤ ((ji16) : Int) := dT
               have q207 : (ji16) < (l0_1.length : Int) := dT
               obtain ⟨ad207, A207_1, c207_1, e207, hx207_0, hx207_1, hl207_1, hi207_1⟩ := at_T102 HR0_1.out (ji16) p207 q207
               have hw207_1 := hx207_1
               have hw207_0 := hx207_0
               obtain rfl : ad204 = ad207 := (by injection e207)
               try have hz_hx207_0 := aM hx207_0
               try have hz_hx207_1 := aM hx207_1
               replace hx207_0 := (HB.out.cell (World.block_lt_of_cell? w _ hx207_0)).trans hx207_0
               replace hx207_1 := (HB.out.cell (World.block_lt_of_cell? w _ hx207_1)).trans hx207_1
               have HR207_1 := aM hi207_1
               have HC207_1 := aM hl207_1
               clear hi207_1 hl207_1
               replace p207 := eq_true p207
               replace q207 := eq_true q207
               refine start_ (n := 35) (S := fun w' => w'.cell? ⟨gb205, 0, none⟩ = some (.string ((rd_T102 l0_1 x18_2).f0)) ∧ w'.cell? ⟨gb205, 1, none⟩ = some (.slice A204_1 ((rd_T102 l0_1 x18_2).f1).length c204_1) ∧ w'.cell? ⟨gb202, 0, none⟩ = some (.int .i64 a0_0) ∧ w'.cell? ⟨gb202, 1, none⟩ = some (.slice (some ad204) l0_1.length c0_1) ∧ w'.cell? (ad204.add (((ji16)).toNat * 2)) = some (.string ((rd_T102 l0_1 (ji16)).f0)) ∧ w'.cell? ⟨(ad204.add (((ji16)).toNat * 2)).block, (ad204.add (((ji16)).toNat * 2)).off + 1, none⟩ = some (.slice A207_1 ((rd_T102 l0_1 (ji16)).f1).length c207_1)) (ds := []) (bq 35 0) (by kernel_rfl) rfl (by kernel_rfl) ⟨(blk_cell BK205.out 0).trans rfl, (blk_cell BK205.out 1).trans rfl, (blk_cell BK202.out 0).trans rfl, (blk_cell BK202.out 1).trans rfl, ((HB.out.cell (World.block_lt_of_cell? w _ hw207_0)).trans hw207_0), ((HB.out.cell (World.block_lt_of_cell? w _ hw207_1)).trans hw207_1)⟩ (fun hHeld => ?_); refine with_tabW impl_GoodWords.tab6 impl_GoodWords.bits6 (fun HT_ HW_ => ?_)
               generalize w24.drew = w25 at BK202 BK205 HB HR207_1 hx207_0 hx207_1 hHeld ⊢
               refine pZ 35 1 0 23 HT_ ?_
               refine tZ6 35 3 1 24 HT_ HW_ hHeld ?_
               refine one_ (i := 2) (N := some 25) (bq 35 7) rfl rfl (one_of HT_.out (by kernel_rfl)) (by decide) (fun K hK => ?_)
               refine gA Try.func89 #[.string ((rd_T102 l0_1 x18_2).f0)] ?_
               with_reducible refine (impl_isWord.calls k2 ((rd_T102 l0_1 x18_2).f0) true _ A13.out).mono ?_
               rintro e w' ⟨rfl, ⟨nd, rfl⟩⟩
               refine ⟨_, rfl, ?_⟩
               refine hK.out _ _ ⟨(blk_cell BK205.out 0).trans rfl, (blk_cell BK205.out 1).trans rfl, (blk_cell BK202.out 0).trans rfl, (blk_cell BK202.out 1).trans rfl, ((HB.out.cell (World.block_lt_of_cell? w _ hw207_0)).trans hw207_0), ((HB.out.cell (World.block_lt_of_cell? w _ hw207_1)).trans hw207_1)⟩ (fun hHeld => ?_)
               clear hK K
               refine nM 25 ?_
               refine pZ 35 15 3 26 HT_ ?_
               refine pZ 35 31 4 27 HT_ ?_
               refine pZ 35 63 5 28 HT_ ?_
               refine pZ 35 127 6 29 HT_ ?_
               refine pZ 35 255 7 30 HT_ ?_
               refine pZ 35 511 8 31 HT_ ?_
               refine pZ 35 1535 10 33 HT_ ?_
               refine pZ 35 3583 11 34 HT_ ?_
               refine pZ 35 36351 15 38 HT_ ?_
               refine tZ6 35 36863 9 32 HT_ HW_ hHeld ?_
               refine pZ 35 40959 12 35 HT_ ?_
               refine pZ 35 49151 13 36 HT_ ?_
               refine tZ6 35 65535 14 37 HT_ HW_ hHeld ?_
               refine tZ6 35 131071 16 39 HT_ HW_ hHeld ?_
               refine pZ 35 262143 17 40 HT_ ?_
               refine pZ 35 524287 18 41 HT_ ?_
               refine pZ 35 1048575 19 42 HT_ ?_
               refine pZ 35 2097151 20 43 HT_ ?_
               refine pZ 35 4194303 21 44 HT_ ?_
               refine tZ6 35 8388607 22 45 HT_ HW_ hHeld ?_
               refine pZ 35 16777215 23 46 HT_ ?_
               refine pZ 35 33554431 24 47 HT_ ?_
               refine pZ 35 67108863 25 48 HT_ ?_
               refine pZ 35 134217727 26 49 HT_ ?_
               refine pY 35 268435455 27 50 HT_ ?_
               refine pY 35 536870911 28 51 HT_ ?_
               refine pY 35 1073741823 29 52 HT_ ?_
               refine pY 35 2147483647 30 53 HT_ ?_
               refine pY 35 4294967295 31 54 HT_ ?_
               refine pY 35 8589934591 32 55 HT_ ?_
               refine pY 35 17179869183 33 56 HT_ ?_
               refine pZ 35 34359738367 34 57 HT_ ?_
               refine done_ (done_of HT_.out (by kernel_rfl)) ?_
               try go_wp2
               go_ret
               exact ⟨by first | rfl | (simp [errW_none, errW_some] <;> rfl) | (simp only [← hji16]; first | rfl | (simp [errW_none, errW_some] <;> rfl)) | (simp [*, errW_none, errW_some] <;> rfl), by repeat (first | (with_reducible first | exact HB.out | apply below_alloc | apply pw_below_drewN | apply below_drew1 | refine below_set ?_ GE202.out | refine below_set ?_ GE205.out) | exact HB.out)⟩
              ·
               rw [if_neg c20] at H
               have c20b0 : ((((rd_T102 l0_1 x18_2).f1).length : Int) == 0) = false := beq_eq_false_iff_ne.mpr c20
               have c20b1 : ((((rd_T102 l0_1 x18_2).f1).length : Int) != 0) = true := bne_iff_ne.mpr c20
               have c20b2 : ¬ (((rd_T102 l0_1 x18_2).f1) = []) := fun h_ => c20 (by rw [h_]; rfl)
               replace H := Option.bind_eq_some_iff.mp H
               obtain ⟨t208, A260, H⟩ := H
               replace H : (if t208 = true then (impl_GoodWords.l0 k2 l0_1 (l0_1.length : Int) (wrap64 (x18_2 + 1)) a0_0 l0_1) else (some false)) = some r := H
               have A26 := aM A260
               clear A260
               by_cases c27 : t208 = true
               ·
                subst c27
                have H1 : (impl_GoodWords.l0 k2 l0_1 (l0_1.length : Int) (wrap64 (x18_2 + 1)) a0_0 l0_1) = some r := by rw [if_pos rfl] at H; exact H
                clear H
                have H := H1
                clear H1
                have H' := aM H
                clear H
                have p204 : 0 ≤ (x18_2 : Int) := dT
                have q204 : x18_2 < (l0_1.length : Int) := dT
                obtain ⟨ad204, A204_1, c204_1, e204, hx204_0, hx204_1, hl204_1, hi204_1⟩ := at_T102 HR0_1.out x18_2 p204 q204
                cases e204
                try have hz_hx204_0 := aM hx204_0
                try have hz_hx204_1 := aM hx204_1
                replace hx204_0 := (HB.out.cell (World.block_lt_of_cell? w _ hx204_0)).trans hx204_0
                replace hx204_1 := (HB.out.cell (World.block_lt_of_cell? w _ hx204_1)).trans hx204_1
                have HR204_1 := aM hi204_1
                have HC204_1 := aM hl204_1
                clear hi204_1 hl204_1
                replace p204 := eq_true p204
                replace q204 := eq_true q204
                try go_wp2_with (first | ((with_reducible refine gate_dst (N := 4) rfl ?_); (try (refine gate_guard (by rfl) ?_; dsimp only)); refine box_event ?hg (N := 4) ?hd (cs := #[.string (⟨#[]⟩ : ByteArray), .slice none 0 0]) (t := 102) ?hr ?_; (case hd => rfl); (case hg => rfl); (case hr => first | (go_simp; done) | (go_simp; rfl)); intro gb205 hg w28 hbox hb; have n0_ := aM (blk_below (g := gb202) (o := .cells #[.int .i64 a0_0, .slice (some ad204) l0_1.length c0_1] 33 (0, 0)) (by (with_reducible repeat (first | refine blk_drewN ?_ _ | refine blk_drew ?_ | refine blk_alloc ?_ _)); exact BK202.out) hb); have n1_ := aM (below_step (by repeat (first | (with_reducible first | exact HB.out | apply below_alloc | apply pw_below_drewN | apply below_drew1 | refine below_set ?_ GE202.out) | exact HB.out)) hb); have n2_ := aM (hbox); have n3_ := aM ((by rw [hg]; exact (below_size (by repeat (first | (with_reducible first | exact HB.out | apply below_alloc | apply pw_below_drewN | apply below_drew1 | refine below_set ?_ GE202.out) | exact HB.out))) : w.heap.size ≤ gb205)); have n4_ := aM ((by rw [hg]; exact (below_size (by repeat (first | (with_reducible first | exact HB.out | apply below_alloc | apply pw_below_drewN | apply below_drew1 | refine below_set ?_ GE202.out) | exact HB.out))) : w.heap.size ≤ gb205)); have n5_ := aM ((by rw [hg]; exact Nat.ne_of_lt (blk_lt (g := gb202) (o := .cells #[.int .i64 a0_0, .slice (some ad204) l0_1.length c0_1] 33 (0, 0)) (by (with_reducible repeat (first | refine blk_drewN ?_ _ | refine blk_drew ?_ | refine blk_alloc ?_ _)); exact BK202.out)) : gb202 ≠ gb205)); have n6_ := aM ((by rw [hg]; exact Nat.ne_of_gt (blk_lt (g := gb202) (o := .cells #[.int .i64 a0_0, .slice (some ad204) l0_1.length c0_1] 33 (0, 0)) (by (with_reducible repeat (first | refine blk_drewN ?_ _ | refine blk_drew ?_ | refine blk_alloc ?_ _)); exact BK202.out)) : gb205 ≠ gb202)); clear BK202; clear HB; have BK202 := n0_; have HB := n1_; have BK205 := n2_; have GW205 := n3_; have GE205 := n4_; have NB202_205 := n5_; have NB205_202 := n6_; clear n0_ n1_ n2_ n3_ n4_ n5_ n6_; clear hb hbox hg; have hnb29 := NB205_202.out; have hnc29 := NB202_205.out; have hcz30_0 : w28.cell? ⟨gb205, 0, none⟩ = some (.string (⟨#[]⟩ : ByteArray)) := (blk_cell BK205.out 0).trans rfl; have hcz30_1 : w28.cell? ⟨gb205, 1, none⟩ = some (.slice none 0 0) := (blk_cell BK205.out 1).trans rfl; have hfz30_0 := blk_frozen BK205.out 0; have hfz30_1 := blk_frozen BK205.out 1))
                have n0_ : Aside0 (((w28.setCell ⟨gb205, 0, none⟩ (.string ((rd_T102 l0_1 x18_2).f0))).setCell ⟨gb205, 1, none⟩ (.slice A204_1 ((rd_T102 l0_1 x18_2).f1).length c204_1)).heap[gb202]? = some (.cells #[.int .i64 a0_0, .slice (some ad204) l0_1.length c0_1] 33 (0, 0))) := ⟨by (with_reducible repeat (first | refine blk_drewN ?_ _ | refine blk_drew ?_ | refine blk_alloc ?_ _)); refine blk_far ?_ NB202_205.out _; (with_reducible repeat (first | refine blk_drewN ?_ _ | refine blk_drew ?_ | refine blk_alloc ?_ _)); refine blk_far ?_ NB202_205.out _; (with_reducible repeat (first | refine blk_drewN ?_ _ | refine blk_drew ?_ | refine blk_alloc ?_ _)); exact BK202.out⟩
                have n1_ : Aside0 (((w28.setCell ⟨gb205, 0, none⟩ (.string ((rd_T102 l0_1 x18_2).f0))).setCell ⟨gb205, 1, none⟩ (.slice A204_1 ((rd_T102 l0_1 x18_2).f1).length c204_1)).heap[gb205]? = some (.cells #[.string ((rd_T102 l0_1 x18_2).f0), .slice A204_1 ((rd_T102 l0_1 x18_2).f1).length c204_1] 102 (0, 0))) := ⟨by (with_reducible repeat (first | refine blk_drewN ?_ _ | refine blk_drew ?_ | refine blk_alloc ?_ _)); refine blk_put (cs := #[.string ((rd_T102 l0_1 x18_2).f0), .slice none 0 0]) ?_ 1 _ rfl; (with_reducible repeat (first | refine blk_drewN ?_ _ | refine blk_drew ?_ | refine blk_alloc ?_ _)); refine blk_put (cs := #[.string (⟨#[]⟩ : ByteArray), .slice none 0 0]) ?_ 0 _ rfl; (with_reducible repeat (first | refine blk_drewN ?_ _ | refine blk_drew ?_ | refine blk_alloc ?_ _)); exact BK205.out⟩
                have n2_ : Aside0 (Below w.heap.size w ((w28.setCell ⟨gb205, 0, none⟩ (.string ((rd_T102 l0_1 x18_2).f0))).setCell ⟨gb205, 1, none⟩ (.slice A204_1 ((rd_T102 l0_1 x18_2).f1).length c204_1))) := ⟨by repeat (first | (with_reducible first | exact HB.out | apply below_alloc | apply pw_below_drewN | apply below_drew1 | refine below_set ?_ GE202.out | refine below_set ?_ GE205.out) | exact HB.out)⟩
                (try clear BK202)
                (try clear BK205)
                (try clear HB)
                generalize ((w28.setCell ⟨gb205, 0, none⟩ (.string ((rd_T102 l0_1 x18_2).f0))).setCell ⟨gb205, 1, none⟩ (.slice A204_1 ((rd_T102 l0_1 x18_2).f1).length c204_1)) = w31 at n0_ n1_ n2_ ⊢
                have BK202 := n0_
                have BK205 := n1_
                have HB := n2_
                clear n0_ n1_ n2_
                have n0_ := aM (blk_drew BK202.out)
                have n1_ := aM (blk_drew BK205.out)
                have n2_ := aM (below_drew1 HB.out)
                clear BK202
                clear BK205
                clear HB
                have BK202 := n0_
                have BK205 := n1_
                have HB := n2_
                clear n0_ n1_ n2_
                have p207 : 0 ≤ ((ji16) : Int) := dT
                have q207 : (ji16) < (l0_1.length : Int) := dT
                obtain ⟨ad207, A207_1, c207_1, e207, hx207_0, hx207_1, hl207_1, hi207_1⟩ := at_T102 HR0_1.out (ji16) p207 q207
                have hw207_1 := hx207_1
                have hw207_0 := hx207_0
                obtain rfl : ad204 = ad207 := (by injection e207)
                try have hz_hx207_0 := aM hx207_0
                try have hz_hx207_1 := aM hx207_1
                replace hx207_0 := (HB.out.cell (World.block_lt_of_cell? w _ hx207_0)).trans hx207_0
                replace hx207_1 := (HB.out.cell (World.block_lt_of_cell? w _ hx207_1)).trans hx207_1
                have HR207_1 := aM hi207_1
                have HC207_1 := aM hl207_1
                clear hi207_1 hl207_1
                replace p207 := eq_true p207
                replace q207 := eq_true q207
                refine start_ (n := 35) (S := fun w' => w'.cell? ⟨gb205, 0, none⟩ = some (.string ((rd_T102 l0_1 x18_2).f0)) ∧ w'.cell? ⟨gb205, 1, none⟩ = some (.slice A204_1 ((rd_T102 l0_1 x18_2).f1).length c204_1) ∧ w'.cell? ⟨gb202, 0, none⟩ = some (.int .i64 a0_0) ∧ w'.cell? ⟨gb202, 1, none⟩ = some (.slice (some ad204) l0_1.length c0_1) ∧ w'.cell? (ad204.add (((ji16)).toNat * 2)) = some (.string ((rd_T102 l0_1 (ji16)).f0)) ∧ w'.cell? ⟨(ad204.add (((ji16)).toNat * 2)).block, (ad204.add (((ji16)).toNat * 2)).off + 1, none⟩ = some (.slice A207_1 ((rd_T102 l0_1 (ji16)).f1).length c207_1)) (ds := []) (bq 35 0) (by kernel_rfl) rfl (by kernel_rfl) ⟨(blk_cell BK205.out 0).trans rfl, (blk_cell BK205.out 1).trans rfl, (blk_cell BK202.out 0).trans rfl, (blk_cell BK202.out 1).trans rfl, ((HB.out.cell (World.block_lt_of_cell? w _ hw207_0)).trans hw207_0), ((HB.out.cell (World.block_lt_of_cell? w _ hw207_1)).trans hw207_1)⟩ (fun hHeld => ?_); refine with_tabW impl_GoodWords.tab6 impl_GoodWords.bits6 (fun HT_ HW_ => ?_)
                generalize w31.drew = w32 at BK202 BK205 HB HR207_1 hx207_0 hx207_1 hHeld ⊢
                refine pZ 35 1 0 23 HT_ ?_
                refine tZ6 35 3 1 24 HT_ HW_ hHeld ?_
                refine one_ (i := 2) (N := some 25) (bq 35 7) rfl rfl (one_of HT_.out (by kernel_rfl)) (by decide) (fun K hK => ?_)
                refine gA Try.func89 #[.string ((rd_T102 l0_1 x18_2).f0)] ?_
                with_reducible refine (impl_isWord.calls k2 ((rd_T102 l0_1 x18_2).f0) true _ A13.out).mono ?_
                rintro e w' ⟨rfl, ⟨nd, rfl⟩⟩
                refine ⟨_, rfl, ?_⟩
                refine hK.out _ _ ⟨(blk_cell BK205.out 0).trans rfl, (blk_cell BK205.out 1).trans rfl, (blk_cell BK202.out 0).trans rfl, (blk_cell BK202.out 1).trans rfl, ((HB.out.cell (World.block_lt_of_cell? w _ hw207_0)).trans hw207_0), ((HB.out.cell (World.block_lt_of_cell? w _ hw207_1)).trans hw207_1)⟩ (fun hHeld => ?_)
                clear hK K
                refine nM 25 ?_
                refine pZ 35 15 3 26 HT_ ?_
                refine pZ 35 31 4 27 HT_ ?_
                refine pZ 35 63 5 28 HT_ ?_
                refine pZ 35 127 6 29 HT_ ?_
                refine pZ 35 255 7 30 HT_ ?_
                refine pZ 35 511 8 31 HT_ ?_
                refine pZ 35 1535 10 33 HT_ ?_
                refine pZ 35 3583 11 34 HT_ ?_
                refine pZ 35 36351 15 38 HT_ ?_
                refine tZ6 35 36863 9 32 HT_ HW_ hHeld ?_
                refine pZ 35 40959 12 35 HT_ ?_
                refine pZ 35 49151 13 36 HT_ ?_
                refine tZ6 35 65535 14 37 HT_ HW_ hHeld ?_
                refine tZ6 35 131071 16 39 HT_ HW_ hHeld ?_
                refine pZ 35 262143 17 40 HT_ ?_
                refine pZ 35 524287 18 41 HT_ ?_
                refine pZ 35 1048575 19 42 HT_ ?_
                refine pZ 35 2097151 20 43 HT_ ?_
                refine pZ 35 4194303 21 44 HT_ ?_
                refine tZ6 35 8388607 22 45 HT_ HW_ hHeld ?_
                refine pZ 35 16777215 23 46 HT_ ?_
                refine pZ 35 33554431 24 47 HT_ ?_
                refine pZ 35 67108863 25 48 HT_ ?_
                refine pZ 35 134217727 26 49 HT_ ?_
                refine pZ 35 268435455 27 50 HT_ ?_
                refine pZ 35 805306367 29 52 HT_ ?_
                refine tZ6 35 1073741823 28 51 HT_ HW_ hHeld ?_
                refine tZ6 35 2147483647 30 53 HT_ HW_ hHeld ?_
                refine pZ 35 4294967295 31 54 HT_ ?_
                refine one_ (i := 32) (N := some 55) (bq 35 8589934591) rfl rfl (one_of HT_.out (by kernel_rfl)) (by decide) (fun K hK => ?_)
                refine gA Try.func90 #[.slice A204_1 ((rd_T102 l0_1 x18_2).f1).length c204_1, .int .i64 (wrap64 (a0_0 - 1))] ?_
                with_reducible refine (impl_postingsOK.calls k2 _ _ ((rd_T102 l0_1 x18_2).f1) (wrap64 (a0_0 - 1)) true _ ?side1 ?side2 A26.out).mono ?_
                (case side1 => repeat (first | exact (Kd.C_below HR204_1.out (by repeat (first | (with_reducible first | exact HB.out | apply below_alloc | apply pw_below_drewN | apply below_drew1 | refine below_set ?_ GE202.out | refine below_set ?_ GE205.out) | exact HB.out))) | (with_reducible refine Kd.C_alloc ?_ _) | (with_reducible refine Kd.C_drewN ?_ _) | (with_reducible refine Kd.C_drew ?_)))
                (case side2 => exact HC204_1.out)
                rintro e w33 ⟨rfl, hb⟩
                refine ⟨_, rfl, ?_⟩
                have n0_ := aM (blk_below (g := gb202) (o := .cells #[.int .i64 a0_0, .slice (some ad204) l0_1.length c0_1] 33 (0, 0)) (by (with_reducible repeat (first | refine blk_drewN ?_ _ | refine blk_drew ?_ | refine blk_alloc ?_ _)); exact BK202.out) hb)
                have n1_ := aM (blk_below (g := gb205) (o := .cells #[.string ((rd_T102 l0_1 x18_2).f0), .slice A204_1 ((rd_T102 l0_1 x18_2).f1).length c204_1] 102 (0, 0)) (by (with_reducible repeat (first | refine blk_drewN ?_ _ | refine blk_drew ?_ | refine blk_alloc ?_ _)); exact BK205.out) hb)
                have n2_ := aM (below_step (by repeat (first | (with_reducible first | exact HB.out | apply below_alloc | apply pw_below_drewN | apply below_drew1 | refine below_set ?_ GE202.out | refine below_set ?_ GE205.out) | exact HB.out)) hb)
                clear BK202
                clear BK205
                clear HB
                have BK202 := n0_
                have BK205 := n1_
                have HB := n2_
                clear n0_ n1_ n2_
                (try clear hb)
                (try clear hb2)
                (try clear hk)
                (try clear hi)
                refine hK.out _ _ ⟨(blk_cell BK205.out 0).trans rfl, (blk_cell BK205.out 1).trans rfl, (blk_cell BK202.out 0).trans rfl, (blk_cell BK202.out 1).trans rfl, ((HB.out.cell (World.block_lt_of_cell? w _ hw207_0)).trans hw207_0), ((HB.out.cell (World.block_lt_of_cell? w _ hw207_1)).trans hw207_1)⟩ (fun hHeld => ?_)
                clear hK K
                refine nM 55 ?_
                refine pZ 35 17179869183 33 56 HT_ ?_
                refine pZ 35 34359738367 34 57 HT_ ?_
                refine done_ (done_of HT_.out (by kernel_rfl)) ?_
                try go_wp2
                go_roundg k2
                case measure => have := HJ1.out; have := HK2.out; omega
                case rel => exact ⟨(wrap64 (x18_2 + 1)), (by first | rfl | (simp; done) | (simp [*]; done)), H', ⟨by have := HJ1.out; have := HK2.out; omega⟩, ⟨by (with_reducible repeat (first | refine blk_drewN ?_ _ | refine blk_drew ?_ | refine blk_alloc ?_ _)); exact BK202.out⟩, ⟨by repeat (first | (with_reducible first | exact HB.out | apply below_alloc | apply pw_below_drewN | apply below_drew1 | refine below_set ?_ GE202.out | refine below_set ?_ GE205.out) | exact HB.out)⟩⟩
               ·
                replace c27 := Bool.eq_false_iff.mpr c27
                subst c27
                have H1 : (some false) = some r := by rw [if_neg (show ¬ (false = true) by decide)] at H; exact H
                clear H
                have H := H1
                clear H1
                obtain rfl := Option.some.inj H
                have p204 : 0 ≤ (x18_2 : Int) := dT
                have q204 : x18_2 < (l0_1.length : Int) := dT
                obtain ⟨ad204, A204_1, c204_1, e204, hx204_0, hx204_1, hl204_1, hi204_1⟩ := at_T102 HR0_1.out x18_2 p204 q204
                cases e204
                try have hz_hx204_0 := aM hx204_0
                try have hz_hx204_1 := aM hx204_1
                replace hx204_0 := (HB.out.cell (World.block_lt_of_cell? w _ hx204_0)).trans hx204_0
                replace hx204_1 := (HB.out.cell (World.block_lt_of_cell? w _ hx204_1)).trans hx204_1
                have HR204_1 := aM hi204_1
                have HC204_1 := aM hl204_1
                clear hi204_1 hl204_1
                replace p204 := eq_true p204
                replace q204 := eq_true q204
                try go_wp2_with (first | ((with_reducible refine gate_dst (N := 4) rfl ?_); (try (refine gate_guard (by rfl) ?_; dsimp only)); refine box_event ?hg (N := 4) ?hd (cs := #[.string (⟨#[]⟩ : ByteArray), .slice none 0 0]) (t := 102) ?hr ?_; (case hd => rfl); (case hg => rfl); (case hr => first | (go_simp; done) | (go_simp; rfl)); intro gb205 hg w34 hbox hb; have n0_ := aM (blk_below (g := gb202) (o := .cells #[.int .i64 a0_0, .slice (some ad204) l0_1.length c0_1] 33 (0, 0)) (by (with_reducible repeat (first | refine blk_drewN ?_ _ | refine blk_drew ?_ | refine blk_alloc ?_ _)); exact BK202.out) hb); have n1_ := aM (below_step (by repeat (first | (with_reducible first | exact HB.out | apply below_alloc | apply pw_below_drewN | apply below_drew1 | refine below_set ?_ GE202.out) | exact HB.out)) hb); have n2_ := aM (hbox); have n3_ := aM ((by rw [hg]; exact (below_size (by repeat (first | (with_reducible first | exact HB.out | apply below_alloc | apply pw_below_drewN | apply below_drew1 | refine below_set ?_ GE202.out) | exact HB.out))) : w.heap.size ≤ gb205)); have n4_ := aM ((by rw [hg]; exact (below_size (by repeat (first | (with_reducible first | exact HB.out | apply below_alloc | apply pw_below_drewN | apply below_drew1 | refine below_set ?_ GE202.out) | exact HB.out))) : w.heap.size ≤ gb205)); have n5_ := aM ((by rw [hg]; exact Nat.ne_of_lt (blk_lt (g := gb202) (o := .cells #[.int .i64 a0_0, .slice (some ad204) l0_1.length c0_1] 33 (0, 0)) (by (with_reducible repeat (first | refine blk_drewN ?_ _ | refine blk_drew ?_ | refine blk_alloc ?_ _)); exact BK202.out)) : gb202 ≠ gb205)); have n6_ := aM ((by rw [hg]; exact Nat.ne_of_gt (blk_lt (g := gb202) (o := .cells #[.int .i64 a0_0, .slice (some ad204) l0_1.length c0_1] 33 (0, 0)) (by (with_reducible repeat (first | refine blk_drewN ?_ _ | refine blk_drew ?_ | refine blk_alloc ?_ _)); exact BK202.out)) : gb205 ≠ gb202)); clear BK202; clear HB; have BK202 := n0_; have HB := n1_; have BK205 := n2_; have GW205 := n3_; have GE205 := n4_; have NB202_205 := n5_; have NB205_202 := n6_; clear n0_ n1_ n2_ n3_ n4_ n5_ n6_; clear hb hbox hg; have hnb35 := NB205_202.out; have hnc35 := NB202_205.out; have hcz36_0 : w34.cell? ⟨gb205, 0, none⟩ = some (.string (⟨#[]⟩ : ByteArray)) := (blk_cell BK205.out 0).trans rfl; have hcz36_1 : w34.cell? ⟨gb205, 1, none⟩ = some (.slice none 0 0) := (blk_cell BK205.out 1).trans rfl; have hfz36_0 := blk_frozen BK205.out 0; have hfz36_1 := blk_frozen BK205.out 1))
                have n0_ : Aside0 (((w34.setCell ⟨gb205, 0, none⟩ (.string ((rd_T102 l0_1 x18_2).f0))).setCell ⟨gb205, 1, none⟩ (.slice A204_1 ((rd_T102 l0_1 x18_2).f1).length c204_1)).heap[gb202]? = some (.cells #[.int .i64 a0_0, .slice (some ad204) l0_1.length c0_1] 33 (0, 0))) := ⟨by (with_reducible repeat (first | refine blk_drewN ?_ _ | refine blk_drew ?_ | refine blk_alloc ?_ _)); refine blk_far ?_ NB202_205.out _; (with_reducible repeat (first | refine blk_drewN ?_ _ | refine blk_drew ?_ | refine blk_alloc ?_ _)); refine blk_far ?_ NB202_205.out _; (with_reducible repeat (first | refine blk_drewN ?_ _ | refine blk_drew ?_ | refine blk_alloc ?_ _)); exact BK202.out⟩
                have n1_ : Aside0 (((w34.setCell ⟨gb205, 0, none⟩ (.string ((rd_T102 l0_1 x18_2).f0))).setCell ⟨gb205, 1, none⟩ (.slice A204_1 ((rd_T102 l0_1 x18_2).f1).length c204_1)).heap[gb205]? = some (.cells #[.string ((rd_T102 l0_1 x18_2).f0), .slice A204_1 ((rd_T102 l0_1 x18_2).f1).length c204_1] 102 (0, 0))) := ⟨by (with_reducible repeat (first | refine blk_drewN ?_ _ | refine blk_drew ?_ | refine blk_alloc ?_ _)); refine blk_put (cs := #[.string ((rd_T102 l0_1 x18_2).f0), .slice none 0 0]) ?_ 1 _ rfl; (with_reducible repeat (first | refine blk_drewN ?_ _ | refine blk_drew ?_ | refine blk_alloc ?_ _)); refine blk_put (cs := #[.string (⟨#[]⟩ : ByteArray), .slice none 0 0]) ?_ 0 _ rfl; (with_reducible repeat (first | refine blk_drewN ?_ _ | refine blk_drew ?_ | refine blk_alloc ?_ _)); exact BK205.out⟩
                have n2_ : Aside0 (Below w.heap.size w ((w34.setCell ⟨gb205, 0, none⟩ (.string ((rd_T102 l0_1 x18_2).f0))).setCell ⟨gb205, 1, none⟩ (.slice A204_1 ((rd_T102 l0_1 x18_2).f1).length c204_1))) := ⟨by repeat (first | (with_reducible first | exact HB.out | apply below_alloc | apply pw_below_drewN | apply below_drew1 | refine below_set ?_ GE202.out | refine below_set ?_ GE205.out) | exact HB.out)⟩
                (try clear BK202)
                (try clear BK205)
                (try clear HB)
                generalize ((w34.setCell ⟨gb205, 0, none⟩ (.string ((rd_T102 l0_1 x18_2).f0))).setCell ⟨gb205, 1, none⟩ (.slice A204_1 ((rd_T102 l0_1 x18_2).f1).length c204_1)) = w37 at n0_ n1_ n2_ ⊢
                have BK202 := n0_
                have BK205 := n1_
                have HB := n2_
                clear n0_ n1_ n2_
                have n0_ := aM (blk_drew BK202.out)
                have n1_ := aM (blk_drew BK205.out)
                have n2_ := aM (below_drew1 HB.out)
                clear BK202
                clear BK205
                clear HB
                have BK202 := n0_
                have BK205 := n1_
                have HB := n2_
                clear n0_ n1_ n2_
                have p207 : 0 ≤ ((ji16) : Int) := dT
                have q207 : (ji16) < (l0_1.length : Int) := dT
                obtain ⟨ad207, A207_1, c207_1, e207, hx207_0, hx207_1, hl207_1, hi207_1⟩ := at_T102 HR0_1.out (ji16) p207 q207
                have hw207_1 := hx207_1
                have hw207_0 := hx207_0
                obtain rfl : ad204 = ad207 := (by injection e207)
                try have hz_hx207_0 := aM hx207_0
                try have hz_hx207_1 := aM hx207_1
                replace hx207_0 := (HB.out.cell (World.block_lt_of_cell? w _ hx207_0)).trans hx207_0
                replace hx207_1 := (HB.out.cell (World.block_lt_of_cell? w _ hx207_1)).trans hx207_1
                have HR207_1 := aM hi207_1
                have HC207_1 := aM hl207_1
                clear hi207_1 hl207_1
                replace p207 := eq_true p207
                replace q207 := eq_true q207
                refine start_ (n := 35) (S := fun w' => w'.cell? ⟨gb205, 0, none⟩ = some (.string ((rd_T102 l0_1 x18_2).f0)) ∧ w'.cell? ⟨gb205, 1, none⟩ = some (.slice A204_1 ((rd_T102 l0_1 x18_2).f1).length c204_1) ∧ w'.cell? ⟨gb202, 0, none⟩ = some (.int .i64 a0_0) ∧ w'.cell? ⟨gb202, 1, none⟩ = some (.slice (some ad204) l0_1.length c0_1) ∧ w'.cell? (ad204.add (((ji16)).toNat * 2)) = some (.string ((rd_T102 l0_1 (ji16)).f0)) ∧ w'.cell? ⟨(ad204.add (((ji16)).toNat * 2)).block, (ad204.add (((ji16)).toNat * 2)).off + 1, none⟩ = some (.slice A207_1 ((rd_T102 l0_1 (ji16)).f1).length c207_1)) (ds := []) (bq 35 0) (by kernel_rfl) rfl (by kernel_rfl) ⟨(blk_cell BK205.out 0).trans rfl, (blk_cell BK205.out 1).trans rfl, (blk_cell BK202.out 0).trans rfl, (blk_cell BK202.out 1).trans rfl, ((HB.out.cell (World.block_lt_of_cell? w _ hw207_0)).trans hw207_0), ((HB.out.cell (World.block_lt_of_cell? w _ hw207_1)).trans hw207_1)⟩ (fun hHeld => ?_); refine with_tabW impl_GoodWords.tab6 impl_GoodWords.bits6 (fun HT_ HW_ => ?_)
                generalize w37.drew = w38 at BK202 BK205 HB HR207_1 hx207_0 hx207_1 hHeld ⊢
                refine pZ 35 1 0 23 HT_ ?_
                refine tZ6 35 3 1 24 HT_ HW_ hHeld ?_
                refine one_ (i := 2) (N := some 25) (bq 35 7) rfl rfl (one_of HT_.out (by kernel_rfl)) (by decide) (fun K hK => ?_)
                refine gA Try.func89 #[.string ((rd_T102 l0_1 x18_2).f0)] ?_
                with_reducible refine (impl_isWord.calls k2 ((rd_T102 l0_1 x18_2).f0) true _ A13.out).mono ?_
                rintro e w' ⟨rfl, ⟨nd, rfl⟩⟩
                refine ⟨_, rfl, ?_⟩
                refine hK.out _ _ ⟨(blk_cell BK205.out 0).trans rfl, (blk_cell BK205.out 1).trans rfl, (blk_cell BK202.out 0).trans rfl, (blk_cell BK202.out 1).trans rfl, ((HB.out.cell (World.block_lt_of_cell? w _ hw207_0)).trans hw207_0), ((HB.out.cell (World.block_lt_of_cell? w _ hw207_1)).trans hw207_1)⟩ (fun hHeld => ?_)
                clear hK K
                refine nM 25 ?_
                refine pZ 35 15 3 26 HT_ ?_
                refine pZ 35 31 4 27 HT_ ?_
                refine pZ 35 63 5 28 HT_ ?_
                refine pZ 35 127 6 29 HT_ ?_
                refine pZ 35 255 7 30 HT_ ?_
                refine pZ 35 511 8 31 HT_ ?_
                refine pZ 35 1535 10 33 HT_ ?_
                refine pZ 35 3583 11 34 HT_ ?_
                refine pZ 35 36351 15 38 HT_ ?_
                refine tZ6 35 36863 9 32 HT_ HW_ hHeld ?_
                refine pZ 35 40959 12 35 HT_ ?_
                refine pZ 35 49151 13 36 HT_ ?_
                refine tZ6 35 65535 14 37 HT_ HW_ hHeld ?_
                refine tZ6 35 131071 16 39 HT_ HW_ hHeld ?_
                refine pZ 35 262143 17 40 HT_ ?_
                refine pZ 35 524287 18 41 HT_ ?_
                refine pZ 35 1048575 19 42 HT_ ?_
                refine pZ 35 2097151 20 43 HT_ ?_
                refine pZ 35 4194303 21 44 HT_ ?_
                refine tZ6 35 8388607 22 45 HT_ HW_ hHeld ?_
                refine pZ 35 16777215 23 46 HT_ ?_
                refine pZ 35 33554431 24 47 HT_ ?_
                refine pZ 35 67108863 25 48 HT_ ?_
                refine pZ 35 134217727 26 49 HT_ ?_
                refine pZ 35 268435455 27 50 HT_ ?_
                refine pZ 35 805306367 29 52 HT_ ?_
                refine tZ6 35 1073741823 28 51 HT_ HW_ hHeld ?_
                refine tZ6 35 2147483647 30 53 HT_ HW_ hHeld ?_
                refine pZ 35 4294967295 31 54 HT_ ?_
                refine one_ (i := 32) (N := some 55) (bq 35 8589934591) rfl rfl (one_of HT_.out (by kernel_rfl)) (by decide) (fun K hK => ?_)
                refine gA Try.func90 #[.slice A204_1 ((rd_T102 l0_1 x18_2).f1).length c204_1, .int .i64 (wrap64 (a0_0 - 1))] ?_
                with_reducible refine (impl_postingsOK.calls k2 _ _ ((rd_T102 l0_1 x18_2).f1) (wrap64 (a0_0 - 1)) false _ ?side1 ?side2 A26.out).mono ?_
                (case side1 => repeat (first | exact (Kd.C_below HR204_1.out (by repeat (first | (with_reducible first | exact HB.out | apply below_alloc | apply pw_below_drewN | apply below_drew1 | refine below_set ?_ GE202.out | refine below_set ?_ GE205.out) | exact HB.out))) | (with_reducible refine Kd.C_alloc ?_ _) | (with_reducible refine Kd.C_drewN ?_ _) | (with_reducible refine Kd.C_drew ?_)))
                (case side2 => exact HC204_1.out)
                rintro e w39 ⟨rfl, hb⟩
                refine ⟨_, rfl, ?_⟩
                have n0_ := aM (blk_below (g := gb202) (o := .cells #[.int .i64 a0_0, .slice (some ad204) l0_1.length c0_1] 33 (0, 0)) (by (with_reducible repeat (first | refine blk_drewN ?_ _ | refine blk_drew ?_ | refine blk_alloc ?_ _)); exact BK202.out) hb)
                have n1_ := aM (blk_below (g := gb205) (o := .cells #[.string ((rd_T102 l0_1 x18_2).f0), .slice A204_1 ((rd_T102 l0_1 x18_2).f1).length c204_1] 102 (0, 0)) (by (with_reducible repeat (first | refine blk_drewN ?_ _ | refine blk_drew ?_ | refine blk_alloc ?_ _)); exact BK205.out) hb)
                have n2_ := aM (below_step (by repeat (first | (with_reducible first | exact HB.out | apply below_alloc | apply pw_below_drewN | apply below_drew1 | refine below_set ?_ GE202.out | refine below_set ?_ GE205.out) | exact HB.out)) hb)
                clear BK202
                clear BK205
                clear HB
                have BK202 := n0_
                have BK205 := n1_
                have HB := n2_
                clear n0_ n1_ n2_
                (try clear hb)
                (try clear hb2)
                (try clear hk)
                (try clear hi)
                refine hK.out _ _ ⟨(blk_cell BK205.out 0).trans rfl, (blk_cell BK205.out 1).trans rfl, (blk_cell BK202.out 0).trans rfl, (blk_cell BK202.out 1).trans rfl, ((HB.out.cell (World.block_lt_of_cell? w _ hw207_0)).trans hw207_0), ((HB.out.cell (World.block_lt_of_cell? w _ hw207_1)).trans hw207_1)⟩ (fun hHeld => ?_)
                clear hK K
                refine nM 55 ?_
                refine pZ 35 17179869183 33 56 HT_ ?_
                refine pZ 35 34359738367 34 57 HT_ ?_
                refine done_ (done_of HT_.out (by kernel_rfl)) ?_
                try go_wp2
                go_ret
                exact ⟨by first | rfl | (simp [errW_none, errW_some] <;> rfl) | (simp only [← hji16]; first | rfl | (simp [errW_none, errW_some] <;> rfl)) | (simp [*, errW_none, errW_some] <;> rfl), by repeat (first | (with_reducible first | exact HB.out | apply below_alloc | apply pw_below_drewN | apply below_drew1 | refine below_set ?_ GE202.out | refine below_set ?_ GE205.out) | exact HB.out)⟩
             ·
              rw [if_neg c19] at H
              have c19b0 : (Op.bytesLess (((rd_T102 l0_1 (ji16)).f0).toList) (((rd_T102 l0_1 x18_2).f0).toList)) = false := by simpa using c19
              clear c19
              obtain rfl := Option.some.inj H
              have p204 : 0 ≤ (x18_2 : Int) := dT
              have q204 : x18_2 < (l0_1.length : Int) := dT
              obtain ⟨ad204, A204_1, c204_1, e204, hx204_0, hx204_1, hl204_1, hi204_1⟩ := at_T102 HR0_1.out x18_2 p204 q204
              cases e204
              try have hz_hx204_0 := aM hx204_0
              try have hz_hx204_1 := aM hx204_1
              replace hx204_0 := (HB.out.cell (World.block_lt_of_cell? w _ hx204_0)).trans hx204_0
              replace hx204_1 := (HB.out.cell (World.block_lt_of_cell? w _ hx204_1)).trans hx204_1
              have HR204_1 := aM hi204_1
              have HC204_1 := aM hl204_1
              clear hi204_1 hl204_1
              replace p204 := eq_true p204
              replace q204 := eq_true q204
              try go_wp2_with (first | ((with_reducible refine gate_dst (N := 4) rfl ?_); (try (refine gate_guard (by rfl) ?_; dsimp only)); refine box_event ?hg (N := 4) ?hd (cs := #[.string (⟨#[]⟩ : ByteArray), .slice none 0 0]) (t := 102) ?hr ?_; (case hd => rfl); (case hg => rfl); (case hr => first | (go_simp; done) | (go_simp; rfl)); intro gb205 hg w40 hbox hb; have n0_ := aM (blk_below (g := gb202) (o := .cells #[.int .i64 a0_0, .slice (some ad204) l0_1.length c0_1] 33 (0, 0)) (by (with_reducible repeat (first | refine blk_drewN ?_ _ | refine blk_drew ?_ | refine blk_alloc ?_ _)); exact BK202.out) hb); have n1_ := aM (below_step (by repeat (first | (with_reducible first | exact HB.out | apply below_alloc | apply pw_below_drewN | apply below_drew1 | refine below_set ?_ GE202.out) | exact HB.out)) hb); have n2_ := aM (hbox); have n3_ := aM ((by rw [hg]; exact (below_size (by repeat (first | (with_reducible first | exact HB.out | apply below_alloc | apply pw_below_drewN | apply below_drew1 | refine below_set ?_ GE202.out) | exact HB.out))) : w.heap.size ≤ gb205)); have n4_ := aM ((by rw [hg]; exact (below_size (by repeat (first | (with_reducible first | exact HB.out | apply below_alloc | apply pw_below_drewN | apply below_drew1 | refine below_set ?_ GE202.out) | exact HB.out))) : w.heap.size ≤ gb205)); have n5_ := aM ((by rw [hg]; exact Nat.ne_of_lt (blk_lt (g := gb202) (o := .cells #[.int .i64 a0_0, .slice (some ad204) l0_1.length c0_1] 33 (0, 0)) (by (with_reducible repeat (first | refine blk_drewN ?_ _ | refine blk_drew ?_ | refine blk_alloc ?_ _)); exact BK202.out)) : gb202 ≠ gb205)); have n6_ := aM ((by rw [hg]; exact Nat.ne_of_gt (blk_lt (g := gb202) (o := .cells #[.int .i64 a0_0, .slice (some ad204) l0_1.length c0_1] 33 (0, 0)) (by (with_reducible repeat (first | refine blk_drewN ?_ _ | refine blk_drew ?_ | refine blk_alloc ?_ _)); exact BK202.out)) : gb205 ≠ gb202)); clear BK202; clear HB; have BK202 := n0_; have HB := n1_; have BK205 := n2_; have GW205 := n3_; have GE205 := n4_; have NB202_205 := n5_; have NB205_202 := n6_; clear n0_ n1_ n2_ n3_ n4_ n5_ n6_; clear hb hbox hg; have hnb41 := NB205_202.out; have hnc41 := NB202_205.out; have hcz42_0 : w40.cell? ⟨gb205, 0, none⟩ = some (.string (⟨#[]⟩ : ByteArray)) := (blk_cell BK205.out 0).trans rfl; have hcz42_1 : w40.cell? ⟨gb205, 1, none⟩ = some (.slice none 0 0) := (blk_cell BK205.out 1).trans rfl; have hfz42_0 := blk_frozen BK205.out 0; have hfz42_1 := blk_frozen BK205.out 1))
              have n0_ : Aside0 (((w40.setCell ⟨gb205, 0, none⟩ (.string ((rd_T102 l0_1 x18_2).f0))).setCell ⟨gb205, 1, none⟩ (.slice A204_1 ((rd_T102 l0_1 x18_2).f1).length c204_1)).heap[gb202]? = some (.cells #[.int .i64 a0_0, .slice (some ad204) l0_1.length c0_1] 33 (0, 0))) := ⟨by (with_reducible repeat (first | refine blk_drewN ?_ _ | refine blk_drew ?_ | refine blk_alloc ?_ _)); refine blk_far ?_ NB202_205.out _; (with_reducible repeat (first | refine blk_drewN ?_ _ | refine blk_drew ?_ | refine blk_alloc ?_ _)); refine blk_far ?_ NB202_205.out _; (with_reducible repeat (first | refine blk_drewN ?_ _ | refine blk_drew ?_ | refine blk_alloc ?_ _)); exact BK202.out⟩
              have n1_ : Aside0 (((w40.setCell ⟨gb205, 0, none⟩ (.string ((rd_T102 l0_1 x18_2).f0))).setCell ⟨gb205, 1, none⟩ (.slice A204_1 ((rd_T102 l0_1 x18_2).f1).length c204_1)).heap[gb205]? = some (.cells #[.string ((rd_T102 l0_1 x18_2).f0), .slice A204_1 ((rd_T102 l0_1 x18_2).f1).length c204_1] 102 (0, 0))) := ⟨by (with_reducible repeat (first | refine blk_drewN ?_ _ | refine blk_drew ?_ | refine blk_alloc ?_ _)); refine blk_put (cs := #[.string ((rd_T102 l0_1 x18_2).f0), .slice none 0 0]) ?_ 1 _ rfl; (with_reducible repeat (first | refine blk_drewN ?_ _ | refine blk_drew ?_ | refine blk_alloc ?_ _)); refine blk_put (cs := #[.string (⟨#[]⟩ : ByteArray), .slice none 0 0]) ?_ 0 _ rfl; (with_reducible repeat (first | refine blk_drewN ?_ _ | refine blk_drew ?_ | refine blk_alloc ?_ _)); exact BK205.out⟩
              have n2_ : Aside0 (Below w.heap.size w ((w40.setCell ⟨gb205, 0, none⟩ (.string ((rd_T102 l0_1 x18_2).f0))).setCell ⟨gb205, 1, none⟩ (.slice A204_1 ((rd_T102 l0_1 x18_2).f1).length c204_1))) := ⟨by repeat (first | (with_reducible first | exact HB.out | apply below_alloc | apply pw_below_drewN | apply below_drew1 | refine below_set ?_ GE202.out | refine below_set ?_ GE205.out) | exact HB.out)⟩
              (try clear BK202)
              (try clear BK205)
              (try clear HB)
              generalize ((w40.setCell ⟨gb205, 0, none⟩ (.string ((rd_T102 l0_1 x18_2).f0))).setCell ⟨gb205, 1, none⟩ (.slice A204_1 ((rd_T102 l0_1 x18_2).f1).length c204_1)) = w43 at n0_ n1_ n2_ ⊢
              have BK202 := n0_
              have BK205 := n1_
              have HB := n2_
              clear n0_ n1_ n2_
              have n0_ := aM (blk_drew BK202.out)
              have n1_ := aM (blk_drew BK205.out)
              have n2_ := aM (below_drew1 HB.out)
              clear BK202
              clear BK205
              clear HB
              have BK202 := n0_
              have BK205 := n1_
              have HB := n2_
              clear n0_ n1_ n2_
              have p207 : 0 ≤ ((ji16) : Int) := dT
              have q207 : (ji16) < (l0_1.length : Int) := dT
              obtain ⟨ad207, A207_1, c207_1, e207, hx207_0, hx207_1, hl207_1, hi207_1⟩ := at_T102 HR0_1.out (ji16) p207 q207
              have hw207_1 := hx207_1
              have hw207_0 := hx207_0
              obtain rfl : ad204 = ad207 := (by injection e207)
              try have hz_hx207_0 := aM hx207_0
              try have hz_hx207_1 := aM hx207_1
              replace hx207_0 := (HB.out.cell (World.block_lt_of_cell? w _ hx207_0)).trans hx207_0
              replace hx207_1 := (HB.out.cell (World.block_lt_of_cell? w _ hx207_1)).trans hx207_1
              have HR207_1 := aM hi207_1
              have HC207_1 := aM hl207_1
              clear hi207_1 hl207_1
              replace p207 := eq_true p207
              replace q207 := eq_true q207
              refine start_ (n := 35) (S := fun w' => w'.cell? ⟨gb205, 0, none⟩ = some (.string ((rd_T102 l0_1 x18_2).f0)) ∧ w'.cell? ⟨gb205, 1, none⟩ = some (.slice A204_1 ((rd_T102 l0_1 x18_2).f1).length c204_1) ∧ w'.cell? ⟨gb202, 0, none⟩ = some (.int .i64 a0_0) ∧ w'.cell? ⟨gb202, 1, none⟩ = some (.slice (some ad204) l0_1.length c0_1) ∧ w'.cell? (ad204.add (((ji16)).toNat * 2)) = some (.string ((rd_T102 l0_1 (ji16)).f0)) ∧ w'.cell? ⟨(ad204.add (((ji16)).toNat * 2)).block, (ad204.add (((ji16)).toNat * 2)).off + 1, none⟩ = some (.slice A207_1 ((rd_T102 l0_1 (ji16)).f1).length c207_1)) (ds := []) (bq 35 0) (by kernel_rfl) rfl (by kernel_rfl) ⟨(blk_cell BK205.out 0).trans rfl, (blk_cell BK205.out 1).trans rfl, (blk_cell BK202.out 0).trans rfl, (blk_cell BK202.out 1).trans rfl, ((HB.out.cell (World.block_lt_of_cell? w _ hw207_0)).trans hw207_0), ((HB.out.cell (World.block_lt_of_cell? w _ hw207_1)).trans hw207_1)⟩ (fun hHeld => ?_); refine with_tabW impl_GoodWords.tab6 impl_GoodWords.bits6 (fun HT_ HW_ => ?_)
              generalize w43.drew = w44 at BK202 BK205 HB HR207_1 hx207_0 hx207_1 hHeld ⊢
              refine pZ 35 1 0 23 HT_ ?_
              refine tZ6 35 3 1 24 HT_ HW_ hHeld ?_
              refine one_ (i := 2) (N := some 25) (bq 35 7) rfl rfl (one_of HT_.out (by kernel_rfl)) (by decide) (fun K hK => ?_)
              refine gA Try.func89 #[.string ((rd_T102 l0_1 x18_2).f0)] ?_
              with_reducible refine (impl_isWord.calls k2 ((rd_T102 l0_1 x18_2).f0) true _ A13.out).mono ?_
              rintro e w' ⟨rfl, ⟨nd, rfl⟩⟩
              refine ⟨_, rfl, ?_⟩
              refine hK.out _ _ ⟨(blk_cell BK205.out 0).trans rfl, (blk_cell BK205.out 1).trans rfl, (blk_cell BK202.out 0).trans rfl, (blk_cell BK202.out 1).trans rfl, ((HB.out.cell (World.block_lt_of_cell? w _ hw207_0)).trans hw207_0), ((HB.out.cell (World.block_lt_of_cell? w _ hw207_1)).trans hw207_1)⟩ (fun hHeld => ?_)
              clear hK K
              refine nM 25 ?_
              refine pZ 35 15 3 26 HT_ ?_
              refine pZ 35 31 4 27 HT_ ?_
              refine pZ 35 63 5 28 HT_ ?_
              refine pZ 35 127 6 29 HT_ ?_
              refine pZ 35 255 7 30 HT_ ?_
              refine pZ 35 511 8 31 HT_ ?_
              refine pZ 35 1535 10 33 HT_ ?_
              refine pZ 35 3583 11 34 HT_ ?_
              refine pZ 35 36351 15 38 HT_ ?_
              refine tZ6 35 36863 9 32 HT_ HW_ hHeld ?_
              refine pZ 35 40959 12 35 HT_ ?_
              refine pZ 35 49151 13 36 HT_ ?_
              refine tZ6 35 65535 14 37 HT_ HW_ hHeld ?_
              refine tZ6 35 131071 16 39 HT_ HW_ hHeld ?_
              refine pZ 35 262143 17 40 HT_ ?_
              refine pZ 35 524287 18 41 HT_ ?_
              refine pZ 35 1048575 19 42 HT_ ?_
              refine pZ 35 2097151 20 43 HT_ ?_
              refine pY 35 4194303 21 44 HT_ ?_
              refine pY 35 8388607 22 45 HT_ ?_
              refine pY 35 16777215 23 46 HT_ ?_
              refine pY 35 33554431 24 47 HT_ ?_
              refine pZ 35 67108863 25 48 HT_ ?_
              refine pZ 35 134217727 26 49 HT_ ?_
              refine pY 35 268435455 27 50 HT_ ?_
              refine pY 35 536870911 28 51 HT_ ?_
              refine pY 35 1073741823 29 52 HT_ ?_
              refine pY 35 2147483647 30 53 HT_ ?_
              refine pY 35 4294967295 31 54 HT_ ?_
              refine pY 35 8589934591 32 55 HT_ ?_
              refine pY 35 17179869183 33 56 HT_ ?_
              refine pZ 35 34359738367 34 57 HT_ ?_
              refine done_ (done_of HT_.out (by kernel_rfl)) ?_
              try go_wp2
              go_ret
              exact ⟨by first | rfl | (simp [errW_none, errW_some] <;> rfl) | (simp only [← hji16]; first | rfl | (simp [errW_none, errW_some] <;> rfl)) | (simp [*, errW_none, errW_some] <;> rfl), by repeat (first | (with_reducible first | exact HB.out | apply below_alloc | apply pw_below_drewN | apply below_drew1 | refine below_set ?_ GE202.out | refine below_set ?_ GE205.out) | exact HB.out)⟩
            ·
             rw [if_neg c18] at H
             exact absurd H (by simp)
           ·
            rw [if_neg c17] at H
            exact absurd H (by simp)
          ·
           rw [if_neg c15] at H
           have c15b0 : decide (0 < x18_2) = false := decide_eq_false c15
           clear c15
           by_cases c45 : (((rd_T102 l0_1 x18_2).f1).length : Int) = 0
           ·
            rw [if_pos c45] at H
            have c45b0 : ((((rd_T102 l0_1 x18_2).f1).length : Int) == 0) = true := beq_iff_eq.mpr c45
            have c45b1 : ((((rd_T102 l0_1 x18_2).f1).length : Int) != 0) = false := bne_eq_false_iff_eq.mpr c45
            clear c45
            obtain rfl := Option.some.inj H
            have p204 : 0 ≤ (x18_2 : Int) := dT
            have q204 : x18_2 < (l0_1.length : Int) := dT
            obtain ⟨ad204, A204_1, c204_1, e204, hx204_0, hx204_1, hl204_1, hi204_1⟩ := at_T102 HR0_1.out x18_2 p204 q204
            cases e204
            try have hz_hx204_0 := aM hx204_0
            try have hz_hx204_1 := aM hx204_1
            replace hx204_0 := (HB.out.cell (World.block_lt_of_cell? w _ hx204_0)).trans hx204_0
            replace hx204_1 := (HB.out.cell (World.block_lt_of_cell? w _ hx204_1)).trans hx204_1
            have HR204_1 := aM hi204_1
            have HC204_1 := aM hl204_1
            clear hi204_1 hl204_1
            replace p204 := eq_true p204
            replace q204 := eq_true q204
            try go_wp2_with (first | ((with_reducible refine gate_dst (N := 4) rfl ?_); (try (refine gate_guard (by rfl) ?_; dsimp only)); refine box_event ?hg (N := 4) ?hd (cs := #[.string (⟨#[]⟩ : ByteArray), .slice none 0 0]) (t := 102) ?hr ?_; (case hd => rfl); (case hg => rfl); (case hr => first | (go_simp; done) | (go_simp; rfl)); intro gb205 hg w46 hbox hb; have n0_ := aM (blk_below (g := gb202) (o := .cells #[.int .i64 a0_0, .slice (some ad204) l0_1.length c0_1] 33 (0, 0)) (by (with_reducible repeat (first | refine blk_drewN ?_ _ | refine blk_drew ?_ | refine blk_alloc ?_ _)); exact BK202.out) hb); have n1_ := aM (below_step (by repeat (first | (with_reducible first | exact HB.out | apply below_alloc | apply pw_below_drewN | apply below_drew1 | refine below_set ?_ GE202.out) | exact HB.out)) hb); have n2_ := aM (hbox); have n3_ := aM ((by rw [hg]; exact (below_size (by repeat (first | (with_reducible first | exact HB.out | apply below_alloc | apply pw_below_drewN | apply below_drew1 | refine below_set ?_ GE202.out) | exact HB.out))) : w.heap.size ≤ gb205)); have n4_ := aM ((by rw [hg]; exact (below_size (by repeat (first | (with_reducible first | exact HB.out | apply below_alloc | apply pw_below_drewN | apply below_drew1 | refine below_set ?_ GE202.out) | exact HB.out))) : w.heap.size ≤ gb205)); have n5_ := aM ((by rw [hg]; exact Nat.ne_of_lt (blk_lt (g := gb202) (o := .cells #[.int .i64 a0_0, .slice (some ad204) l0_1.length c0_1] 33 (0, 0)) (by (with_reducible repeat (first | refine blk_drewN ?_ _ | refine blk_drew ?_ | refine blk_alloc ?_ _)); exact BK202.out)) : gb202 ≠ gb205)); have n6_ := aM ((by rw [hg]; exact Nat.ne_of_gt (blk_lt (g := gb202) (o := .cells #[.int .i64 a0_0, .slice (some ad204) l0_1.length c0_1] 33 (0, 0)) (by (with_reducible repeat (first | refine blk_drewN ?_ _ | refine blk_drew ?_ | refine blk_alloc ?_ _)); exact BK202.out)) : gb205 ≠ gb202)); clear BK202; clear HB; have BK202 := n0_; have HB := n1_; have BK205 := n2_; have GW205 := n3_; have GE205 := n4_; have NB202_205 := n5_; have NB205_202 := n6_; clear n0_ n1_ n2_ n3_ n4_ n5_ n6_; clear hb hbox hg; have hnb47 := NB205_202.out; have hnc47 := NB202_205.out; have hcz48_0 : w46.cell? ⟨gb205, 0, none⟩ = some (.string (⟨#[]⟩ : ByteArray)) := (blk_cell BK205.out 0).trans rfl; have hcz48_1 : w46.cell? ⟨gb205, 1, none⟩ = some (.slice none 0 0) := (blk_cell BK205.out 1).trans rfl; have hfz48_0 := blk_frozen BK205.out 0; have hfz48_1 := blk_frozen BK205.out 1))
            have n0_ : Aside0 (((w46.setCell ⟨gb205, 0, none⟩ (.string ((rd_T102 l0_1 x18_2).f0))).setCell ⟨gb205, 1, none⟩ (.slice A204_1 ((rd_T102 l0_1 x18_2).f1).length c204_1)).heap[gb202]? = some (.cells #[.int .i64 a0_0, .slice (some ad204) l0_1.length c0_1] 33 (0, 0))) := ⟨by (with_reducible repeat (first | refine blk_drewN ?_ _ | refine blk_drew ?_ | refine blk_alloc ?_ _)); refine blk_far ?_ NB202_205.out _; (with_reducible repeat (first | refine blk_drewN ?_ _ | refine blk_drew ?_ | refine blk_alloc ?_ _)); refine blk_far ?_ NB202_205.out _; (with_reducible repeat (first | refine blk_drewN ?_ _ | refine blk_drew ?_ | refine blk_alloc ?_ _)); exact BK202.out⟩
            have n1_ : Aside0 (((w46.setCell ⟨gb205, 0, none⟩ (.string ((rd_T102 l0_1 x18_2).f0))).setCell ⟨gb205, 1, none⟩ (.slice A204_1 ((rd_T102 l0_1 x18_2).f1).length c204_1)).heap[gb205]? = some (.cells #[.string ((rd_T102 l0_1 x18_2).f0), .slice A204_1 ((rd_T102 l0_1 x18_2).f1).length c204_1] 102 (0, 0))) := ⟨by (with_reducible repeat (first | refine blk_drewN ?_ _ | refine blk_drew ?_ | refine blk_alloc ?_ _)); refine blk_put (cs := #[.string ((rd_T102 l0_1 x18_2).f0), .slice none 0 0]) ?_ 1 _ rfl; (with_reducible repeat (first | refine blk_drewN ?_ _ | refine blk_drew ?_ | refine blk_alloc ?_ _)); refine blk_put (cs := #[.string (⟨#[]⟩ : ByteArray), .slice none 0 0]) ?_ 0 _ rfl; (with_reducible repeat (first | refine blk_drewN ?_ _ | refine blk_drew ?_ | refine blk_alloc ?_ _)); exact BK205.out⟩
            have n2_ : Aside0 (Below w.heap.size w ((w46.setCell ⟨gb205, 0, none⟩ (.string ((rd_T102 l0_1 x18_2).f0))).setCell ⟨gb205, 1, none⟩ (.slice A204_1 ((rd_T102 l0_1 x18_2).f1).length c204_1))) := ⟨by repeat (first | (with_reducible first | exact HB.out | apply below_alloc | apply pw_below_drewN | apply below_drew1 | refine below_set ?_ GE202.out | refine below_set ?_ GE205.out) | exact HB.out)⟩
            (try clear BK202)
            (try clear BK205)
            (try clear HB)
            generalize ((w46.setCell ⟨gb205, 0, none⟩ (.string ((rd_T102 l0_1 x18_2).f0))).setCell ⟨gb205, 1, none⟩ (.slice A204_1 ((rd_T102 l0_1 x18_2).f1).length c204_1)) = w49 at n0_ n1_ n2_ ⊢
            have BK202 := n0_
            have BK205 := n1_
            have HB := n2_
            clear n0_ n1_ n2_
            have n0_ := aM (blk_drew BK202.out)
            have n1_ := aM (blk_drew BK205.out)
            have n2_ := aM (below_drew1 HB.out)
            clear BK202
            clear BK205
            clear HB
            have BK202 := n0_
            have BK205 := n1_
            have HB := n2_
            clear n0_ n1_ n2_
            refine start_ (n := 35) (S := fun w' => w'.cell? ⟨gb205, 0, none⟩ = some (.string ((rd_T102 l0_1 x18_2).f0)) ∧ w'.cell? ⟨gb205, 1, none⟩ = some (.slice A204_1 ((rd_T102 l0_1 x18_2).f1).length c204_1)) (ds := []) (bq 35 0) (by kernel_rfl) rfl (by kernel_rfl) ⟨(blk_cell BK205.out 0).trans rfl, (blk_cell BK205.out 1).trans rfl⟩ (fun hHeld => ?_); refine with_tabW impl_GoodWords.tab6 impl_GoodWords.bits6 (fun HT_ HW_ => ?_)
            generalize w49.drew = w50 at BK202 BK205 HB hHeld ⊢
            refine pZ 35 1 0 23 HT_ ?_
            refine tZ2 35 3 1 24 HT_ HW_ hHeld ?_
            refine one_ (i := 2) (N := some 25) (bq 35 7) rfl rfl (one_of HT_.out (by kernel_rfl)) (by decide) (fun K hK => ?_)
            refine gA Try.func89 #[.string ((rd_T102 l0_1 x18_2).f0)] ?_
            with_reducible refine (impl_isWord.calls k2 ((rd_T102 l0_1 x18_2).f0) true _ A13.out).mono ?_
            rintro e w' ⟨rfl, ⟨nd, rfl⟩⟩
            refine ⟨_, rfl, ?_⟩
            refine hK.out _ _ ⟨(blk_cell BK205.out 0).trans rfl, (blk_cell BK205.out 1).trans rfl⟩ (fun hHeld => ?_)
            clear hK K
            refine nM 25 ?_
            refine pZ 35 15 3 26 HT_ ?_
            refine pZ 35 31 4 27 HT_ ?_
            refine pZ 35 63 5 28 HT_ ?_
            refine pZ 35 127 6 29 HT_ ?_
            refine pZ 35 255 7 30 HT_ ?_
            refine pY 35 511 8 31 HT_ ?_
            refine pY 35 1023 9 32 HT_ ?_
            refine pY 35 2047 10 33 HT_ ?_
            refine pY 35 4095 11 34 HT_ ?_
            refine pY 35 8191 12 35 HT_ ?_
            refine pY 35 16383 13 36 HT_ ?_
            refine pY 35 32767 14 37 HT_ ?_
            refine pY 35 65535 15 38 HT_ ?_
            refine pY 35 131071 16 39 HT_ ?_
            refine pY 35 262143 17 40 HT_ ?_
            refine pZ 35 524287 18 41 HT_ ?_
            refine pZ 35 1048575 19 42 HT_ ?_
            refine pZ 35 2097151 20 43 HT_ ?_
            refine pZ 35 4194303 21 44 HT_ ?_
            refine tZ2 35 8388607 22 45 HT_ HW_ hHeld ?_
            refine pZ 35 16777215 23 46 HT_ ?_
            refine pZ 35 33554431 24 47 HT_ ?_
            refine pZ 35 67108863 25 48 HT_ ?_
            refine pZ 35 134217727 26 49 HT_ ?_
            refine pY 35 268435455 27 50 HT_ ?_
            refine pY 35 536870911 28 51 HT_ ?_
            refine pY 35 1073741823 29 52 HT_ ?_
            refine pY 35 2147483647 30 53 HT_ ?_
            refine pY 35 4294967295 31 54 HT_ ?_
            refine pY 35 8589934591 32 55 HT_ ?_
            refine pY 35 17179869183 33 56 HT_ ?_
            refine pZ 35 34359738367 34 57 HT_ ?_
            refine done_ (done_of HT_.out (by kernel_rfl)) ?_
            try go_wp2
            go_ret
            exact ⟨eR, by repeat (first | (with_reducible first | exact HB.out | apply below_alloc | apply pw_below_drewN | apply below_drew1 | refine below_set ?_ GE202.out | refine below_set ?_ GE205.out) | exact HB.out)⟩
           ·
            rw [if_neg c45] at H
            have c45b0 : ((((rd_T102 l0_1 x18_2).f1).length : Int) == 0) = false := beq_eq_false_iff_ne.mpr c45
            have c45b1 : ((((rd_T102 l0_1 x18_2).f1).length : Int) != 0) = true := bne_iff_ne.mpr c45
            have c45b2 : ¬ (((rd_T102 l0_1 x18_2).f1) = []) := fun h_ => c45 (by rw [h_]; rfl)
            replace H := Option.bind_eq_some_iff.mp H
            obtain ⟨t209, A510, H⟩ := H
            replace H : (if t209 = true then (impl_GoodWords.l0 k2 l0_1 (l0_1.length : Int) (wrap64 (x18_2 + 1)) a0_0 l0_1) else (some false)) = some r := H
            have A51 := aM A510
            clear A510
            by_cases c52 : t209 = true
            ·
             subst c52
             have H1 : (impl_GoodWords.l0 k2 l0_1 (l0_1.length : Int) (wrap64 (x18_2 + 1)) a0_0 l0_1) = some r := by rw [if_pos rfl] at H; exact H
             clear H
             have H := H1
             clear H1
             have H' := aM H
             clear H
             have p204 : 0 ≤ (x18_2 : Int) := dT
             have q204 : x18_2 < (l0_1.length : Int) := dT
             obtain ⟨ad204, A204_1, c204_1, e204, hx204_0, hx204_1, hl204_1, hi204_1⟩ := at_T102 HR0_1.out x18_2 p204 q204
             cases e204
             try have hz_hx204_0 := aM hx204_0
             try have hz_hx204_1 := aM hx204_1
             replace hx204_0 := (HB.out.cell (World.block_lt_of_cell? w _ hx204_0)).trans hx204_0
             replace hx204_1 := (HB.out.cell (World.block_lt_of_cell? w _ hx204_1)).trans hx204_1
             have HR204_1 := aM hi204_1
             have HC204_1 := aM hl204_1
             clear hi204_1 hl204_1
             replace p204 := eq_true p204
             replace q204 := eq_true q204
             try go_wp2_with (first | ((with_reducible refine gate_dst (N := 4) rfl ?_); (try (refine gate_guard (by rfl) ?_; dsimp only)); refine box_event ?hg (N := 4) ?hd (cs := #[.string (⟨#[]⟩ : ByteArray), .slice none 0 0]) (t := 102) ?hr ?_; (case hd => rfl); (case hg => rfl); (case hr => first | (go_simp; done) | (go_simp; rfl)); intro gb205 hg w53 hbox hb; have n0_ := aM (blk_below (g := gb202) (o := .cells #[.int .i64 a0_0, .slice (some ad204) l0_1.length c0_1] 33 (0, 0)) (by (with_reducible repeat (first | refine blk_drewN ?_ _ | refine blk_drew ?_ | refine blk_alloc ?_ _)); exact BK202.out) hb); have n1_ := aM (below_step (by repeat (first | (with_reducible first | exact HB.out | apply below_alloc | apply pw_below_drewN | apply below_drew1 | refine below_set ?_ GE202.out) | exact HB.out)) hb); have n2_ := aM (hbox); have n3_ := aM ((by rw [hg]; exact (below_size (by repeat (first | (with_reducible first | exact HB.out | apply below_alloc | apply pw_below_drewN | apply below_drew1 | refine below_set ?_ GE202.out) | exact HB.out))) : w.heap.size ≤ gb205)); have n4_ := aM ((by rw [hg]; exact (below_size (by repeat (first | (with_reducible first | exact HB.out | apply below_alloc | apply pw_below_drewN | apply below_drew1 | refine below_set ?_ GE202.out) | exact HB.out))) : w.heap.size ≤ gb205)); have n5_ := aM ((by rw [hg]; exact Nat.ne_of_lt (blk_lt (g := gb202) (o := .cells #[.int .i64 a0_0, .slice (some ad204) l0_1.length c0_1] 33 (0, 0)) (by (with_reducible repeat (first | refine blk_drewN ?_ _ | refine blk_drew ?_ | refine blk_alloc ?_ _)); exact BK202.out)) : gb202 ≠ gb205)); have n6_ := aM ((by rw [hg]; exact Nat.ne_of_gt (blk_lt (g := gb202) (o := .cells #[.int .i64 a0_0, .slice (some ad204) l0_1.length c0_1] 33 (0, 0)) (by (with_reducible repeat (first | refine blk_drewN ?_ _ | refine blk_drew ?_ | refine blk_alloc ?_ _)); exact BK202.out)) : gb205 ≠ gb202)); clear BK202; clear HB; have BK202 := n0_; have HB := n1_; have BK205 := n2_; have GW205 := n3_; have GE205 := n4_; have NB202_205 := n5_; have NB205_202 := n6_; clear n0_ n1_ n2_ n3_ n4_ n5_ n6_; clear hb hbox hg; have hnb54 := NB205_202.out; have hnc54 := NB202_205.out; have hcz55_0 : w53.cell? ⟨gb205, 0, none⟩ = some (.string (⟨#[]⟩ : ByteArray)) := (blk_cell BK205.out 0).trans rfl; have hcz55_1 : w53.cell? ⟨gb205, 1, none⟩ = some (.slice none 0 0) := (blk_cell BK205.out 1).trans rfl; have hfz55_0 := blk_frozen BK205.out 0; have hfz55_1 := blk_frozen BK205.out 1))
             have n0_ : Aside0 (((w53.setCell ⟨gb205, 0, none⟩ (.string ((rd_T102 l0_1 x18_2).f0))).setCell ⟨gb205, 1, none⟩ (.slice A204_1 ((rd_T102 l0_1 x18_2).f1).length c204_1)).heap[gb202]? = some (.cells #[.int .i64 a0_0, .slice (some ad204) l0_1.length c0_1] 33 (0, 0))) := ⟨by (with_reducible repeat (first | refine blk_drewN ?_ _ | refine blk_drew ?_ | refine blk_alloc ?_ _)); refine blk_far ?_ NB202_205.out _; (with_reducible repeat (first | refine blk_drewN ?_ _ | refine blk_drew ?_ | refine blk_alloc ?_ _)); refine blk_far ?_ NB202_205.out _; (with_reducible repeat (first | refine blk_drewN ?_ _ | refine blk_drew ?_ | refine blk_alloc ?_ _)); exact BK202.out⟩
             have n1_ : Aside0 (((w53.setCell ⟨gb205, 0, none⟩ (.string ((rd_T102 l0_1 x18_2).f0))).setCell ⟨gb205, 1, none⟩ (.slice A204_1 ((rd_T102 l0_1 x18_2).f1).length c204_1)).heap[gb205]? = some (.cells #[.string ((rd_T102 l0_1 x18_2).f0), .slice A204_1 ((rd_T102 l0_1 x18_2).f1).length c204_1] 102 (0, 0))) := ⟨by (with_reducible repeat (first | refine blk_drewN ?_ _ | refine blk_drew ?_ | refine blk_alloc ?_ _)); refine blk_put (cs := #[.string ((rd_T102 l0_1 x18_2).f0), .slice none 0 0]) ?_ 1 _ rfl; (with_reducible repeat (first | refine blk_drewN ?_ _ | refine blk_drew ?_ | refine blk_alloc ?_ _)); refine blk_put (cs := #[.string (⟨#[]⟩ : ByteArray), .slice none 0 0]) ?_ 0 _ rfl; (with_reducible repeat (first | refine blk_drewN ?_ _ | refine blk_drew ?_ | refine blk_alloc ?_ _)); exact BK205.out⟩
             have n2_ : Aside0 (Below w.heap.size w ((w53.setCell ⟨gb205, 0, none⟩ (.string ((rd_T102 l0_1 x18_2).f0))).setCell ⟨gb205, 1, none⟩ (.slice A204_1 ((rd_T102 l0_1 x18_2).f1).length c204_1))) := ⟨by repeat (first | (with_reducible first | exact HB.out | apply below_alloc | apply pw_below_drewN | apply below_drew1 | refine below_set ?_ GE202.out | refine below_set ?_ GE205.out) | exact HB.out)⟩
             (try clear BK202)
             (try clear BK205)
             (try clear HB)
             generalize ((w53.setCell ⟨gb205, 0, none⟩ (.string ((rd_T102 l0_1 x18_2).f0))).setCell ⟨gb205, 1, none⟩ (.slice A204_1 ((rd_T102 l0_1 x18_2).f1).length c204_1)) = w56 at n0_ n1_ n2_ ⊢
             have BK202 := n0_
             have BK205 := n1_
             have HB := n2_
             clear n0_ n1_ n2_
             have n0_ := aM (blk_drew BK202.out)
             have n1_ := aM (blk_drew BK205.out)
             have n2_ := aM (below_drew1 HB.out)
             clear BK202
             clear BK205
             clear HB
             have BK202 := n0_
             have BK205 := n1_
             have HB := n2_
             clear n0_ n1_ n2_
             refine start_ (n := 35) (S := fun w' => w'.cell? ⟨gb205, 0, none⟩ = some (.string ((rd_T102 l0_1 x18_2).f0)) ∧ w'.cell? ⟨gb205, 1, none⟩ = some (.slice A204_1 ((rd_T102 l0_1 x18_2).f1).length c204_1) ∧ w'.cell? ⟨gb202, 0, none⟩ = some (.int .i64 a0_0) ∧ w'.cell? ⟨gb202, 1, none⟩ = some (.slice (some ad204) l0_1.length c0_1)) (ds := []) (bq 35 0) (by kernel_rfl) rfl (by kernel_rfl) ⟨(blk_cell BK205.out 0).trans rfl, (blk_cell BK205.out 1).trans rfl, (blk_cell BK202.out 0).trans rfl, (blk_cell BK202.out 1).trans rfl⟩ (fun hHeld => ?_); refine with_tabW impl_GoodWords.tab6 impl_GoodWords.bits6 (fun HT_ HW_ => ?_)
             generalize w56.drew = w57 at BK202 BK205 HB hHeld ⊢
             refine pZ 35 1 0 23 HT_ ?_
             refine tZ4 35 3 1 24 HT_ HW_ hHeld ?_
             refine one_ (i := 2) (N := some 25) (bq 35 7) rfl rfl (one_of HT_.out (by kernel_rfl)) (by decide) (fun K hK => ?_)
             refine gA Try.func89 #[.string ((rd_T102 l0_1 x18_2).f0)] ?_
             with_reducible refine (impl_isWord.calls k2 ((rd_T102 l0_1 x18_2).f0) true _ A13.out).mono ?_
             rintro e w' ⟨rfl, ⟨nd, rfl⟩⟩
             refine ⟨_, rfl, ?_⟩
             refine hK.out _ _ ⟨(blk_cell BK205.out 0).trans rfl, (blk_cell BK205.out 1).trans rfl, (blk_cell BK202.out 0).trans rfl, (blk_cell BK202.out 1).trans rfl⟩ (fun hHeld => ?_)
             clear hK K
             refine nM 25 ?_
             refine pZ 35 15 3 26 HT_ ?_
             refine pZ 35 31 4 27 HT_ ?_
             refine pZ 35 63 5 28 HT_ ?_
             refine pZ 35 127 6 29 HT_ ?_
             refine pZ 35 255 7 30 HT_ ?_
             refine pY 35 511 8 31 HT_ ?_
             refine pY 35 1023 9 32 HT_ ?_
             refine pY 35 2047 10 33 HT_ ?_
             refine pY 35 4095 11 34 HT_ ?_
             refine pY 35 8191 12 35 HT_ ?_
             refine pY 35 16383 13 36 HT_ ?_
             refine pY 35 32767 14 37 HT_ ?_
             refine pY 35 65535 15 38 HT_ ?_
             refine pY 35 131071 16 39 HT_ ?_
             refine pY 35 262143 17 40 HT_ ?_
             refine pZ 35 524287 18 41 HT_ ?_
             refine pZ 35 1048575 19 42 HT_ ?_
             refine pZ 35 2097151 20 43 HT_ ?_
             refine pZ 35 4194303 21 44 HT_ ?_
             refine tZ4 35 8388607 22 45 HT_ HW_ hHeld ?_
             refine pZ 35 16777215 23 46 HT_ ?_
             refine pZ 35 33554431 24 47 HT_ ?_
             refine pZ 35 67108863 25 48 HT_ ?_
             refine pZ 35 134217727 26 49 HT_ ?_
             refine pZ 35 268435455 27 50 HT_ ?_
             refine pZ 35 805306367 29 52 HT_ ?_
             refine tZ4 35 1073741823 28 51 HT_ HW_ hHeld ?_
             refine tZ4 35 2147483647 30 53 HT_ HW_ hHeld ?_
             refine pZ 35 4294967295 31 54 HT_ ?_
             refine one_ (i := 32) (N := some 55) (bq 35 8589934591) rfl rfl (one_of HT_.out (by kernel_rfl)) (by decide) (fun K hK => ?_)
             refine gA Try.func90 #[.slice A204_1 ((rd_T102 l0_1 x18_2).f1).length c204_1, .int .i64 (wrap64 (a0_0 - 1))] ?_
             with_reducible refine (impl_postingsOK.calls k2 _ _ ((rd_T102 l0_1 x18_2).f1) (wrap64 (a0_0 - 1)) true _ ?side1 ?side2 A51.out).mono ?_
             (case side1 => repeat (first | exact (Kd.C_below HR204_1.out (by repeat (first | (with_reducible first | exact HB.out | apply below_alloc | apply pw_below_drewN | apply below_drew1 | refine below_set ?_ GE202.out | refine below_set ?_ GE205.out) | exact HB.out))) | (with_reducible refine Kd.C_alloc ?_ _) | (with_reducible refine Kd.C_drewN ?_ _) | (with_reducible refine Kd.C_drew ?_)))
             (case side2 => exact HC204_1.out)
             rintro e w58 ⟨rfl, hb⟩
             refine ⟨_, rfl, ?_⟩
             have n0_ := aM (blk_below (g := gb202) (o := .cells #[.int .i64 a0_0, .slice (some ad204) l0_1.length c0_1] 33 (0, 0)) (by (with_reducible repeat (first | refine blk_drewN ?_ _ | refine blk_drew ?_ | refine blk_alloc ?_ _)); exact BK202.out) hb)
             have n1_ := aM (blk_below (g := gb205) (o := .cells #[.string ((rd_T102 l0_1 x18_2).f0), .slice A204_1 ((rd_T102 l0_1 x18_2).f1).length c204_1] 102 (0, 0)) (by (with_reducible repeat (first | refine blk_drewN ?_ _ | refine blk_drew ?_ | refine blk_alloc ?_ _)); exact BK205.out) hb)
             have n2_ := aM (below_step (by repeat (first | (with_reducible first | exact HB.out | apply below_alloc | apply pw_below_drewN | apply below_drew1 | refine below_set ?_ GE202.out | refine below_set ?_ GE205.out) | exact HB.out)) hb)
             clear BK202
             clear BK205
             clear HB
             have BK202 := n0_
             have BK205 := n1_
             have HB := n2_
             clear n0_ n1_ n2_
             (try clear hb)
             (try clear hb2)
             (try clear hk)
             (try clear hi)
             refine hK.out _ _ ⟨(blk_cell BK205.out 0).trans rfl, (blk_cell BK205.out 1).trans rfl, (blk_cell BK202.out 0).trans rfl, (blk_cell BK202.out 1).trans rfl⟩ (fun hHeld => ?_)
             clear hK K
             refine nM 55 ?_
             refine pZ 35 17179869183 33 56 HT_ ?_
             refine pZ 35 34359738367 34 57 HT_ ?_
             refine done_ (done_of HT_.out (by kernel_rfl)) ?_
             try go_wp2
             go_roundg k2
             case measure => have := HJ1.out; have := HK2.out; omega
             case rel => exact ⟨(wrap64 (x18_2 + 1)), (by first | rfl | (simp; done) | (simp [*]; done)), H', ⟨by have := HJ1.out; have := HK2.out; omega⟩, ⟨by (with_reducible repeat (first | refine blk_drewN ?_ _ | refine blk_drew ?_ | refine blk_alloc ?_ _)); exact BK202.out⟩, ⟨by repeat (first | (with_reducible first | exact HB.out | apply below_alloc | apply pw_below_drewN | apply below_drew1 | refine below_set ?_ GE202.out | refine below_set ?_ GE205.out) | exact HB.out)⟩⟩
            ·
             replace c52 := Bool.eq_false_iff.mpr c52
             subst c52
             have H1 : (some false) = some r := by rw [if_neg (show ¬ (false = true) by decide)] at H; exact H
             clear H
             have H := H1
             clear H1
             obtain rfl := Option.some.inj H
             have p204 : 0 ≤ (x18_2 : Int) := dT
             have q204 : x18_2 < (l0_1.length : Int) := dT
             obtain ⟨ad204, A204_1, c204_1, e204, hx204_0, hx204_1, hl204_1, hi204_1⟩ := at_T102 HR0_1.out x18_2 p204 q204
             cases e204
             try have hz_hx204_0 := aM hx204_0
             try have hz_hx204_1 := aM hx204_1
             replace hx204_0 := (HB.out.cell (World.block_lt_of_cell? w _ hx204_0)).trans hx204_0
             replace hx204_1 := (HB.out.cell (World.block_lt_of_cell? w _ hx204_1)).trans hx204_1
             have HR204_1 := aM hi204_1
             have HC204_1 := aM hl204_1
             clear hi204_1 hl204_1
             replace p204 := eq_true p204
             replace q204 := eq_true q204
             try go_wp2_with (first | ((with_reducible refine gate_dst (N := 4) rfl ?_); (try (refine gate_guard (by rfl) ?_; dsimp only)); refine box_event ?hg (N := 4) ?hd (cs := #[.string (⟨#[]⟩ : ByteArray), .slice none 0 0]) (t := 102) ?hr ?_; (case hd => rfl); (case hg => rfl); (case hr => first | (go_simp; done) | (go_simp; rfl)); intro gb205 hg w59 hbox hb; have n0_ := aM (blk_below (g := gb202) (o := .cells #[.int .i64 a0_0, .slice (some ad204) l0_1.length c0_1] 33 (0, 0)) (by (with_reducible repeat (first | refine blk_drewN ?_ _ | refine blk_drew ?_ | refine blk_alloc ?_ _)); exact BK202.out) hb); have n1_ := aM (below_step (by repeat (first | (with_reducible first | exact HB.out | apply below_alloc | apply pw_below_drewN | apply below_drew1 | refine below_set ?_ GE202.out) | exact HB.out)) hb); have n2_ := aM (hbox); have n3_ := aM ((by rw [hg]; exact (below_size (by repeat (first | (with_reducible first | exact HB.out | apply below_alloc | apply pw_below_drewN | apply below_drew1 | refine below_set ?_ GE202.out) | exact HB.out))) : w.heap.size ≤ gb205)); have n4_ := aM ((by rw [hg]; exact (below_size (by repeat (first | (with_reducible first | exact HB.out | apply below_alloc | apply pw_below_drewN | apply below_drew1 | refine below_set ?_ GE202.out) | exact HB.out))) : w.heap.size ≤ gb205)); have n5_ := aM ((by rw [hg]; exact Nat.ne_of_lt (blk_lt (g := gb202) (o := .cells #[.int .i64 a0_0, .slice (some ad204) l0_1.length c0_1] 33 (0, 0)) (by (with_reducible repeat (first | refine blk_drewN ?_ _ | refine blk_drew ?_ | refine blk_alloc ?_ _)); exact BK202.out)) : gb202 ≠ gb205)); have n6_ := aM ((by rw [hg]; exact Nat.ne_of_gt (blk_lt (g := gb202) (o := .cells #[.int .i64 a0_0, .slice (some ad204) l0_1.length c0_1] 33 (0, 0)) (by (with_reducible repeat (first | refine blk_drewN ?_ _ | refine blk_drew ?_ | refine blk_alloc ?_ _)); exact BK202.out)) : gb205 ≠ gb202)); clear BK202; clear HB; have BK202 := n0_; have HB := n1_; have BK205 := n2_; have GW205 := n3_; have GE205 := n4_; have NB202_205 := n5_; have NB205_202 := n6_; clear n0_ n1_ n2_ n3_ n4_ n5_ n6_; clear hb hbox hg; have hnb60 := NB205_202.out; have hnc60 := NB202_205.out; have hcz61_0 : w59.cell? ⟨gb205, 0, none⟩ = some (.string (⟨#[]⟩ : ByteArray)) := (blk_cell BK205.out 0).trans rfl; have hcz61_1 : w59.cell? ⟨gb205, 1, none⟩ = some (.slice none 0 0) := (blk_cell BK205.out 1).trans rfl; have hfz61_0 := blk_frozen BK205.out 0; have hfz61_1 := blk_frozen BK205.out 1))
             have n0_ : Aside0 (((w59.setCell ⟨gb205, 0, none⟩ (.string ((rd_T102 l0_1 x18_2).f0))).setCell ⟨gb205, 1, none⟩ (.slice A204_1 ((rd_T102 l0_1 x18_2).f1).length c204_1)).heap[gb202]? = some (.cells #[.int .i64 a0_0, .slice (some ad204) l0_1.length c0_1] 33 (0, 0))) := ⟨by (with_reducible repeat (first | refine blk_drewN ?_ _ | refine blk_drew ?_ | refine blk_alloc ?_ _)); refine blk_far ?_ NB202_205.out _; (with_reducible repeat (first | refine blk_drewN ?_ _ | refine blk_drew ?_ | refine blk_alloc ?_ _)); refine blk_far ?_ NB202_205.out _; (with_reducible repeat (first | refine blk_drewN ?_ _ | refine blk_drew ?_ | refine blk_alloc ?_ _)); exact BK202.out⟩
             have n1_ : Aside0 (((w59.setCell ⟨gb205, 0, none⟩ (.string ((rd_T102 l0_1 x18_2).f0))).setCell ⟨gb205, 1, none⟩ (.slice A204_1 ((rd_T102 l0_1 x18_2).f1).length c204_1)).heap[gb205]? = some (.cells #[.string ((rd_T102 l0_1 x18_2).f0), .slice A204_1 ((rd_T102 l0_1 x18_2).f1).length c204_1] 102 (0, 0))) := ⟨by (with_reducible repeat (first | refine blk_drewN ?_ _ | refine blk_drew ?_ | refine blk_alloc ?_ _)); refine blk_put (cs := #[.string ((rd_T102 l0_1 x18_2).f0), .slice none 0 0]) ?_ 1 _ rfl; (with_reducible repeat (first | refine blk_drewN ?_ _ | refine blk_drew ?_ | refine blk_alloc ?_ _)); refine blk_put (cs := #[.string (⟨#[]⟩ : ByteArray), .slice none 0 0]) ?_ 0 _ rfl; (with_reducible repeat (first | refine blk_drewN ?_ _ | refine blk_drew ?_ | refine blk_alloc ?_ _)); exact BK205.out⟩
             have n2_ : Aside0 (Below w.heap.size w ((w59.setCell ⟨gb205, 0, none⟩ (.string ((rd_T102 l0_1 x18_2).f0))).setCell ⟨gb205, 1, none⟩ (.slice A204_1 ((rd_T102 l0_1 x18_2).f1).length c204_1))) := ⟨by repeat (first | (with_reducible first | exact HB.out | apply below_alloc | apply pw_below_drewN | apply below_drew1 | refine below_set ?_ GE202.out | refine below_set ?_ GE205.out) | exact HB.out)⟩
             (try clear BK202)
             (try clear BK205)
             (try clear HB)
             generalize ((w59.setCell ⟨gb205, 0, none⟩ (.string ((rd_T102 l0_1 x18_2).f0))).setCell ⟨gb205, 1, none⟩ (.slice A204_1 ((rd_T102 l0_1 x18_2).f1).length c204_1)) = w62 at n0_ n1_ n2_ ⊢
             have BK202 := n0_
             have BK205 := n1_
             have HB := n2_
             clear n0_ n1_ n2_
             have n0_ := aM (blk_drew BK202.out)
             have n1_ := aM (blk_drew BK205.out)
             have n2_ := aM (below_drew1 HB.out)
             clear BK202
             clear BK205
             clear HB
             have BK202 := n0_
             have BK205 := n1_
             have HB := n2_
             clear n0_ n1_ n2_
             refine start_ (n := 35) (S := fun w' => w'.cell? ⟨gb205, 0, none⟩ = some (.string ((rd_T102 l0_1 x18_2).f0)) ∧ w'.cell? ⟨gb205, 1, none⟩ = some (.slice A204_1 ((rd_T102 l0_1 x18_2).f1).length c204_1) ∧ w'.cell? ⟨gb202, 0, none⟩ = some (.int .i64 a0_0) ∧ w'.cell? ⟨gb202, 1, none⟩ = some (.slice (some ad204) l0_1.length c0_1)) (ds := []) (bq 35 0) (by kernel_rfl) rfl (by kernel_rfl) ⟨(blk_cell BK205.out 0).trans rfl, (blk_cell BK205.out 1).trans rfl, (blk_cell BK202.out 0).trans rfl, (blk_cell BK202.out 1).trans rfl⟩ (fun hHeld => ?_); refine with_tabW impl_GoodWords.tab6 impl_GoodWords.bits6 (fun HT_ HW_ => ?_)
             generalize w62.drew = w63 at BK202 BK205 HB hHeld ⊢
             refine pZ 35 1 0 23 HT_ ?_
             refine tZ4 35 3 1 24 HT_ HW_ hHeld ?_
             refine one_ (i := 2) (N := some 25) (bq 35 7) rfl rfl (one_of HT_.out (by kernel_rfl)) (by decide) (fun K hK => ?_)
             refine gA Try.func89 #[.string ((rd_T102 l0_1 x18_2).f0)] ?_
             with_reducible refine (impl_isWord.calls k2 ((rd_T102 l0_1 x18_2).f0) true _ A13.out).mono ?_
             rintro e w' ⟨rfl, ⟨nd, rfl⟩⟩
             refine ⟨_, rfl, ?_⟩
             refine hK.out _ _ ⟨(blk_cell BK205.out 0).trans rfl, (blk_cell BK205.out 1).trans rfl, (blk_cell BK202.out 0).trans rfl, (blk_cell BK202.out 1).trans rfl⟩ (fun hHeld => ?_)
             clear hK K
             refine nM 25 ?_
             refine pZ 35 15 3 26 HT_ ?_
             refine pZ 35 31 4 27 HT_ ?_
             refine pZ 35 63 5 28 HT_ ?_
             refine pZ 35 127 6 29 HT_ ?_
             refine pZ 35 255 7 30 HT_ ?_
             refine pY 35 511 8 31 HT_ ?_
             refine pY 35 1023 9 32 HT_ ?_
             refine pY 35 2047 10 33 HT_ ?_
             refine pY 35 4095 11 34 HT_ ?_
             refine pY 35 8191 12 35 HT_ ?_
             refine pY 35 16383 13 36 HT_ ?_
             refine pY 35 32767 14 37 HT_ ?_
             refine pY 35 65535 15 38 HT_ ?_
             refine pY 35 131071 16 39 HT_ ?_
             refine pY 35 262143 17 40 HT_ ?_
             refine pZ 35 524287 18 41 HT_ ?_
             refine pZ 35 1048575 19 42 HT_ ?_
             refine pZ 35 2097151 20 43 HT_ ?_
             refine pZ 35 4194303 21 44 HT_ ?_
             refine tZ4 35 8388607 22 45 HT_ HW_ hHeld ?_
             refine pZ 35 16777215 23 46 HT_ ?_
             refine pZ 35 33554431 24 47 HT_ ?_
             refine pZ 35 67108863 25 48 HT_ ?_
             refine pZ 35 134217727 26 49 HT_ ?_
             refine pZ 35 268435455 27 50 HT_ ?_
             refine pZ 35 805306367 29 52 HT_ ?_
             refine tZ4 35 1073741823 28 51 HT_ HW_ hHeld ?_
             refine tZ4 35 2147483647 30 53 HT_ HW_ hHeld ?_
             refine pZ 35 4294967295 31 54 HT_ ?_
             refine one_ (i := 32) (N := some 55) (bq 35 8589934591) rfl rfl (one_of HT_.out (by kernel_rfl)) (by decide) (fun K hK => ?_)
             refine gA Try.func90 #[.slice A204_1 ((rd_T102 l0_1 x18_2).f1).length c204_1, .int .i64 (wrap64 (a0_0 - 1))] ?_
             with_reducible refine (impl_postingsOK.calls k2 _ _ ((rd_T102 l0_1 x18_2).f1) (wrap64 (a0_0 - 1)) false _ ?side1 ?side2 A51.out).mono ?_
             (case side1 => repeat (first | exact (Kd.C_below HR204_1.out (by repeat (first | (with_reducible first | exact HB.out | apply below_alloc | apply pw_below_drewN | apply below_drew1 | refine below_set ?_ GE202.out | refine below_set ?_ GE205.out) | exact HB.out))) | (with_reducible refine Kd.C_alloc ?_ _) | (with_reducible refine Kd.C_drewN ?_ _) | (with_reducible refine Kd.C_drew ?_)))
             (case side2 => exact HC204_1.out)
             rintro e w64 ⟨rfl, hb⟩
             refine ⟨_, rfl, ?_⟩
             have n0_ := aM (blk_below (g := gb202) (o := .cells #[.int .i64 a0_0, .slice (some ad204) l0_1.length c0_1] 33 (0, 0)) (by (with_reducible repeat (first | refine blk_drewN ?_ _ | refine blk_drew ?_ | refine blk_alloc ?_ _)); exact BK202.out) hb)
             have n1_ := aM (blk_below (g := gb205) (o := .cells #[.string ((rd_T102 l0_1 x18_2).f0), .slice A204_1 ((rd_T102 l0_1 x18_2).f1).length c204_1] 102 (0, 0)) (by (with_reducible repeat (first | refine blk_drewN ?_ _ | refine blk_drew ?_ | refine blk_alloc ?_ _)); exact BK205.out) hb)
             have n2_ := aM (below_step (by repeat (first | (with_reducible first | exact HB.out | apply below_alloc | apply pw_below_drewN | apply below_drew1 | refine below_set ?_ GE202.out | refine below_set ?_ GE205.out) | exact HB.out)) hb)
             clear BK202
             clear BK205
             clear HB
             have BK202 := n0_
             have BK205 := n1_
             have HB := n2_
             clear n0_ n1_ n2_
             (try clear hb)
             (try clear hb2)
             (try clear hk)
             (try clear hi)
             refine hK.out _ _ ⟨(blk_cell BK205.out 0).trans rfl, (blk_cell BK205.out 1).trans rfl, (blk_cell BK202.out 0).trans rfl, (blk_cell BK202.out 1).trans rfl⟩ (fun hHeld => ?_)
             clear hK K
             refine nM 55 ?_
             refine pZ 35 17179869183 33 56 HT_ ?_
             refine pZ 35 34359738367 34 57 HT_ ?_
             refine done_ (done_of HT_.out (by kernel_rfl)) ?_
             try go_wp2
             go_ret
             exact ⟨eR, by repeat (first | (with_reducible first | exact HB.out | apply below_alloc | apply pw_below_drewN | apply below_drew1 | refine below_set ?_ GE202.out | refine below_set ?_ GE205.out) | exact HB.out)⟩
         ·
          replace c14 := Bool.eq_false_iff.mpr c14
          subst c14
          have H1 : (some false) = some r := by rw [if_neg (show ¬ (false = true) by decide)] at H; exact H
          clear H
          have H := H1
          clear H1
          obtain rfl := Option.some.inj H
          have p204 : 0 ≤ (x18_2 : Int) := dT
          have q204 : x18_2 < (l0_1.length : Int) := dT
          obtain ⟨ad204, A204_1, c204_1, e204, hx204_0, hx204_1, hl204_1, hi204_1⟩ := at_T102 HR0_1.out x18_2 p204 q204
          cases e204
          try have hz_hx204_0 := aM hx204_0
          try have hz_hx204_1 := aM hx204_1
          replace hx204_0 := (HB.out.cell (World.block_lt_of_cell? w _ hx204_0)).trans hx204_0
          replace hx204_1 := (HB.out.cell (World.block_lt_of_cell? w _ hx204_1)).trans hx204_1
          have HR204_1 := aM hi204_1
          have HC204_1 := aM hl204_1
          clear hi204_1 hl204_1
          replace p204 := eq_true p204
          replace q204 := eq_true q204
          try go_wp2_with (first | ((with_reducible refine gate_dst (N := 4) rfl ?_); (try (refine gate_guard (by rfl) ?_; dsimp only)); refine box_event ?hg (N := 4) ?hd (cs := #[.string (⟨#[]⟩ : ByteArray), .slice none 0 0]) (t := 102) ?hr ?_; (case hd => rfl); (case hg => rfl); (case hr => first | (go_simp; done) | (go_simp; rfl)); intro gb205 hg w65 hbox hb; have n0_ := aM (blk_below (g := gb202) (o := .cells #[.int .i64 a0_0, .slice (some ad204) l0_1.length c0_1] 33 (0, 0)) (by (with_reducible repeat (first | refine blk_drewN ?_ _ | refine blk_drew ?_ | refine blk_alloc ?_ _)); exact BK202.out) hb); have n1_ := aM (below_step (by repeat (first | (with_reducible first | exact HB.out | apply below_alloc | apply pw_below_drewN | apply below_drew1 | refine below_set ?_ GE202.out) | exact HB.out)) hb); have n2_ := aM (hbox); have n3_ := aM ((by rw [hg]; exact (below_size (by repeat (first | (with_reducible first | exact HB.out | apply below_alloc | apply pw_below_drewN | apply below_drew1 | refine below_set ?_ GE202.out) | exact HB.out))) : w.heap.size ≤ gb205)); have n4_ := aM ((by rw [hg]; exact (below_size (by repeat (first | (with_reducible first | exact HB.out | apply below_alloc | apply pw_below_drewN | apply below_drew1 | refine below_set ?_ GE202.out) | exact HB.out))) : w.heap.size ≤ gb205)); have n5_ := aM ((by rw [hg]; exact Nat.ne_of_lt (blk_lt (g := gb202) (o := .cells #[.int .i64 a0_0, .slice (some ad204) l0_1.length c0_1] 33 (0, 0)) (by (with_reducible repeat (first | refine blk_drewN ?_ _ | refine blk_drew ?_ | refine blk_alloc ?_ _)); exact BK202.out)) : gb202 ≠ gb205)); have n6_ := aM ((by rw [hg]; exact Nat.ne_of_gt (blk_lt (g := gb202) (o := .cells #[.int .i64 a0_0, .slice (some ad204) l0_1.length c0_1] 33 (0, 0)) (by (with_reducible repeat (first | refine blk_drewN ?_ _ | refine blk_drew ?_ | refine blk_alloc ?_ _)); exact BK202.out)) : gb205 ≠ gb202)); clear BK202; clear HB; have BK202 := n0_; have HB := n1_; have BK205 := n2_; have GW205 := n3_; have GE205 := n4_; have NB202_205 := n5_; have NB205_202 := n6_; clear n0_ n1_ n2_ n3_ n4_ n5_ n6_; clear hb hbox hg; have hnb66 := NB205_202.out; have hnc66 := NB202_205.out; have hcz67_0 : w65.cell? ⟨gb205, 0, none⟩ = some (.string (⟨#[]⟩ : ByteArray)) := (blk_cell BK205.out 0).trans rfl; have hcz67_1 : w65.cell? ⟨gb205, 1, none⟩ = some (.slice none 0 0) := (blk_cell BK205.out 1).trans rfl; have hfz67_0 := blk_frozen BK205.out 0; have hfz67_1 := blk_frozen BK205.out 1))
          have n0_ : Aside0 (((w65.setCell ⟨gb205, 0, none⟩ (.string ((rd_T102 l0_1 x18_2).f0))).setCell ⟨gb205, 1, none⟩ (.slice A204_1 ((rd_T102 l0_1 x18_2).f1).length c204_1)).heap[gb202]? = some (.cells #[.int .i64 a0_0, .slice (some ad204) l0_1.length c0_1] 33 (0, 0))) := ⟨by (with_reducible repeat (first | refine blk_drewN ?_ _ | refine blk_drew ?_ | refine blk_alloc ?_ _)); refine blk_far ?_ NB202_205.out _; (with_reducible repeat (first | refine blk_drewN ?_ _ | refine blk_drew ?_ | refine blk_alloc ?_ _)); refine blk_far ?_ NB202_205.out _; (with_reducible repeat (first | refine blk_drewN ?_ _ | refine blk_drew ?_ | refine blk_alloc ?_ _)); exact BK202.out⟩
          have n1_ : Aside0 (((w65.setCell ⟨gb205, 0, none⟩ (.string ((rd_T102 l0_1 x18_2).f0))).setCell ⟨gb205, 1, none⟩ (.slice A204_1 ((rd_T102 l0_1 x18_2).f1).length c204_1)).heap[gb205]? = some (.cells #[.string ((rd_T102 l0_1 x18_2).f0), .slice A204_1 ((rd_T102 l0_1 x18_2).f1).length c204_1] 102 (0, 0))) := ⟨by (with_reducible repeat (first | refine blk_drewN ?_ _ | refine blk_drew ?_ | refine blk_alloc ?_ _)); refine blk_put (cs := #[.string ((rd_T102 l0_1 x18_2).f0), .slice none 0 0]) ?_ 1 _ rfl; (with_reducible repeat (first | refine blk_drewN ?_ _ | refine blk_drew ?_ | refine blk_alloc ?_ _)); refine blk_put (cs := #[.string (⟨#[]⟩ : ByteArray), .slice none 0 0]) ?_ 0 _ rfl; (with_reducible repeat (first | refine blk_drewN ?_ _ | refine blk_drew ?_ | refine blk_alloc ?_ _)); exact BK205.out⟩
          have n2_ : Aside0 (Below w.heap.size w ((w65.setCell ⟨gb205, 0, none⟩ (.string ((rd_T102 l0_1 x18_2).f0))).setCell ⟨gb205, 1, none⟩ (.slice A204_1 ((rd_T102 l0_1 x18_2).f1).length c204_1))) := ⟨by repeat (first | (with_reducible first | exact HB.out | apply below_alloc | apply pw_below_drewN | apply below_drew1 | refine below_set ?_ GE202.out | refine below_set ?_ GE205.out) | exact HB.out)⟩
          (try clear BK202)
          (try clear BK205)
          (try clear HB)
          generalize ((w65.setCell ⟨gb205, 0, none⟩ (.string ((rd_T102 l0_1 x18_2).f0))).setCell ⟨gb205, 1, none⟩ (.slice A204_1 ((rd_T102 l0_1 x18_2).f1).length c204_1)) = w68 at n0_ n1_ n2_ ⊢
          have BK202 := n0_
          have BK205 := n1_
          have HB := n2_
          clear n0_ n1_ n2_
          have n0_ := aM (blk_drew BK202.out)
          have n1_ := aM (blk_drew BK205.out)
          have n2_ := aM (below_drew1 HB.out)
          clear BK202
          clear BK205
          clear HB
          have BK202 := n0_
          have BK205 := n1_
          have HB := n2_
          clear n0_ n1_ n2_
          refine start_ (n := 35) (S := fun w' => w'.cell? ⟨gb205, 0, none⟩ = some (.string ((rd_T102 l0_1 x18_2).f0)) ∧ w'.cell? ⟨gb205, 1, none⟩ = some (.slice A204_1 ((rd_T102 l0_1 x18_2).f1).length c204_1)) (ds := []) (bq 35 0) (by kernel_rfl) rfl (by kernel_rfl) ⟨(blk_cell BK205.out 0).trans rfl, (blk_cell BK205.out 1).trans rfl⟩ (fun hHeld => ?_); refine with_tabW impl_GoodWords.tab6 impl_GoodWords.bits6 (fun HT_ HW_ => ?_)
          generalize w68.drew = w69 at BK202 BK205 HB hHeld ⊢
          refine pZ 35 1 0 23 HT_ ?_
          refine tZ2 35 3 1 24 HT_ HW_ hHeld ?_
          refine one_ (i := 2) (N := some 25) (bq 35 7) rfl rfl (one_of HT_.out (by kernel_rfl)) (by decide) (fun K hK => ?_)
          refine gA Try.func89 #[.string ((rd_T102 l0_1 x18_2).f0)] ?_
          with_reducible refine (impl_isWord.calls k2 ((rd_T102 l0_1 x18_2).f0) false _ A13.out).mono ?_
          rintro e w' ⟨rfl, ⟨nd, rfl⟩⟩
          refine ⟨_, rfl, ?_⟩
          refine hK.out _ _ ⟨(blk_cell BK205.out 0).trans rfl, (blk_cell BK205.out 1).trans rfl⟩ (fun hHeld => ?_)
          clear hK K
          refine nM 25 ?_
          refine pZ 35 15 3 26 HT_ ?_
          refine pZ 35 31 4 27 HT_ ?_
          refine pY 35 63 5 28 HT_ ?_
          refine pY 35 127 6 29 HT_ ?_
          refine pY 35 255 7 30 HT_ ?_
          refine pY 35 511 8 31 HT_ ?_
          refine pY 35 1023 9 32 HT_ ?_
          refine pY 35 2047 10 33 HT_ ?_
          refine pY 35 4095 11 34 HT_ ?_
          refine pY 35 8191 12 35 HT_ ?_
          refine pY 35 16383 13 36 HT_ ?_
          refine pY 35 32767 14 37 HT_ ?_
          refine pY 35 65535 15 38 HT_ ?_
          refine pY 35 131071 16 39 HT_ ?_
          refine pY 35 262143 17 40 HT_ ?_
          refine pY 35 524287 18 41 HT_ ?_
          refine pZ 35 1048575 19 42 HT_ ?_
          refine pZ 35 2097151 20 43 HT_ ?_
          refine pY 35 4194303 21 44 HT_ ?_
          refine pY 35 8388607 22 45 HT_ ?_
          refine pY 35 16777215 23 46 HT_ ?_
          refine pY 35 33554431 24 47 HT_ ?_
          refine pZ 35 67108863 25 48 HT_ ?_
          refine pZ 35 134217727 26 49 HT_ ?_
          refine pY 35 268435455 27 50 HT_ ?_
          refine pY 35 536870911 28 51 HT_ ?_
          refine pY 35 1073741823 29 52 HT_ ?_
          refine pY 35 2147483647 30 53 HT_ ?_
          refine pY 35 4294967295 31 54 HT_ ?_
          refine pY 35 8589934591 32 55 HT_ ?_
          refine pY 35 17179869183 33 56 HT_ ?_
          refine pZ 35 34359738367 34 57 HT_ ?_
          refine done_ (done_of HT_.out (by kernel_rfl)) ?_
          try go_wp2
          go_ret
          exact ⟨eR, by repeat (first | (with_reducible first | exact HB.out | apply below_alloc | apply pw_below_drewN | apply below_drew1 | refine below_set ?_ GE202.out | refine below_set ?_ GE205.out) | exact HB.out)⟩
        ·
         rw [if_neg c12] at H
         exact absurd H (by simp)
       ·
        rw [if_neg c11] at H
        exact absurd H (by simp)
      ·
       rw [if_neg c10] at H
       have c10b0 : decide (x18_2 < (l0_1.length : Int)) = false := decide_eq_false c10
       clear c10
       obtain rfl := Option.some.inj H
       go_wp2
       go_ret
       exact ⟨eR, by repeat (first | (with_reducible first | exact HB.out | apply below_alloc | apply pw_below_drewN | apply below_drew1 | refine below_set ?_ GE202.out) | exact HB.out)⟩

def spec_GoodWords.l0 : Nat → List (S102) → Int → Int → Int → List (S102) → Option (Bool)
 | 0, _, _, _, _, _ => none
 | k + 1, x6, x7, x8, x230000, x230001 => if x8 < x7 then (if 0 ≤ x8 then (if x8 < (x6.length : Int) then ((spec_l10Word.f k ((rd_T102 x6 x8).f0)).bind fun t233 => (if t233 = true then (if (((rd_T102 x6 x8).f1).length : Int) = 0 then (some false) else ((spec_l10List.f k ((rd_T102 x6 x8).f1) x230000).bind fun t234 => (if t234 = true then (if x8 > 0 then (if 0 ≤ (wrap64 (x8 - 1)) then (if (wrap64 (x8 - 1)) < (x230001.length : Int) then (if ((Op.bytesLess (((rd_T102 x230001 (wrap64 (x8 - 1))).f0).toList) (((rd_T102 x6 x8).f0).toList)) = true) then (spec_GoodWords.l0 k x6 x7 (wrap64 (x8 + 1)) x230000 x230001) else (some false)) else (none)) else (none)) else (spec_GoodWords.l0 k x6 x7 (wrap64 (x8 + 1)) x230000 x230001)) else (some false)))) else (some false))) else (none)) else (none)) else ((spec_l1In.f x230000 0 40).bind fun t230 => (if t230 = true then (some (decide ((x230001.length : Int) ≤ 200))) else (some false)))
def spec_GoodWords.f (k : Nat) (a0_0 : Int) (l0_1 : List (S102)) : Option (Bool) := spec_GoodWords.l0 k l0_1 (l0_1.length : Int) 0 a0_0 l0_1
def spec_GoodWords.T4 : Bool × List (List Nat × List Nat) := (true, [([], []), ([0], [0]), ([1], [1]), ([2], [2]), ([3, 2], [3]), ([4], [4]), ([5, 4], [4, 5]), ([6, 4], [4, 6]), ([7, 4], [4, 7]), ([4, 8], [4, 8]), ([9, 4], [9]), ([10], [10]), ([11, 10], [10, 11]), ([10], [10]), ([13, 10], [10, 13]), ([12, 14, 10, 10], [10, 12, 14]), ([15, 10], [10, 15]), ([10, 16], [10, 16]), ([17, 15], [17]), ([18], [18]), ([19, 18], [18, 19]), ([20, 18, 18], [18, 20]), ([21], [21]), ([22, 21], [21, 22]), ([21], [21]), ([24, 21], [21, 24]), ([23, 25, 21], [21, 23, 25]), ([26, 21], [21, 26]), ([27, 21], [21, 27]), ([21], [21]), ([29, 21], [21, 29]), ([28, 30, 21], [21, 28, 30]), ([21, 31, 18], [18, 21, 31]), ([18, 32], [18, 32])])
def spec_GoodWords.B4 : List Nat := [0, 1, 3, 7, 15, 31, 63, 127, 255, 511, 1023, 2047, 4095, 2047, 10239, 32767, 65535, 131071, 262143, 524287, 1048575, 2097151, 4194303, 8388607, 4194303, 20971519, 67108863, 134217727, 268435455, 4194303, 541065215, 2147483647, 4294967295, 8589934591]
theorem spec_GoodWords.tab4 : rtab .any (opsOf Try.f44 4) = spec_GoodWords.T4 := by kernel_rfl
theorem spec_GoodWords.bits4 : waitsOk spec_GoodWords.T4.2 spec_GoodWords.B4 = true := by kernel_rfl
set_option maxHeartbeats 8000000 in
set_option maxRecDepth 100000 in
theorem spec_GoodWords.calls (k : Nat) (a0_0 : Int) (A0_1 : Option Addr) (c0_1 : Nat) (l0_1 : List (S102)) (r : Bool) (w : World) (hr0_1 : Kd.C k102 w A0_1 l0_1.length l0_1) (hc0_1 : l0_1.length ≤ c0_1) (h : spec_GoodWords.f k a0_0 l0_1 = some r) :
  Calls Try.prog 44 #[.agg #[.int .i64 a0_0, .slice A0_1 l0_1.length c0_1]] w fun e w' => e = .returned (.bool r) ∧ Below w.heap.size w w' := by
 have hu33 := Try.underlying33
 have hu102 := Try.underlying102
 have HR0_1 := aM hr0_1
 have HC0_1 := aM hc0_1
 clear hr0_1 hc0_1
 have HB := aM (Below.refl w.heap.size w)
 have H : (spec_GoodWords.l0 k l0_1 (l0_1.length : Int) 0 a0_0 l0_1) = some r := h
 clear h
 have H' := aM H
 clear H
 go_enter Try.func44, Try.ntmps44
 go_wp2_with (first | ((with_reducible refine gate_dst (N := 1) rfl ?_); (try (refine gate_guard (by rfl) ?_; dsimp only)); refine box_event ?hg (N := 1) ?hd (cs := #[.int .i64 a0_0, .slice A0_1 l0_1.length c0_1]) (t := 33) ?hr ?_; (case hd => rfl); (case hg => rfl); (case hr => first | (go_simp; done) | (go_simp; rfl)); intro gb229 hg w2 hbox hb; have n0_ := aM (below_step (by repeat (first | (with_reducible first | exact HB.out | apply below_alloc | apply pw_below_drewN | apply below_drew1) | exact HB.out)) hb); have n1_ := aM (hbox); have n2_ := aM ((by rw [hg]; exact (below_size (by repeat (first | (with_reducible first | exact HB.out | apply below_alloc | apply pw_below_drewN | apply below_drew1) | exact HB.out))) : w.heap.size ≤ gb229)); have n3_ := aM ((by rw [hg]; exact (below_size (by repeat (first | (with_reducible first | exact HB.out | apply below_alloc | apply pw_below_drewN | apply below_drew1) | exact HB.out))) : w.heap.size ≤ gb229)); clear HB; have HB := n0_; have BK229 := n1_; have GW229 := n2_; have GE229 := n3_; clear n0_ n1_ n2_ n3_; clear hb hbox hg; have hcz3_0 : w2.cell? ⟨gb229, 0, none⟩ = some (.int .i64 a0_0) := (blk_cell BK229.out 0).trans rfl; have hcz3_1 : w2.cell? ⟨gb229, 1, none⟩ = some (.slice A0_1 l0_1.length c0_1) := (blk_cell BK229.out 1).trans rfl; have hfz3_0 := blk_frozen BK229.out 0; have hfz3_1 := blk_frozen BK229.out 1))
 go_loopg [8] k (fun kq v8 w' => ∃ (x8_1 : Int), v8 = .int .i64 x8_1 ∧ Aside0 (spec_GoodWords.l0 kq l0_1 (l0_1.length : Int) x8_1 a0_0 l0_1 = some r) ∧ Aside0 (kq ≤ k) ∧ Aside0 (w'.heap[gb229]? = some (.cells #[.int .i64 a0_0, (.slice A0_1 l0_1.length c0_1)] 33 (0, 0))) ∧ Aside0 (Below w.heap.size w w'))
 case atStart => exact ⟨(0), (by first | rfl | (simp; done) | (simp [*]; done)), H', ⟨Nat.le_refl _⟩, ⟨by (with_reducible repeat (first | refine blk_drewN ?_ _ | refine blk_drew ?_ | refine blk_alloc ?_ _)); exact BK229.out⟩, ⟨by repeat (first | (with_reducible first | exact HB.out | apply below_alloc | apply pw_below_drewN | apply below_drew1 | refine below_set ?_ GE229.out) | exact HB.out)⟩⟩
 case round =>
  clear H'
  try clear p2
  try clear hcz3_0
  try clear hcz3_1
  try clear hfz3_0
  try clear hfz3_1
  obtain ⟨x8_1, rfl, HA, HK1, BK229, HB⟩ := hrel
  cases gk with
  | zero => exact absurd HA.out (by simp [spec_GoodWords.l0])
  | succ k1 =>
   have H := HA.out
   clear HA
   simp only [spec_GoodWords.l0] at H
   by_cases c4 : x8_1 < (l0_1.length : Int)
   ·rw [if_pos c4] at H
    have c4b0 : decide (x8_1 < (l0_1.length : Int)) = true := decide_eq_true c4
    clear c4
    by_cases c5 : 0 ≤ x8_1
    ·rw [if_pos c5] at H
     have c5b0 : decide (0 ≤ x8_1) = true := decide_eq_true c5
     clear c5
     by_cases c6 : x8_1 < (l0_1.length : Int)
     ·rw [if_pos c6] at H
      have c6b0 : decide (x8_1 < (l0_1.length : Int)) = true := decide_eq_true c6
      clear c6
      replace H := Option.bind_eq_some_iff.mp H
      obtain ⟨t233, A70, H⟩ := H
      replace H : (if t233 = true then (if (((rd_T102 l0_1 x8_1).f1).length : Int) = 0 then (some false) else ((spec_l10List.f k1 ((rd_T102 l0_1 x8_1).f1) a0_0).bind fun t234 => (if t234 = true then (if x8_1 > 0 then (if 0 ≤ (wrap64 (x8_1 - 1)) then (if (wrap64 (x8_1 - 1)) < (l0_1.length : Int) then (if ((Op.bytesLess (((rd_T102 l0_1 (wrap64 (x8_1 - 1))).f0).toList) (((rd_T102 l0_1 x8_1).f0).toList)) = true) then (spec_GoodWords.l0 k1 l0_1 (l0_1.length : Int) (wrap64 (x8_1 + 1)) a0_0 l0_1) else (some false)) else (none)) else (none)) else (spec_GoodWords.l0 k1 l0_1 (l0_1.length : Int) (wrap64 (x8_1 + 1)) a0_0 l0_1)) else (some false)))) else (some false)) = some r := H
      have A7 := aM A70
      clear A70
      by_cases c8 : t233 = true
      ·subst c8
       have H1 : (if (((rd_T102 l0_1 x8_1).f1).length : Int) = 0 then (some false) else ((spec_l10List.f k1 ((rd_T102 l0_1 x8_1).f1) a0_0).bind fun t234 => (if t234 = true then (if x8_1 > 0 then (if 0 ≤ (wrap64 (x8_1 - 1)) then (if (wrap64 (x8_1 - 1)) < (l0_1.length : Int) then (if ((Op.bytesLess (((rd_T102 l0_1 (wrap64 (x8_1 - 1))).f0).toList) (((rd_T102 l0_1 x8_1).f0).toList)) = true) then (spec_GoodWords.l0 k1 l0_1 (l0_1.length : Int) (wrap64 (x8_1 + 1)) a0_0 l0_1) else (some false)) else (none)) else (none)) else (spec_GoodWords.l0 k1 l0_1 (l0_1.length : Int) (wrap64 (x8_1 + 1)) a0_0 l0_1)) else (some false)))) = some r := by rw [if_pos rfl] at H; exact H
       clear H
       have H := H1
       clear H1
       by_cases c9 : (((rd_T102 l0_1 x8_1).f1).length : Int) = 0
       ·rw [if_pos c9] at H
        have c9b0 : ((((rd_T102 l0_1 x8_1).f1).length : Int) == 0) = true := beq_iff_eq.mpr c9
        have c9b1 : ((((rd_T102 l0_1 x8_1).f1).length : Int) != 0) = false := bne_eq_false_iff_eq.mpr c9
        clear c9
        obtain rfl := Option.some.inj H
        have p231 : 0 ≤ (x8_1 : Int) := dT
        have q231 : x8_1 < (l0_1.length : Int) := dT
        obtain ⟨ad231, A231_1, c231_1, e231, hx231_0, hx231_1, hl231_1, hi231_1⟩ := at_T102 HR0_1.out x8_1 p231 q231
        cases e231
        try have hz_hx231_0 := aM hx231_0
        try have hz_hx231_1 := aM hx231_1
        replace hx231_0 := (HB.out.cell (World.block_lt_of_cell? w _ hx231_0)).trans hx231_0
        replace hx231_1 := (HB.out.cell (World.block_lt_of_cell? w _ hx231_1)).trans hx231_1
        have HR231_1 := aM hi231_1
        have HC231_1 := aM hl231_1
        clear hi231_1 hl231_1
        replace p231 := eq_true p231
        replace q231 := eq_true q231
        try go_wp2_with (first | ((with_reducible refine gate_dst (N := 4) rfl ?_); (try (refine gate_guard (by rfl) ?_; dsimp only)); refine box_event ?hg (N := 4) ?hd (cs := #[.string (⟨#[]⟩ : ByteArray), .slice none 0 0]) (t := 102) ?hr ?_; (case hd => rfl); (case hg => rfl); (case hr => first | (go_simp; done) | (go_simp; rfl)); intro gb232 hg w10 hbox hb; have n0_ := aM (blk_below (g := gb229) (o := .cells #[.int .i64 a0_0, .slice (some ad231) l0_1.length c0_1] 33 (0, 0)) (by (with_reducible repeat (first | refine blk_drewN ?_ _ | refine blk_drew ?_ | refine blk_alloc ?_ _)); exact BK229.out) hb); have n1_ := aM (below_step (by repeat (first | (with_reducible first | exact HB.out | apply below_alloc | apply pw_below_drewN | apply below_drew1 | refine below_set ?_ GE229.out) | exact HB.out)) hb); have n2_ := aM (hbox); have n3_ := aM ((by rw [hg]; exact (below_size (by repeat (first | (with_reducible first | exact HB.out | apply below_alloc | apply pw_below_drewN | apply below_drew1 | refine below_set ?_ GE229.out) | exact HB.out))) : w.heap.size ≤ gb232)); have n4_ := aM ((by rw [hg]; exact (below_size (by repeat (first | (with_reducible first | exact HB.out | apply below_alloc | apply pw_below_drewN | apply below_drew1 | refine below_set ?_ GE229.out) | exact HB.out))) : w.heap.size ≤ gb232)); have n5_ := aM ((by rw [hg]; exact Nat.ne_of_lt (blk_lt (g := gb229) (o := .cells #[.int .i64 a0_0, .slice (some ad231) l0_1.length c0_1] 33 (0, 0)) (by (with_reducible repeat (first | refine blk_drewN ?_ _ | refine blk_drew ?_ | refine blk_alloc ?_ _)); exact BK229.out)) : gb229 ≠ gb232)); have n6_ := aM ((by rw [hg]; exact Nat.ne_of_gt (blk_lt (g := gb229) (o := .cells #[.int .i64 a0_0, .slice (some ad231) l0_1.length c0_1] 33 (0, 0)) (by (with_reducible repeat (first | refine blk_drewN ?_ _ | refine blk_drew ?_ | refine blk_alloc ?_ _)); exact BK229.out)) : gb232 ≠ gb229)); clear BK229; clear HB; have BK229 := n0_; have HB := n1_; have BK232 := n2_; have GW232 := n3_; have GE232 := n4_; have NB229_232 := n5_; have NB232_229 := n6_; clear n0_ n1_ n2_ n3_ n4_ n5_ n6_; clear hb hbox hg; have hnb11 := NB232_229.out; have hnc11 := NB229_232.out; have hcz12_0 : w10.cell? ⟨gb232, 0, none⟩ = some (.string (⟨#[]⟩ : ByteArray)) := (blk_cell BK232.out 0).trans rfl; have hcz12_1 : w10.cell? ⟨gb232, 1, none⟩ = some (.slice none 0 0) := (blk_cell BK232.out 1).trans rfl; have hfz12_0 := blk_frozen BK232.out 0; have hfz12_1 := blk_frozen BK232.out 1))
        have n0_ : Aside0 (((w10.setCell ⟨gb232, 0, none⟩ (.string ((rd_T102 l0_1 x8_1).f0))).setCell ⟨gb232, 1, none⟩ (.slice A231_1 ((rd_T102 l0_1 x8_1).f1).length c231_1)).heap[gb229]? = some (.cells #[.int .i64 a0_0, .slice (some ad231) l0_1.length c0_1] 33 (0, 0))) := ⟨by (with_reducible repeat (first | refine blk_drewN ?_ _ | refine blk_drew ?_ | refine blk_alloc ?_ _)); refine blk_far ?_ NB229_232.out _; (with_reducible repeat (first | refine blk_drewN ?_ _ | refine blk_drew ?_ | refine blk_alloc ?_ _)); refine blk_far ?_ NB229_232.out _; (with_reducible repeat (first | refine blk_drewN ?_ _ | refine blk_drew ?_ | refine blk_alloc ?_ _)); exact BK229.out⟩
        have n1_ : Aside0 (((w10.setCell ⟨gb232, 0, none⟩ (.string ((rd_T102 l0_1 x8_1).f0))).setCell ⟨gb232, 1, none⟩ (.slice A231_1 ((rd_T102 l0_1 x8_1).f1).length c231_1)).heap[gb232]? = some (.cells #[.string ((rd_T102 l0_1 x8_1).f0), .slice A231_1 ((rd_T102 l0_1 x8_1).f1).length c231_1] 102 (0, 0))) := ⟨by (with_reducible repeat (first | refine blk_drewN ?_ _ | refine blk_drew ?_ | refine blk_alloc ?_ _)); refine blk_put (cs := #[.string ((rd_T102 l0_1 x8_1).f0), .slice none 0 0]) ?_ 1 _ rfl; (with_reducible repeat (first | refine blk_drewN ?_ _ | refine blk_drew ?_ | refine blk_alloc ?_ _)); refine blk_put (cs := #[.string (⟨#[]⟩ : ByteArray), .slice none 0 0]) ?_ 0 _ rfl; (with_reducible repeat (first | refine blk_drewN ?_ _ | refine blk_drew ?_ | refine blk_alloc ?_ _)); exact BK232.out⟩
        have n2_ : Aside0 (Below w.heap.size w ((w10.setCell ⟨gb232, 0, none⟩ (.string ((rd_T102 l0_1 x8_1).f0))).setCell ⟨gb232, 1, none⟩ (.slice A231_1 ((rd_T102 l0_1 x8_1).f1).length c231_1))) := ⟨by repeat (first | (with_reducible first | exact HB.out | apply below_alloc | apply pw_below_drewN | apply below_drew1 | refine below_set ?_ GE229.out | refine below_set ?_ GE232.out) | exact HB.out)⟩
        (try clear BK229)
        (try clear BK232)
        (try clear HB)
        generalize ((w10.setCell ⟨gb232, 0, none⟩ (.string ((rd_T102 l0_1 x8_1).f0))).setCell ⟨gb232, 1, none⟩ (.slice A231_1 ((rd_T102 l0_1 x8_1).f1).length c231_1)) = w13 at n0_ n1_ n2_ ⊢
        have BK229 := n0_
        have BK232 := n1_
        have HB := n2_
        clear n0_ n1_ n2_
        have n0_ := aM (blk_drew BK229.out)
        have n1_ := aM (blk_drew BK232.out)
        have n2_ := aM (below_drew1 HB.out)
        clear BK229
        clear BK232
        clear HB
        have BK229 := n0_
        have BK232 := n1_
        have HB := n2_
        clear n0_ n1_ n2_
        refine start_ (n := 34) (S := fun w' => w'.cell? ⟨gb232, 0, none⟩ = some (.string ((rd_T102 l0_1 x8_1).f0)) ∧ w'.cell? ⟨gb232, 1, none⟩ = some (.slice A231_1 ((rd_T102 l0_1 x8_1).f1).length c231_1)) (ds := []) (bq 34 0) (by kernel_rfl) rfl (by kernel_rfl) ⟨(blk_cell BK232.out 0).trans rfl, (blk_cell BK232.out 1).trans rfl⟩ (fun hHeld => ?_); refine with_tabW spec_GoodWords.tab4 spec_GoodWords.bits4 (fun HT_ HW_ => ?_)
        generalize w13.drew = w14 at BK229 BK232 HB hHeld ⊢
        refine pZ 34 1 0 13 HT_ ?_
        refine tZ2 34 3 1 14 HT_ HW_ hHeld ?_
        refine one_ (i := 2) (N := some 15) (bq 34 7) rfl rfl (one_of HT_.out (by kernel_rfl)) (by decide) (fun K hK => ?_)
        refine gA Try.func94 #[.string ((rd_T102 l0_1 x8_1).f0)] ?_
        with_reducible refine (spec_l10Word.calls k1 ((rd_T102 l0_1 x8_1).f0) true _ A7.out).mono ?_
        rintro e w15 ⟨rfl, hb⟩
        refine ⟨_, rfl, ?_⟩
        have n0_ := aM (blk_below (g := gb229) (o := .cells #[.int .i64 a0_0, .slice (some ad231) l0_1.length c0_1] 33 (0, 0)) (by (with_reducible repeat (first | refine blk_drewN ?_ _ | refine blk_drew ?_ | refine blk_alloc ?_ _)); exact BK229.out) hb)
        have n1_ := aM (blk_below (g := gb232) (o := .cells #[.string ((rd_T102 l0_1 x8_1).f0), .slice A231_1 ((rd_T102 l0_1 x8_1).f1).length c231_1] 102 (0, 0)) (by (with_reducible repeat (first | refine blk_drewN ?_ _ | refine blk_drew ?_ | refine blk_alloc ?_ _)); exact BK232.out) hb)
        have n2_ := aM (below_step (by repeat (first | (with_reducible first | exact HB.out | apply below_alloc | apply pw_below_drewN | apply below_drew1 | refine below_set ?_ GE229.out | refine below_set ?_ GE232.out) | exact HB.out)) hb)
        clear BK229
        clear BK232
        clear HB
        have BK229 := n0_
        have BK232 := n1_
        have HB := n2_
        clear n0_ n1_ n2_
        (try clear hb)
        (try clear hb2)
        (try clear hk)
        (try clear hi)
        refine hK.out _ _ ⟨(blk_cell BK232.out 0).trans rfl, (blk_cell BK232.out 1).trans rfl⟩ (fun hHeld => ?_)
        clear hK K
        refine nM 15 ?_
        refine pZ 34 15 3 16 HT_ ?_
        refine pZ 34 31 4 17 HT_ ?_
        refine pZ 34 63 5 18 HT_ ?_
        refine tZ2 34 127 6 19 HT_ HW_ hHeld ?_
        refine pZ 34 255 7 20 HT_ ?_
        refine pZ 34 511 8 21 HT_ ?_
        refine pZ 34 1023 9 22 HT_ ?_
        refine pZ 34 2047 10 23 HT_ ?_
        refine pY 34 4095 11 24 HT_ ?_
        refine pY 34 8191 12 25 HT_ ?_
        refine pY 34 16383 13 26 HT_ ?_
        refine pY 34 32767 14 27 HT_ ?_
        refine pY 34 65535 15 28 HT_ ?_
        refine pY 34 131071 16 29 HT_ ?_
        refine pZ 34 262143 17 30 HT_ ?_
        refine pZ 34 524287 18 31 HT_ ?_
        refine pY 34 1048575 19 32 HT_ ?_
        refine pY 34 2097151 20 33 HT_ ?_
        refine pY 34 4194303 21 34 HT_ ?_
        refine pY 34 8388607 22 35 HT_ ?_
        refine pY 34 16777215 23 36 HT_ ?_
        refine pY 34 33554431 24 37 HT_ ?_
        refine pY 34 67108863 25 38 HT_ ?_
        refine pY 34 134217727 26 39 HT_ ?_
        refine pY 34 268435455 27 40 HT_ ?_
        refine pY 34 536870911 28 41 HT_ ?_
        refine pY 34 1073741823 29 42 HT_ ?_
        refine pY 34 2147483647 30 43 HT_ ?_
        refine pY 34 4294967295 31 44 HT_ ?_
        refine pY 34 8589934591 32 45 HT_ ?_
        refine pZ 34 17179869183 33 46 HT_ ?_
        refine done_ (done_of HT_.out (by kernel_rfl)) ?_
        try go_wp2
        go_ret
        exact ⟨eR, by repeat (first | (with_reducible first | exact HB.out | apply below_alloc | apply pw_below_drewN | apply below_drew1 | refine below_set ?_ GE229.out | refine below_set ?_ GE232.out) | exact HB.out)⟩
       ·rw [if_neg c9] at H
        have c9b0 : ((((rd_T102 l0_1 x8_1).f1).length : Int) == 0) = false := beq_eq_false_iff_ne.mpr c9
        have c9b1 : ((((rd_T102 l0_1 x8_1).f1).length : Int) != 0) = true := bne_iff_ne.mpr c9
        have c9b2 : ¬ (((rd_T102 l0_1 x8_1).f1) = []) := fun h_ => c9 (by rw [h_]; rfl)
        replace H := Option.bind_eq_some_iff.mp H
        obtain ⟨t234, A160, H⟩ := H
        replace H : (if t234 = true then (if x8_1 > 0 then (if 0 ≤ (wrap64 (x8_1 - 1)) then (if (wrap64 (x8_1 - 1)) < (l0_1.length : Int) then (if ((Op.bytesLess (((rd_T102 l0_1 (wrap64 (x8_1 - 1))).f0).toList) (((rd_T102 l0_1 x8_1).f0).toList)) = true) then (spec_GoodWords.l0 k1 l0_1 (l0_1.length : Int) (wrap64 (x8_1 + 1)) a0_0 l0_1) else (some false)) else (none)) else (none)) else (spec_GoodWords.l0 k1 l0_1 (l0_1.length : Int) (wrap64 (x8_1 + 1)) a0_0 l0_1)) else (some false)) = some r := H
        have A16 := aM A160
        clear A160
        by_cases c17 : t234 = true
        ·subst c17
         have H1 : (if x8_1 > 0 then (if 0 ≤ (wrap64 (x8_1 - 1)) then (if (wrap64 (x8_1 - 1)) < (l0_1.length : Int) then (if ((Op.bytesLess (((rd_T102 l0_1 (wrap64 (x8_1 - 1))).f0).toList) (((rd_T102 l0_1 x8_1).f0).toList)) = true) then (spec_GoodWords.l0 k1 l0_1 (l0_1.length : Int) (wrap64 (x8_1 + 1)) a0_0 l0_1) else (some false)) else (none)) else (none)) else (spec_GoodWords.l0 k1 l0_1 (l0_1.length : Int) (wrap64 (x8_1 + 1)) a0_0 l0_1)) = some r := by rw [if_pos rfl] at H; exact H
         clear H
         have H := H1
         clear H1
         by_cases c18 : x8_1 > 0
         ·rw [if_pos c18] at H
          have c18b0 : decide (0 < x8_1) = true := decide_eq_true c18
          clear c18
          obtain ⟨ji19, hji19⟩ : ∃ j_ : Int, (wrap64 (x8_1 - 1)) = j_ := ⟨_, rfl⟩
          replace H : (if 0 ≤ (ji19) then (if (ji19) < (l0_1.length : Int) then (if ((Op.bytesLess (((rd_T102 l0_1 (ji19)).f0).toList) (((rd_T102 l0_1 x8_1).f0).toList)) = true) then (spec_GoodWords.l0 k1 l0_1 (l0_1.length : Int) (wrap64 (x8_1 + 1)) a0_0 l0_1) else (some false)) else (none)) else (none)) = some r := by first | (rw [hji19] at H; exact H) | (simp only [hji19] at H ⊢; exact H)
          (try rw [hji19] at A7)
          (try rw [hji19] at A16)
          have hji19w : (IntKind.i64.wrap (x8_1 - 1)) = ji19 := (i64_w _).trans hji19
          by_cases c20 : 0 ≤ (ji19)
          ·rw [if_pos c20] at H
           have c20b0 : decide (0 ≤ (ji19)) = true := decide_eq_true c20
           clear c20
           by_cases c21 : (ji19) < (l0_1.length : Int)
           ·rw [if_pos c21] at H
            have c21b0 : decide ((ji19) < (l0_1.length : Int)) = true := decide_eq_true c21
            clear c21
            by_cases c22 : ((Op.bytesLess (((rd_T102 l0_1 (ji19)).f0).toList) (((rd_T102 l0_1 x8_1).f0).toList)) = true)
            ·rw [if_pos c22] at H
             have c22b0 : (Op.bytesLess (((rd_T102 l0_1 (ji19)).f0).toList) (((rd_T102 l0_1 x8_1).f0).toList)) = true := c22
             clear c22
             have H' := aM H
             clear H
             have p231 : 0 ≤ (x8_1 : Int) := dT
             have q231 : x8_1 < (l0_1.length : Int) := dT
             obtain ⟨ad231, A231_1, c231_1, e231, hx231_0, hx231_1, hl231_1, hi231_1⟩ := at_T102 HR0_1.out x8_1 p231 q231
             cases e231
             try have hz_hx231_0 := aM hx231_0
             try have hz_hx231_1 := aM hx231_1
             replace hx231_0 := (HB.out.cell (World.block_lt_of_cell? w _ hx231_0)).trans hx231_0
             replace hx231_1 := (HB.out.cell (World.block_lt_of_cell? w _ hx231_1)).trans hx231_1
             have HR231_1 := aM hi231_1
             have HC231_1 := aM hl231_1
             clear hi231_1 hl231_1
             replace p231 := eq_true p231
             replace q231 := eq_true q231
             try go_wp2_with (first | ((with_reducible refine gate_dst (N := 4) rfl ?_); (try (refine gate_guard (by rfl) ?_; dsimp only)); refine box_event ?hg (N := 4) ?hd (cs := #[.string (⟨#[]⟩ : ByteArray), .slice none 0 0]) (t := 102) ?hr ?_; (case hd => rfl); (case hg => rfl); (case hr => first | (go_simp; done) | (go_simp; rfl)); intro gb232 hg w23 hbox hb; have n0_ := aM (blk_below (g := gb229) (o := .cells #[.int .i64 a0_0, .slice (some ad231) l0_1.length c0_1] 33 (0, 0)) (by (with_reducible repeat (first | refine blk_drewN ?_ _ | refine blk_drew ?_ | refine blk_alloc ?_ _)); exact BK229.out) hb); have n1_ := aM (below_step (by repeat (first | (with_reducible first | exact HB.out | apply below_alloc | apply pw_below_drewN | apply below_drew1 | refine below_set ?_ GE229.out) | exact HB.out)) hb); have n2_ := aM (hbox); have n3_ := aM ((by rw [hg]; exact (below_size (by repeat (first | (with_reducible first | exact HB.out | apply below_alloc | apply pw_below_drewN | apply below_drew1 | refine below_set ?_ GE229.out) | exact HB.out))) : w.heap.size ≤ gb232)); have n4_ := aM ((by rw [hg]; exact (below_size (by repeat (first | (with_reducible first | exact HB.out | apply below_alloc | apply pw_below_drewN | apply below_drew1 | refine below_set ?_ GE229.out) | exact HB.out))) : w.heap.size ≤ gb232)); have n5_ := aM ((by rw [hg]; exact Nat.ne_of_lt (blk_lt (g := gb229) (o := .cells #[.int .i64 a0_0, .slice (some ad231) l0_1.length c0_1] 33 (0, 0)) (by (with_reducible repeat (first | refine blk_drewN ?_ _ | refine blk_drew ?_ | refine blk_alloc ?_ _)); exact BK229.out)) : gb229 ≠ gb232)); have n6_ := aM ((by rw [hg]; exact Nat.ne_of_gt (blk_lt (g := gb229) (o := .cells #[.int .i64 a0_0, .slice (some ad231) l0_1.length c0_1] 33 (0, 0)) (by (with_reducible repeat (first | refine blk_drewN ?_ _ | refine blk_drew ?_ | refine blk_alloc ?_ _)); exact BK229.out)) : gb232 ≠ gb229)); clear BK229; clear HB; have BK229 := n0_; have HB := n1_; have BK232 := n2_; have GW232 := n3_; have GE232 := n4_; have NB229_232 := n5_; have NB232_229 := n6_; clear n0_ n1_ n2_ n3_ n4_ n5_ n6_; clear hb hbox hg; have hnb24 := NB232_229.out; have hnc24 := NB229_232.out; have hcz25_0 : w23.cell? ⟨gb232, 0, none⟩ = some (.string (⟨#[]⟩ : ByteArray)) := (blk_cell BK232.out 0).trans rfl; have hcz25_1 : w23.cell? ⟨gb232, 1, none⟩ = some (.slice none 0 0) := (blk_cell BK232.out 1).trans rfl; have hfz25_0 := blk_frozen BK232.out 0; have hfz25_1 := blk_frozen BK232.out 1))
             have n0_ : Aside0 (((w23.setCell ⟨gb232, 0, none⟩ (.string ((rd_T102 l0_1 x8_1).f0))).setCell ⟨gb232, 1, none⟩ (.slice A231_1 ((rd_T102 l0_1 x8_1).f1).length c231_1)).heap[gb229]? = some (.cells #[.int .i64 a0_0, .slice (some ad231) l0_1.length c0_1] 33 (0, 0))) := ⟨by (with_reducible repeat (first | refine blk_drewN ?_ _ | refine blk_drew ?_ | refine blk_alloc ?_ _)); refine blk_far ?_ NB229_232.out _; (with_reducible repeat (first | refine blk_drewN ?_ _ | refine blk_drew ?_ | refine blk_alloc ?_ _)); refine blk_far ?_ NB229_232.out _; (with_reducible repeat (first | refine blk_drewN ?_ _ | refine blk_drew ?_ | refine blk_alloc ?_ _)); exact BK229.out⟩
             have n1_ : Aside0 (((w23.setCell ⟨gb232, 0, none⟩ (.string ((rd_T102 l0_1 x8_1).f0))).setCell ⟨gb232, 1, none⟩ (.slice A231_1 ((rd_T102 l0_1 x8_1).f1).length c231_1)).heap[gb232]? = some (.cells #[.string ((rd_T102 l0_1 x8_1).f0), .slice A231_1 ((rd_T102 l0_1 x8_1).f1).length c231_1] 102 (0, 0))) := ⟨by (with_reducible repeat (first | refine blk_drewN ?_ _ | refine blk_drew ?_ | refine blk_alloc ?_ _)); refine blk_put (cs := #[.string ((rd_T102 l0_1 x8_1).f0), .slice none 0 0]) ?_ 1 _ rfl; (with_reducible repeat (first | refine blk_drewN ?_ _ | refine blk_drew ?_ | refine blk_alloc ?_ _)); refine blk_put (cs := #[.string (⟨#[]⟩ : ByteArray), .slice none 0 0]) ?_ 0 _ rfl; (with_reducible repeat (first | refine blk_drewN ?_ _ | refine blk_drew ?_ | refine blk_alloc ?_ _)); exact BK232.out⟩
             have n2_ : Aside0 (Below w.heap.size w ((w23.setCell ⟨gb232, 0, none⟩ (.string ((rd_T102 l0_1 x8_1).f0))).setCell ⟨gb232, 1, none⟩ (.slice A231_1 ((rd_T102 l0_1 x8_1).f1).length c231_1))) := ⟨by repeat (first | (with_reducible first | exact HB.out | apply below_alloc | apply pw_below_drewN | apply below_drew1 | refine below_set ?_ GE229.out | refine below_set ?_ GE232.out) | exact HB.out)⟩
             (try clear BK229)
             (try clear BK232)
             (try clear HB)
             generalize ((w23.setCell ⟨gb232, 0, none⟩ (.string ((rd_T102 l0_1 x8_1).f0))).setCell ⟨gb232, 1, none⟩ (.slice A231_1 ((rd_T102 l0_1 x8_1).f1).length c231_1)) = w26 at n0_ n1_ n2_ ⊢
             have BK229 := n0_
             have BK232 := n1_
             have HB := n2_
             clear n0_ n1_ n2_
             have n0_ := aM (blk_drew BK229.out)
             have n1_ := aM (blk_drew BK232.out)
             have n2_ := aM (below_drew1 HB.out)
             clear BK229
             clear BK232
             clear HB
             have BK229 := n0_
             have BK232 := n1_
             have HB := n2_
             clear n0_ n1_ n2_
             have p235 : 0 ≤ ((ji19) : Int) := dT
             have q235 : (ji19) < (l0_1.length : Int) := dT
             obtain ⟨ad235, A235_1, c235_1, e235, hx235_0, hx235_1, hl235_1, hi235_1⟩ := at_T102 HR0_1.out (ji19) p235 q235
             have hw235_1 := hx235_1
             have hw235_0 := hx235_0
             obtain rfl : ad231 = ad235 := (by injection e235)
             try have hz_hx235_0 := aM hx235_0
             try have hz_hx235_1 := aM hx235_1
             replace hx235_0 := (HB.out.cell (World.block_lt_of_cell? w _ hx235_0)).trans hx235_0
             replace hx235_1 := (HB.out.cell (World.block_lt_of_cell? w _ hx235_1)).trans hx235_1
             have HR235_1 := aM hi235_1
             have HC235_1 := aM hl235_1
             clear hi235_1 hl235_1
             replace p235 := eq_true p235
             replace q235 := eq_true q235
             refine start_ (n := 34) (S := fun w' => w'.cell? ⟨gb232, 0, none⟩ = some (.string ((rd_T102 l0_1 x8_1).f0)) ∧ w'.cell? ⟨gb232, 1, none⟩ = some (.slice A231_1 ((rd_T102 l0_1 x8_1).f1).length c231_1) ∧ w'.cell? ⟨gb229, 0, none⟩ = some (.int .i64 a0_0) ∧ w'.cell? ⟨gb229, 1, none⟩ = some (.slice (some ad231) l0_1.length c0_1) ∧ w'.cell? (ad231.add (((ji19)).toNat * 2)) = some (.string ((rd_T102 l0_1 (ji19)).f0)) ∧ w'.cell? ⟨(ad231.add (((ji19)).toNat * 2)).block, (ad231.add (((ji19)).toNat * 2)).off + 1, none⟩ = some (.slice A235_1 ((rd_T102 l0_1 (ji19)).f1).length c235_1)) (ds := []) (bq 34 0) (by kernel_rfl) rfl (by kernel_rfl) ⟨(blk_cell BK232.out 0).trans rfl, (blk_cell BK232.out 1).trans rfl, (blk_cell BK229.out 0).trans rfl, (blk_cell BK229.out 1).trans rfl, ((HB.out.cell (World.block_lt_of_cell? w _ hw235_0)).trans hw235_0), ((HB.out.cell (World.block_lt_of_cell? w _ hw235_1)).trans hw235_1)⟩ (fun hHeld => ?_); refine with_tabW spec_GoodWords.tab4 spec_GoodWords.bits4 (fun HT_ HW_ => ?_)
             generalize w26.drew = w27 at BK229 BK232 HB HR235_1 hx235_0 hx235_1 hHeld ⊢
             refine pZ 34 1 0 13 HT_ ?_
             refine tZ6 34 3 1 14 HT_ HW_ hHeld ?_
             refine one_ (i := 2) (N := some 15) (bq 34 7) rfl rfl (one_of HT_.out (by kernel_rfl)) (by decide) (fun K hK => ?_)
             refine gA Try.func94 #[.string ((rd_T102 l0_1 x8_1).f0)] ?_
             with_reducible refine (spec_l10Word.calls k1 ((rd_T102 l0_1 x8_1).f0) true _ A7.out).mono ?_
             rintro e w28 ⟨rfl, hb⟩
             refine ⟨_, rfl, ?_⟩
             have n0_ := aM (blk_below (g := gb229) (o := .cells #[.int .i64 a0_0, .slice (some ad231) l0_1.length c0_1] 33 (0, 0)) (by (with_reducible repeat (first | refine blk_drewN ?_ _ | refine blk_drew ?_ | refine blk_alloc ?_ _)); exact BK229.out) hb)
             have n1_ := aM (blk_below (g := gb232) (o := .cells #[.string ((rd_T102 l0_1 x8_1).f0), .slice A231_1 ((rd_T102 l0_1 x8_1).f1).length c231_1] 102 (0, 0)) (by (with_reducible repeat (first | refine blk_drewN ?_ _ | refine blk_drew ?_ | refine blk_alloc ?_ _)); exact BK232.out) hb)
             have n2_ := aM (below_step (by repeat (first | (with_reducible first | exact HB.out | apply below_alloc | apply pw_below_drewN | apply below_drew1 | refine below_set ?_ GE229.out | refine below_set ?_ GE232.out) | exact HB.out)) hb)
             clear BK229
             clear BK232
             clear HB
             have BK229 := n0_
             have BK232 := n1_
             have HB := n2_
             clear n0_ n1_ n2_
             (try clear hb)
             (try clear hb2)
             (try clear hk)
             (try clear hi)
             refine hK.out _ _ ⟨(blk_cell BK232.out 0).trans rfl, (blk_cell BK232.out 1).trans rfl, (blk_cell BK229.out 0).trans rfl, (blk_cell BK229.out 1).trans rfl, ((HB.out.cell (World.block_lt_of_cell? w _ hw235_0)).trans hw235_0), ((HB.out.cell (World.block_lt_of_cell? w _ hw235_1)).trans hw235_1)⟩ (fun hHeld => ?_)
             clear hK K
             refine nM 15 ?_
             refine pZ 34 15 3 16 HT_ ?_
             refine pZ 34 31 4 17 HT_ ?_
             refine pZ 34 63 5 18 HT_ ?_
             refine tZ6 34 127 6 19 HT_ HW_ hHeld ?_
             refine pZ 34 255 7 20 HT_ ?_
             refine pZ 34 511 8 21 HT_ ?_
             refine pZ 34 1023 9 22 HT_ ?_
             refine pZ 34 2047 10 23 HT_ ?_
             refine pZ 34 4095 11 24 HT_ ?_
             refine pZ 34 12287 13 26 HT_ ?_
             refine tZ6 34 16383 12 25 HT_ HW_ hHeld ?_
             refine tZ6 34 32767 14 27 HT_ HW_ hHeld ?_
             refine one_ (i := 15) (N := some 28) (bq 34 65535) rfl rfl (one_of HT_.out (by kernel_rfl)) (by decide) (fun K hK => ?_)
             refine gA Try.func95 #[.slice A231_1 ((rd_T102 l0_1 x8_1).f1).length c231_1, .int .i64 a0_0] ?_
             with_reducible refine (spec_l10List.calls k1 _ _ ((rd_T102 l0_1 x8_1).f1) a0_0 true _ ?side1 ?side2 A16.out).mono ?_
             (case side1 => repeat (first | exact (Kd.C_below HR231_1.out HB.out) | (with_reducible refine Kd.C_alloc ?_ _) | (with_reducible refine Kd.C_drewN ?_ _) | (with_reducible refine Kd.C_drew ?_)))
             (case side2 => exact HC231_1.out)
             rintro e w29 ⟨rfl, hb⟩
             refine ⟨_, rfl, ?_⟩
             have n0_ := aM (blk_below (g := gb229) (o := .cells #[.int .i64 a0_0, .slice (some ad231) l0_1.length c0_1] 33 (0, 0)) (by (with_reducible repeat (first | refine blk_drewN ?_ _ | refine blk_drew ?_ | refine blk_alloc ?_ _)); exact BK229.out) hb)
             have n1_ := aM (blk_below (g := gb232) (o := .cells #[.string ((rd_T102 l0_1 x8_1).f0), .slice A231_1 ((rd_T102 l0_1 x8_1).f1).length c231_1] 102 (0, 0)) (by (with_reducible repeat (first | refine blk_drewN ?_ _ | refine blk_drew ?_ | refine blk_alloc ?_ _)); exact BK232.out) hb)
             have n2_ := aM (below_step (by repeat (first | (with_reducible first | exact HB.out | apply below_alloc | apply pw_below_drewN | apply below_drew1 | refine below_set ?_ GE229.out | refine below_set ?_ GE232.out) | exact HB.out)) hb)
             clear BK229
             clear BK232
             clear HB
             have BK229 := n0_
             have BK232 := n1_
             have HB := n2_
             clear n0_ n1_ n2_
             (try clear hb)
             (try clear hb2)
             (try clear hk)
             (try clear hi)
             refine hK.out _ _ ⟨(blk_cell BK232.out 0).trans rfl, (blk_cell BK232.out 1).trans rfl, (blk_cell BK229.out 0).trans rfl, (blk_cell BK229.out 1).trans rfl, ((HB.out.cell (World.block_lt_of_cell? w _ hw235_0)).trans hw235_0), ((HB.out.cell (World.block_lt_of_cell? w _ hw235_1)).trans hw235_1)⟩ (fun hHeld => ?_)
             clear hK K
             refine nM 28 ?_
             refine pZ 34 131071 16 29 HT_ ?_
             refine pZ 34 262143 17 30 HT_ ?_
             refine pZ 34 524287 18 31 HT_ ?_
             refine pZ 34 1048575 19 32 HT_ ?_
             refine pZ 34 2097151 20 33 HT_ ?_
             refine pZ 34 4194303 21 34 HT_ ?_
             refine pZ 34 8388607 22 35 HT_ ?_
             refine pZ 34 25165823 24 37 HT_ ?_
             refine pZ 34 58720255 25 38 HT_ ?_
             refine pZ 34 595591167 29 42 HT_ ?_
             refine tZ6 34 603979775 23 36 HT_ HW_ hHeld ?_
             refine pZ 34 671088639 26 39 HT_ ?_
             refine pZ 34 805306367 27 40 HT_ ?_
             refine tZ6 34 1073741823 28 41 HT_ HW_ hHeld ?_
             refine tZ6 34 2147483647 30 43 HT_ HW_ hHeld ?_
             refine pZ 34 4294967295 31 44 HT_ ?_
             refine pZ 34 8589934591 32 45 HT_ ?_
             refine pZ 34 17179869183 33 46 HT_ ?_
             refine done_ (done_of HT_.out (by kernel_rfl)) ?_
             try go_wp2
             go_roundg k1
             case measure => have := HK1.out; omega
             case rel => exact ⟨(wrap64 (x8_1 + 1)), (by first | rfl | (simp; done) | (simp [*]; done)), H', ⟨by have := HK1.out; omega⟩, ⟨by (with_reducible repeat (first | refine blk_drewN ?_ _ | refine blk_drew ?_ | refine blk_alloc ?_ _)); exact BK229.out⟩, ⟨by repeat (first | (with_reducible first | exact HB.out | apply below_alloc | apply pw_below_drewN | apply below_drew1 | refine below_set ?_ GE229.out | refine below_set ?_ GE232.out) | exact HB.out)⟩⟩
            ·rw [if_neg c22] at H
             have c22b0 : (Op.bytesLess (((rd_T102 l0_1 (ji19)).f0).toList) (((rd_T102 l0_1 x8_1).f0).toList)) = false := by simpa using c22
             clear c22
             obtain rfl := Option.some.inj H
             have p231 : 0 ≤ (x8_1 : Int) := dT
             have q231 : x8_1 < (l0_1.length : Int) := dT
             obtain ⟨ad231, A231_1, c231_1, e231, hx231_0, hx231_1, hl231_1, hi231_1⟩ := at_T102 HR0_1.out x8_1 p231 q231
             cases e231
             try have hz_hx231_0 := aM hx231_0
             try have hz_hx231_1 := aM hx231_1
             replace hx231_0 := (HB.out.cell (World.block_lt_of_cell? w _ hx231_0)).trans hx231_0
             replace hx231_1 := (HB.out.cell (World.block_lt_of_cell? w _ hx231_1)).trans hx231_1
             have HR231_1 := aM hi231_1
             have HC231_1 := aM hl231_1
             clear hi231_1 hl231_1
             replace p231 := eq_true p231
             replace q231 := eq_true q231
             try go_wp2_with (first | ((with_reducible refine gate_dst (N := 4) rfl ?_); (try (refine gate_guard (by rfl) ?_; dsimp only)); refine box_event ?hg (N := 4) ?hd (cs := #[.string (⟨#[]⟩ : ByteArray), .slice none 0 0]) (t := 102) ?hr ?_; (case hd => rfl); (case hg => rfl); (case hr => first | (go_simp; done) | (go_simp; rfl)); intro gb232 hg w30 hbox hb; have n0_ := aM (blk_below (g := gb229) (o := .cells #[.int .i64 a0_0, .slice (some ad231) l0_1.length c0_1] 33 (0, 0)) (by (with_reducible repeat (first | refine blk_drewN ?_ _ | refine blk_drew ?_ | refine blk_alloc ?_ _)); exact BK229.out) hb); have n1_ := aM (below_step (by repeat (first | (with_reducible first | exact HB.out | apply below_alloc | apply pw_below_drewN | apply below_drew1 | refine below_set ?_ GE229.out) | exact HB.out)) hb); have n2_ := aM (hbox); have n3_ := aM ((by rw [hg]; exact (below_size (by repeat (first | (with_reducible first | exact HB.out | apply below_alloc | apply pw_below_drewN | apply below_drew1 | refine below_set ?_ GE229.out) | exact HB.out))) : w.heap.size ≤ gb232)); have n4_ := aM ((by rw [hg]; exact (below_size (by repeat (first | (with_reducible first | exact HB.out | apply below_alloc | apply pw_below_drewN | apply below_drew1 | refine below_set ?_ GE229.out) | exact HB.out))) : w.heap.size ≤ gb232)); have n5_ := aM ((by rw [hg]; exact Nat.ne_of_lt (blk_lt (g := gb229) (o := .cells #[.int .i64 a0_0, .slice (some ad231) l0_1.length c0_1] 33 (0, 0)) (by (with_reducible repeat (first | refine blk_drewN ?_ _ | refine blk_drew ?_ | refine blk_alloc ?_ _)); exact BK229.out)) : gb229 ≠ gb232)); have n6_ := aM ((by rw [hg]; exact Nat.ne_of_gt (blk_lt (g := gb229) (o := .cells #[.int .i64 a0_0, .slice (some ad231) l0_1.length c0_1] 33 (0, 0)) (by (with_reducible repeat (first | refine blk_drewN ?_ _ | refine blk_drew ?_ | refine blk_alloc ?_ _)); exact BK229.out)) : gb232 ≠ gb229)); clear BK229; clear HB; have BK229 := n0_; have HB := n1_; have BK232 := n2_; have GW232 := n3_; have GE232 := n4_; have NB229_232 := n5_; have NB232_229 := n6_; clear n0_ n1_ n2_ n3_ n4_ n5_ n6_; clear hb hbox hg; have hnb31 := NB232_229.out; have hnc31 := NB229_232.out; have hcz32_0 : w30.cell? ⟨gb232, 0, none⟩ = some (.string (⟨#[]⟩ : ByteArray)) := (blk_cell BK232.out 0).trans rfl; have hcz32_1 : w30.cell? ⟨gb232, 1, none⟩ = some (.slice none 0 0) := (blk_cell BK232.out 1).trans rfl; have hfz32_0 := blk_frozen BK232.out 0; have hfz32_1 := blk_frozen BK232.out 1))
             have n0_ : Aside0 (((w30.setCell ⟨gb232, 0, none⟩ (.string ((rd_T102 l0_1 x8_1).f0))).setCell ⟨gb232, 1, none⟩ (.slice A231_1 ((rd_T102 l0_1 x8_1).f1).length c231_1)).heap[gb229]? = some (.cells #[.int .i64 a0_0, .slice (some ad231) l0_1.length c0_1] 33 (0, 0))) := ⟨by (with_reducible repeat (first | refine blk_drewN ?_ _ | refine blk_drew ?_ | refine blk_alloc ?_ _)); refine blk_far ?_ NB229_232.out _; (with_reducible repeat (first | refine blk_drewN ?_ _ | refine blk_drew ?_ | refine blk_alloc ?_ _)); refine blk_far ?_ NB229_232.out _; (with_reducible repeat (first | refine blk_drewN ?_ _ | refine blk_drew ?_ | refine blk_alloc ?_ _)); exact BK229.out⟩
             have n1_ : Aside0 (((w30.setCell ⟨gb232, 0, none⟩ (.string ((rd_T102 l0_1 x8_1).f0))).setCell ⟨gb232, 1, none⟩ (.slice A231_1 ((rd_T102 l0_1 x8_1).f1).length c231_1)).heap[gb232]? = some (.cells #[.string ((rd_T102 l0_1 x8_1).f0), .slice A231_1 ((rd_T102 l0_1 x8_1).f1).length c231_1] 102 (0, 0))) := ⟨by (with_reducible repeat (first | refine blk_drewN ?_ _ | refine blk_drew ?_ | refine blk_alloc ?_ _)); refine blk_put (cs := #[.string ((rd_T102 l0_1 x8_1).f0), .slice none 0 0]) ?_ 1 _ rfl; (with_reducible repeat (first | refine blk_drewN ?_ _ | refine blk_drew ?_ | refine blk_alloc ?_ _)); refine blk_put (cs := #[.string (⟨#[]⟩ : ByteArray), .slice none 0 0]) ?_ 0 _ rfl; (with_reducible repeat (first | refine blk_drewN ?_ _ | refine blk_drew ?_ | refine blk_alloc ?_ _)); exact BK232.out⟩
             have n2_ : Aside0 (Below w.heap.size w ((w30.setCell ⟨gb232, 0, none⟩ (.string ((rd_T102 l0_1 x8_1).f0))).setCell ⟨gb232, 1, none⟩ (.slice A231_1 ((rd_T102 l0_1 x8_1).f1).length c231_1))) := ⟨by repeat (first | (with_reducible first | exact HB.out | apply below_alloc | apply pw_below_drewN | apply below_drew1 | refine below_set ?_ GE229.out | refine below_set ?_ GE232.out) | exact HB.out)⟩
             (try clear BK229)
             (try clear BK232)
             (try clear HB)
             generalize ((w30.setCell ⟨gb232, 0, none⟩ (.string ((rd_T102 l0_1 x8_1).f0))).setCell ⟨gb232, 1, none⟩ (.slice A231_1 ((rd_T102 l0_1 x8_1).f1).length c231_1)) = w33 at n0_ n1_ n2_ ⊢
             have BK229 := n0_
             have BK232 := n1_
             have HB := n2_
             clear n0_ n1_ n2_
             have n0_ := aM (blk_drew BK229.out)
             have n1_ := aM (blk_drew BK232.out)
             have n2_ := aM (below_drew1 HB.out)
             clear BK229
             clear BK232
             clear HB
             have BK229 := n0_
             have BK232 := n1_
             have HB := n2_
             clear n0_ n1_ n2_
             have p235 : 0 ≤ ((ji19) : Int) := dT
             have q235 : (ji19) < (l0_1.length : Int) := dT
             obtain ⟨ad235, A235_1, c235_1, e235, hx235_0, hx235_1, hl235_1, hi235_1⟩ := at_T102 HR0_1.out (ji19) p235 q235
             have hw235_1 := hx235_1
             have hw235_0 := hx235_0
             obtain rfl : ad231 = ad235 := (by injection e235)
             try have hz_hx235_0 := aM hx235_0
             try have hz_hx235_1 := aM hx235_1
             replace hx235_0 := (HB.out.cell (World.block_lt_of_cell? w _ hx235_0)).trans hx235_0
             replace hx235_1 := (HB.out.cell (World.block_lt_of_cell? w _ hx235_1)).trans hx235_1
             have HR235_1 := aM hi235_1
             have HC235_1 := aM hl235_1
             clear hi235_1 hl235_1
             replace p235 := eq_true p235
             replace q235 := eq_true q235
             refine start_ (n := 34) (S := fun w' => w'.cell? ⟨gb232, 0, none⟩ = some (.string ((rd_T102 l0_1 x8_1).f0)) ∧ w'.cell? ⟨gb232, 1, none⟩ = some (.slice A231_1 ((rd_T102 l0_1 x8_1).f1).length c231_1) ∧ w'.cell? ⟨gb229, 0, none⟩ = some (.int .i64 a0_0) ∧ w'.cell? ⟨gb229, 1, none⟩ = some (.slice (some ad231) l0_1.length c0_1) ∧ w'.cell? (ad231.add (((ji19)).toNat * 2)) = some (.string ((rd_T102 l0_1 (ji19)).f0)) ∧ w'.cell? ⟨(ad231.add (((ji19)).toNat * 2)).block, (ad231.add (((ji19)).toNat * 2)).off + 1, none⟩ = some (.slice A235_1 ((rd_T102 l0_1 (ji19)).f1).length c235_1)) (ds := []) (bq 34 0) (by kernel_rfl) rfl (by kernel_rfl) ⟨(blk_cell BK232.out 0).trans rfl, (blk_cell BK232.out 1).trans rfl, (blk_cell BK229.out 0).trans rfl, (blk_cell BK229.out 1).trans rfl, ((HB.out.cell (World.block_lt_of_cell? w _ hw235_0)).trans hw235_0), ((HB.out.cell (World.block_lt_of_cell? w _ hw235_1)).trans hw235_1)⟩ (fun hHeld => ?_); refine with_tabW spec_GoodWords.tab4 spec_GoodWords.bits4 (fun HT_ HW_ => ?_)
             generalize w33.drew = w34 at BK229 BK232 HB HR235_1 hx235_0 hx235_1 hHeld ⊢
             refine pZ 34 1 0 13 HT_ ?_
             refine tZ6 34 3 1 14 HT_ HW_ hHeld ?_
             refine one_ (i := 2) (N := some 15) (bq 34 7) rfl rfl (one_of HT_.out (by kernel_rfl)) (by decide) (fun K hK => ?_)
             refine gA Try.func94 #[.string ((rd_T102 l0_1 x8_1).f0)] ?_
             with_reducible refine (spec_l10Word.calls k1 ((rd_T102 l0_1 x8_1).f0) true _ A7.out).mono ?_
             rintro e w35 ⟨rfl, hb⟩
             refine ⟨_, rfl, ?_⟩
             have n0_ := aM (blk_below (g := gb229) (o := .cells #[.int .i64 a0_0, .slice (some ad231) l0_1.length c0_1] 33 (0, 0)) (by (with_reducible repeat (first | refine blk_drewN ?_ _ | refine blk_drew ?_ | refine blk_alloc ?_ _)); exact BK229.out) hb)
             have n1_ := aM (blk_below (g := gb232) (o := .cells #[.string ((rd_T102 l0_1 x8_1).f0), .slice A231_1 ((rd_T102 l0_1 x8_1).f1).length c231_1] 102 (0, 0)) (by (with_reducible repeat (first | refine blk_drewN ?_ _ | refine blk_drew ?_ | refine blk_alloc ?_ _)); exact BK232.out) hb)
             have n2_ := aM (below_step (by repeat (first | (with_reducible first | exact HB.out | apply below_alloc | apply pw_below_drewN | apply below_drew1 | refine below_set ?_ GE229.out | refine below_set ?_ GE232.out) | exact HB.out)) hb)
             clear BK229
             clear BK232
             clear HB
             have BK229 := n0_
             have BK232 := n1_
             have HB := n2_
             clear n0_ n1_ n2_
             (try clear hb)
             (try clear hb2)
             (try clear hk)
             (try clear hi)
             refine hK.out _ _ ⟨(blk_cell BK232.out 0).trans rfl, (blk_cell BK232.out 1).trans rfl, (blk_cell BK229.out 0).trans rfl, (blk_cell BK229.out 1).trans rfl, ((HB.out.cell (World.block_lt_of_cell? w _ hw235_0)).trans hw235_0), ((HB.out.cell (World.block_lt_of_cell? w _ hw235_1)).trans hw235_1)⟩ (fun hHeld => ?_)
             clear hK K
             refine nM 15 ?_
             refine pZ 34 15 3 16 HT_ ?_
             refine pZ 34 31 4 17 HT_ ?_
             refine pZ 34 63 5 18 HT_ ?_
             refine tZ6 34 127 6 19 HT_ HW_ hHeld ?_
             refine pZ 34 255 7 20 HT_ ?_
             refine pZ 34 511 8 21 HT_ ?_
             refine pZ 34 1023 9 22 HT_ ?_
             refine pZ 34 2047 10 23 HT_ ?_
             refine pZ 34 4095 11 24 HT_ ?_
             refine pZ 34 12287 13 26 HT_ ?_
             refine tZ6 34 16383 12 25 HT_ HW_ hHeld ?_
             refine tZ6 34 32767 14 27 HT_ HW_ hHeld ?_
             refine one_ (i := 15) (N := some 28) (bq 34 65535) rfl rfl (one_of HT_.out (by kernel_rfl)) (by decide) (fun K hK => ?_)
             refine gA Try.func95 #[.slice A231_1 ((rd_T102 l0_1 x8_1).f1).length c231_1, .int .i64 a0_0] ?_
             with_reducible refine (spec_l10List.calls k1 _ _ ((rd_T102 l0_1 x8_1).f1) a0_0 true _ ?side1 ?side2 A16.out).mono ?_
             (case side1 => repeat (first | exact (Kd.C_below HR231_1.out HB.out) | (with_reducible refine Kd.C_alloc ?_ _) | (with_reducible refine Kd.C_drewN ?_ _) | (with_reducible refine Kd.C_drew ?_)))
             (case side2 => exact HC231_1.out)
             rintro e w36 ⟨rfl, hb⟩
             refine ⟨_, rfl, ?_⟩
             have n0_ := aM (blk_below (g := gb229) (o := .cells #[.int .i64 a0_0, .slice (some ad231) l0_1.length c0_1] 33 (0, 0)) (by (with_reducible repeat (first | refine blk_drewN ?_ _ | refine blk_drew ?_ | refine blk_alloc ?_ _)); exact BK229.out) hb)
             have n1_ := aM (blk_below (g := gb232) (o := .cells #[.string ((rd_T102 l0_1 x8_1).f0), .slice A231_1 ((rd_T102 l0_1 x8_1).f1).length c231_1] 102 (0, 0)) (by (with_reducible repeat (first | refine blk_drewN ?_ _ | refine blk_drew ?_ | refine blk_alloc ?_ _)); exact BK232.out) hb)
             have n2_ := aM (below_step (by repeat (first | (with_reducible first | exact HB.out | apply below_alloc | apply pw_below_drewN | apply below_drew1 | refine below_set ?_ GE229.out | refine below_set ?_ GE232.out) | exact HB.out)) hb)
             clear BK229
             clear BK232
             clear HB
             have BK229 := n0_
             have BK232 := n1_
             have HB := n2_
             clear n0_ n1_ n2_
             (try clear hb)
             (try clear hb2)
             (try clear hk)
             (try clear hi)
             refine hK.out _ _ ⟨(blk_cell BK232.out 0).trans rfl, (blk_cell BK232.out 1).trans rfl, (blk_cell BK229.out 0).trans rfl, (blk_cell BK229.out 1).trans rfl, ((HB.out.cell (World.block_lt_of_cell? w _ hw235_0)).trans hw235_0), ((HB.out.cell (World.block_lt_of_cell? w _ hw235_1)).trans hw235_1)⟩ (fun hHeld => ?_)
             clear hK K
             refine nM 28 ?_
             refine pZ 34 131071 16 29 HT_ ?_
             refine pZ 34 262143 17 30 HT_ ?_
             refine pZ 34 524287 18 31 HT_ ?_
             refine pZ 34 1048575 19 32 HT_ ?_
             refine pZ 34 2097151 20 33 HT_ ?_
             refine pZ 34 4194303 21 34 HT_ ?_
             refine pZ 34 8388607 22 35 HT_ ?_
             refine pZ 34 25165823 24 37 HT_ ?_
             refine pZ 34 58720255 25 38 HT_ ?_
             refine pZ 34 595591167 29 42 HT_ ?_
             refine tZ6 34 603979775 23 36 HT_ HW_ hHeld ?_
             refine pZ 34 671088639 26 39 HT_ ?_
             refine pZ 34 805306367 27 40 HT_ ?_
             refine tZ6 34 1073741823 28 41 HT_ HW_ hHeld ?_
             refine tZ6 34 2147483647 30 43 HT_ HW_ hHeld ?_
             refine pZ 34 4294967295 31 44 HT_ ?_
             refine pZ 34 8589934591 32 45 HT_ ?_
             refine pZ 34 17179869183 33 46 HT_ ?_
             refine done_ (done_of HT_.out (by kernel_rfl)) ?_
             try go_wp2
             go_ret
             exact ⟨by first | rfl | (simp [errW_none, errW_some] <;> rfl) | (simp only [← hji19]; first | rfl | (simp [errW_none, errW_some] <;> rfl)) | (simp [*, errW_none, errW_some] <;> rfl), by repeat (first | (with_reducible first | exact HB.out | apply below_alloc | apply pw_below_drewN | apply below_drew1 | refine below_set ?_ GE229.out | refine below_set ?_ GE232.out) | exact HB.out)⟩
           ·rw [if_neg c21] at H
            exact absurd H (by simp)
          ·rw [if_neg c20] at H
           exact absurd H (by simp)
         ·rw [if_neg c18] at H
          have c18b0 : decide (0 < x8_1) = false := decide_eq_false c18
          clear c18
          have H' := aM H
          clear H
          have p231 : 0 ≤ (x8_1 : Int) := dT
          have q231 : x8_1 < (l0_1.length : Int) := dT
          obtain ⟨ad231, A231_1, c231_1, e231, hx231_0, hx231_1, hl231_1, hi231_1⟩ := at_T102 HR0_1.out x8_1 p231 q231
          cases e231
          try have hz_hx231_0 := aM hx231_0
          try have hz_hx231_1 := aM hx231_1
          replace hx231_0 := (HB.out.cell (World.block_lt_of_cell? w _ hx231_0)).trans hx231_0
          replace hx231_1 := (HB.out.cell (World.block_lt_of_cell? w _ hx231_1)).trans hx231_1
          have HR231_1 := aM hi231_1
          have HC231_1 := aM hl231_1
          clear hi231_1 hl231_1
          replace p231 := eq_true p231
          replace q231 := eq_true q231
          try go_wp2_with (first | ((with_reducible refine gate_dst (N := 4) rfl ?_); (try (refine gate_guard (by rfl) ?_; dsimp only)); refine box_event ?hg (N := 4) ?hd (cs := #[.string (⟨#[]⟩ : ByteArray), .slice none 0 0]) (t := 102) ?hr ?_; (case hd => rfl); (case hg => rfl); (case hr => first | (go_simp; done) | (go_simp; rfl)); intro gb232 hg w37 hbox hb; have n0_ := aM (blk_below (g := gb229) (o := .cells #[.int .i64 a0_0, .slice (some ad231) l0_1.length c0_1] 33 (0, 0)) (by (with_reducible repeat (first | refine blk_drewN ?_ _ | refine blk_drew ?_ | refine blk_alloc ?_ _)); exact BK229.out) hb); have n1_ := aM (below_step (by repeat (first | (with_reducible first | exact HB.out | apply below_alloc | apply pw_below_drewN | apply below_drew1 | refine below_set ?_ GE229.out) | exact HB.out)) hb); have n2_ := aM (hbox); have n3_ := aM ((by rw [hg]; exact (below_size (by repeat (first | (with_reducible first | exact HB.out | apply below_alloc | apply pw_below_drewN | apply below_drew1 | refine below_set ?_ GE229.out) | exact HB.out))) : w.heap.size ≤ gb232)); have n4_ := aM ((by rw [hg]; exact (below_size (by repeat (first | (with_reducible first | exact HB.out | apply below_alloc | apply pw_below_drewN | apply below_drew1 | refine below_set ?_ GE229.out) | exact HB.out))) : w.heap.size ≤ gb232)); have n5_ := aM ((by rw [hg]; exact Nat.ne_of_lt (blk_lt (g := gb229) (o := .cells #[.int .i64 a0_0, .slice (some ad231) l0_1.length c0_1] 33 (0, 0)) (by (with_reducible repeat (first | refine blk_drewN ?_ _ | refine blk_drew ?_ | refine blk_alloc ?_ _)); exact BK229.out)) : gb229 ≠ gb232)); have n6_ := aM ((by rw [hg]; exact Nat.ne_of_gt (blk_lt (g := gb229) (o := .cells #[.int .i64 a0_0, .slice (some ad231) l0_1.length c0_1] 33 (0, 0)) (by (with_reducible repeat (first | refine blk_drewN ?_ _ | refine blk_drew ?_ | refine blk_alloc ?_ _)); exact BK229.out)) : gb232 ≠ gb229)); clear BK229; clear HB; have BK229 := n0_; have HB := n1_; have BK232 := n2_; have GW232 := n3_; have GE232 := n4_; have NB229_232 := n5_; have NB232_229 := n6_; clear n0_ n1_ n2_ n3_ n4_ n5_ n6_; clear hb hbox hg; have hnb38 := NB232_229.out; have hnc38 := NB229_232.out; have hcz39_0 : w37.cell? ⟨gb232, 0, none⟩ = some (.string (⟨#[]⟩ : ByteArray)) := (blk_cell BK232.out 0).trans rfl; have hcz39_1 : w37.cell? ⟨gb232, 1, none⟩ = some (.slice none 0 0) := (blk_cell BK232.out 1).trans rfl; have hfz39_0 := blk_frozen BK232.out 0; have hfz39_1 := blk_frozen BK232.out 1))
          have n0_ : Aside0 (((w37.setCell ⟨gb232, 0, none⟩ (.string ((rd_T102 l0_1 x8_1).f0))).setCell ⟨gb232, 1, none⟩ (.slice A231_1 ((rd_T102 l0_1 x8_1).f1).length c231_1)).heap[gb229]? = some (.cells #[.int .i64 a0_0, .slice (some ad231) l0_1.length c0_1] 33 (0, 0))) := ⟨by (with_reducible repeat (first | refine blk_drewN ?_ _ | refine blk_drew ?_ | refine blk_alloc ?_ _)); refine blk_far ?_ NB229_232.out _; (with_reducible repeat (first | refine blk_drewN ?_ _ | refine blk_drew ?_ | refine blk_alloc ?_ _)); refine blk_far ?_ NB229_232.out _; (with_reducible repeat (first | refine blk_drewN ?_ _ | refine blk_drew ?_ | refine blk_alloc ?_ _)); exact BK229.out⟩
          have n1_ : Aside0 (((w37.setCell ⟨gb232, 0, none⟩ (.string ((rd_T102 l0_1 x8_1).f0))).setCell ⟨gb232, 1, none⟩ (.slice A231_1 ((rd_T102 l0_1 x8_1).f1).length c231_1)).heap[gb232]? = some (.cells #[.string ((rd_T102 l0_1 x8_1).f0), .slice A231_1 ((rd_T102 l0_1 x8_1).f1).length c231_1] 102 (0, 0))) := ⟨by (with_reducible repeat (first | refine blk_drewN ?_ _ | refine blk_drew ?_ | refine blk_alloc ?_ _)); refine blk_put (cs := #[.string ((rd_T102 l0_1 x8_1).f0), .slice none 0 0]) ?_ 1 _ rfl; (with_reducible repeat (first | refine blk_drewN ?_ _ | refine blk_drew ?_ | refine blk_alloc ?_ _)); refine blk_put (cs := #[.string (⟨#[]⟩ : ByteArray), .slice none 0 0]) ?_ 0 _ rfl; (with_reducible repeat (first | refine blk_drewN ?_ _ | refine blk_drew ?_ | refine blk_alloc ?_ _)); exact BK232.out⟩
          have n2_ : Aside0 (Below w.heap.size w ((w37.setCell ⟨gb232, 0, none⟩ (.string ((rd_T102 l0_1 x8_1).f0))).setCell ⟨gb232, 1, none⟩ (.slice A231_1 ((rd_T102 l0_1 x8_1).f1).length c231_1))) := ⟨by repeat (first | (with_reducible first | exact HB.out | apply below_alloc | apply pw_below_drewN | apply below_drew1 | refine below_set ?_ GE229.out | refine below_set ?_ GE232.out) | exact HB.out)⟩
          (try clear BK229)
          (try clear BK232)
          (try clear HB)
          generalize ((w37.setCell ⟨gb232, 0, none⟩ (.string ((rd_T102 l0_1 x8_1).f0))).setCell ⟨gb232, 1, none⟩ (.slice A231_1 ((rd_T102 l0_1 x8_1).f1).length c231_1)) = w40 at n0_ n1_ n2_ ⊢
          have BK229 := n0_
          have BK232 := n1_
          have HB := n2_
          clear n0_ n1_ n2_
          have n0_ := aM (blk_drew BK229.out)
          have n1_ := aM (blk_drew BK232.out)
          have n2_ := aM (below_drew1 HB.out)
          clear BK229
          clear BK232
          clear HB
          have BK229 := n0_
          have BK232 := n1_
          have HB := n2_
          clear n0_ n1_ n2_
          refine start_ (n := 34) (S := fun w' => w'.cell? ⟨gb232, 0, none⟩ = some (.string ((rd_T102 l0_1 x8_1).f0)) ∧ w'.cell? ⟨gb232, 1, none⟩ = some (.slice A231_1 ((rd_T102 l0_1 x8_1).f1).length c231_1) ∧ w'.cell? ⟨gb229, 0, none⟩ = some (.int .i64 a0_0) ∧ w'.cell? ⟨gb229, 1, none⟩ = some (.slice (some ad231) l0_1.length c0_1)) (ds := []) (bq 34 0) (by kernel_rfl) rfl (by kernel_rfl) ⟨(blk_cell BK232.out 0).trans rfl, (blk_cell BK232.out 1).trans rfl, (blk_cell BK229.out 0).trans rfl, (blk_cell BK229.out 1).trans rfl⟩ (fun hHeld => ?_); refine with_tabW spec_GoodWords.tab4 spec_GoodWords.bits4 (fun HT_ HW_ => ?_)
          generalize w40.drew = w41 at BK229 BK232 HB hHeld ⊢
          refine pZ 34 1 0 13 HT_ ?_
          refine tZ4 34 3 1 14 HT_ HW_ hHeld ?_
          refine one_ (i := 2) (N := some 15) (bq 34 7) rfl rfl (one_of HT_.out (by kernel_rfl)) (by decide) (fun K hK => ?_)
          refine gA Try.func94 #[.string ((rd_T102 l0_1 x8_1).f0)] ?_
          with_reducible refine (spec_l10Word.calls k1 ((rd_T102 l0_1 x8_1).f0) true _ A7.out).mono ?_
          rintro e w42 ⟨rfl, hb⟩
          refine ⟨_, rfl, ?_⟩
          have n0_ := aM (blk_below (g := gb229) (o := .cells #[.int .i64 a0_0, .slice (some ad231) l0_1.length c0_1] 33 (0, 0)) (by (with_reducible repeat (first | refine blk_drewN ?_ _ | refine blk_drew ?_ | refine blk_alloc ?_ _)); exact BK229.out) hb)
          have n1_ := aM (blk_below (g := gb232) (o := .cells #[.string ((rd_T102 l0_1 x8_1).f0), .slice A231_1 ((rd_T102 l0_1 x8_1).f1).length c231_1] 102 (0, 0)) (by (with_reducible repeat (first | refine blk_drewN ?_ _ | refine blk_drew ?_ | refine blk_alloc ?_ _)); exact BK232.out) hb)
          have n2_ := aM (below_step (by repeat (first | (with_reducible first | exact HB.out | apply below_alloc | apply pw_below_drewN | apply below_drew1 | refine below_set ?_ GE229.out | refine below_set ?_ GE232.out) | exact HB.out)) hb)
          clear BK229
          clear BK232
          clear HB
          have BK229 := n0_
          have BK232 := n1_
          have HB := n2_
          clear n0_ n1_ n2_
          (try clear hb)
          (try clear hb2)
          (try clear hk)
          (try clear hi)
          refine hK.out _ _ ⟨(blk_cell BK232.out 0).trans rfl, (blk_cell BK232.out 1).trans rfl, (blk_cell BK229.out 0).trans rfl, (blk_cell BK229.out 1).trans rfl⟩ (fun hHeld => ?_)
          clear hK K
          refine nM 15 ?_
          refine pZ 34 15 3 16 HT_ ?_
          refine pZ 34 31 4 17 HT_ ?_
          refine pZ 34 63 5 18 HT_ ?_
          refine tZ4 34 127 6 19 HT_ HW_ hHeld ?_
          refine pZ 34 255 7 20 HT_ ?_
          refine pZ 34 511 8 21 HT_ ?_
          refine pZ 34 1023 9 22 HT_ ?_
          refine pZ 34 2047 10 23 HT_ ?_
          refine pZ 34 4095 11 24 HT_ ?_
          refine pZ 34 12287 13 26 HT_ ?_
          refine tZ4 34 16383 12 25 HT_ HW_ hHeld ?_
          refine tZ4 34 32767 14 27 HT_ HW_ hHeld ?_
          refine one_ (i := 15) (N := some 28) (bq 34 65535) rfl rfl (one_of HT_.out (by kernel_rfl)) (by decide) (fun K hK => ?_)
          refine gA Try.func95 #[.slice A231_1 ((rd_T102 l0_1 x8_1).f1).length c231_1, .int .i64 a0_0] ?_
          with_reducible refine (spec_l10List.calls k1 _ _ ((rd_T102 l0_1 x8_1).f1) a0_0 true _ ?side1 ?side2 A16.out).mono ?_
          (case side1 => repeat (first | exact (Kd.C_below HR231_1.out HB.out) | (with_reducible refine Kd.C_alloc ?_ _) | (with_reducible refine Kd.C_drewN ?_ _) | (with_reducible refine Kd.C_drew ?_)))
          (case side2 => exact HC231_1.out)
          rintro e w43 ⟨rfl, hb⟩
          refine ⟨_, rfl, ?_⟩
          have n0_ := aM (blk_below (g := gb229) (o := .cells #[.int .i64 a0_0, .slice (some ad231) l0_1.length c0_1] 33 (0, 0)) (by (with_reducible repeat (first | refine blk_drewN ?_ _ | refine blk_drew ?_ | refine blk_alloc ?_ _)); exact BK229.out) hb)
          have n1_ := aM (blk_below (g := gb232) (o := .cells #[.string ((rd_T102 l0_1 x8_1).f0), .slice A231_1 ((rd_T102 l0_1 x8_1).f1).length c231_1] 102 (0, 0)) (by (with_reducible repeat (first | refine blk_drewN ?_ _ | refine blk_drew ?_ | refine blk_alloc ?_ _)); exact BK232.out) hb)
          have n2_ := aM (below_step (by repeat (first | (with_reducible first | exact HB.out | apply below_alloc | apply pw_below_drewN | apply below_drew1 | refine below_set ?_ GE229.out | refine below_set ?_ GE232.out) | exact HB.out)) hb)
          clear BK229
          clear BK232
          clear HB
          have BK229 := n0_
          have BK232 := n1_
          have HB := n2_
          clear n0_ n1_ n2_
          (try clear hb)
          (try clear hb2)
          (try clear hk)
          (try clear hi)
          refine hK.out _ _ ⟨(blk_cell BK232.out 0).trans rfl, (blk_cell BK232.out 1).trans rfl, (blk_cell BK229.out 0).trans rfl, (blk_cell BK229.out 1).trans rfl⟩ (fun hHeld => ?_)
          clear hK K
          refine nM 28 ?_
          refine pZ 34 131071 16 29 HT_ ?_
          refine pZ 34 262143 17 30 HT_ ?_
          refine pZ 34 524287 18 31 HT_ ?_
          refine pZ 34 1048575 19 32 HT_ ?_
          refine pZ 34 2097151 20 33 HT_ ?_
          refine pZ 34 4194303 21 34 HT_ ?_
          refine pY 34 8388607 22 35 HT_ ?_
          refine pY 34 16777215 23 36 HT_ ?_
          refine pY 34 33554431 24 37 HT_ ?_
          refine pY 34 67108863 25 38 HT_ ?_
          refine pY 34 134217727 26 39 HT_ ?_
          refine pY 34 268435455 27 40 HT_ ?_
          refine pY 34 536870911 28 41 HT_ ?_
          refine pY 34 1073741823 29 42 HT_ ?_
          refine pY 34 2147483647 30 43 HT_ ?_
          refine pY 34 4294967295 31 44 HT_ ?_
          refine pZ 34 8589934591 32 45 HT_ ?_
          refine pZ 34 17179869183 33 46 HT_ ?_
          refine done_ (done_of HT_.out (by kernel_rfl)) ?_
          try go_wp2
          go_roundg k1
          case measure => have := HK1.out; omega
          case rel => exact ⟨(wrap64 (x8_1 + 1)), (by first | rfl | (simp; done) | (simp [*]; done)), H', ⟨by have := HK1.out; omega⟩, ⟨by (with_reducible repeat (first | refine blk_drewN ?_ _ | refine blk_drew ?_ | refine blk_alloc ?_ _)); exact BK229.out⟩, ⟨by repeat (first | (with_reducible first | exact HB.out | apply below_alloc | apply pw_below_drewN | apply below_drew1 | refine below_set ?_ GE229.out | refine below_set ?_ GE232.out) | exact HB.out)⟩⟩
        ·replace c17 := Bool.eq_false_iff.mpr c17
         subst c17
         have H1 : (some false) = some r := by rw [if_neg (show ¬ (false = true) by decide)] at H; exact H
         clear H
         have H := H1
         clear H1
         obtain rfl := Option.some.inj H
         have p231 : 0 ≤ (x8_1 : Int) := dT
         have q231 : x8_1 < (l0_1.length : Int) := dT
         obtain ⟨ad231, A231_1, c231_1, e231, hx231_0, hx231_1, hl231_1, hi231_1⟩ := at_T102 HR0_1.out x8_1 p231 q231
         cases e231
         try have hz_hx231_0 := aM hx231_0
         try have hz_hx231_1 := aM hx231_1
         replace hx231_0 := (HB.out.cell (World.block_lt_of_cell? w _ hx231_0)).trans hx231_0
         replace hx231_1 := (HB.out.cell (World.block_lt_of_cell? w _ hx231_1)).trans hx231_1
         have HR231_1 := aM hi231_1
         have HC231_1 := aM hl231_1
         clear hi231_1 hl231_1
         replace p231 := eq_true p231
         replace q231 := eq_true q231
         try go_wp2_with (first | ((with_reducible refine gate_dst (N := 4) rfl ?_); (try (refine gate_guard (by rfl) ?_; dsimp only)); refine box_event ?hg (N := 4) ?hd (cs := #[.string (⟨#[]⟩ : ByteArray), .slice none 0 0]) (t := 102) ?hr ?_; (case hd => rfl); (case hg => rfl); (case hr => first | (go_simp; done) | (go_simp; rfl)); intro gb232 hg w44 hbox hb; have n0_ := aM (blk_below (g := gb229) (o := .cells #[.int .i64 a0_0, .slice (some ad231) l0_1.length c0_1] 33 (0, 0)) (by (with_reducible repeat (first | refine blk_drewN ?_ _ | refine blk_drew ?_ | refine blk_alloc ?_ _)); exact BK229.out) hb); have n1_ := aM (below_step (by repeat (first | (with_reducible first | exact HB.out | apply below_alloc | apply pw_below_drewN | apply below_drew1 | refine below_set ?_ GE229.out) | exact HB.out)) hb); have n2_ := aM (hbox); have n3_ := aM ((by rw [hg]; exact (below_size (by repeat (first | (with_reducible first | exact HB.out | apply below_alloc | apply pw_below_drewN | apply below_drew1 | refine below_set ?_ GE229.out) | exact HB.out))) : w.heap.size ≤ gb232)); have n4_ := aM ((by rw [hg]; exact (below_size (by repeat (first | (with_reducible first | exact HB.out | apply below_alloc | apply pw_below_drewN | apply below_drew1 | refine below_set ?_ GE229.out) | exact HB.out))) : w.heap.size ≤ gb232)); have n5_ := aM ((by rw [hg]; exact Nat.ne_of_lt (blk_lt (g := gb229) (o := .cells #[.int .i64 a0_0, .slice (some ad231) l0_1.length c0_1] 33 (0, 0)) (by (with_reducible repeat (first | refine blk_drewN ?_ _ | refine blk_drew ?_ | refine blk_alloc ?_ _)); exact BK229.out)) : gb229 ≠ gb232)); have n6_ := aM ((by rw [hg]; exact Nat.ne_of_gt (blk_lt (g := gb229) (o := .cells #[.int .i64 a0_0, .slice (some ad231) l0_1.length c0_1] 33 (0, 0)) (by (with_reducible repeat (first | refine blk_drewN ?_ _ | refine blk_drew ?_ | refine blk_alloc ?_ _)); exact BK229.out)) : gb232 ≠ gb229)); clear BK229; clear HB; have BK229 := n0_; have HB := n1_; have BK232 := n2_; have GW232 := n3_; have GE232 := n4_; have NB229_232 := n5_; have NB232_229 := n6_; clear n0_ n1_ n2_ n3_ n4_ n5_ n6_; clear hb hbox hg; have hnb45 := NB232_229.out; have hnc45 := NB229_232.out; have hcz46_0 : w44.cell? ⟨gb232, 0, none⟩ = some (.string (⟨#[]⟩ : ByteArray)) := (blk_cell BK232.out 0).trans rfl; have hcz46_1 : w44.cell? ⟨gb232, 1, none⟩ = some (.slice none 0 0) := (blk_cell BK232.out 1).trans rfl; have hfz46_0 := blk_frozen BK232.out 0; have hfz46_1 := blk_frozen BK232.out 1))
         have n0_ : Aside0 (((w44.setCell ⟨gb232, 0, none⟩ (.string ((rd_T102 l0_1 x8_1).f0))).setCell ⟨gb232, 1, none⟩ (.slice A231_1 ((rd_T102 l0_1 x8_1).f1).length c231_1)).heap[gb229]? = some (.cells #[.int .i64 a0_0, .slice (some ad231) l0_1.length c0_1] 33 (0, 0))) := ⟨by (with_reducible repeat (first | refine blk_drewN ?_ _ | refine blk_drew ?_ | refine blk_alloc ?_ _)); refine blk_far ?_ NB229_232.out _; (with_reducible repeat (first | refine blk_drewN ?_ _ | refine blk_drew ?_ | refine blk_alloc ?_ _)); refine blk_far ?_ NB229_232.out _; (with_reducible repeat (first | refine blk_drewN ?_ _ | refine blk_drew ?_ | refine blk_alloc ?_ _)); exact BK229.out⟩
         have n1_ : Aside0 (((w44.setCell ⟨gb232, 0, none⟩ (.string ((rd_T102 l0_1 x8_1).f0))).setCell ⟨gb232, 1, none⟩ (.slice A231_1 ((rd_T102 l0_1 x8_1).f1).length c231_1)).heap[gb232]? = some (.cells #[.string ((rd_T102 l0_1 x8_1).f0), .slice A231_1 ((rd_T102 l0_1 x8_1).f1).length c231_1] 102 (0, 0))) := ⟨by (with_reducible repeat (first | refine blk_drewN ?_ _ | refine blk_drew ?_ | refine blk_alloc ?_ _)); refine blk_put (cs := #[.string ((rd_T102 l0_1 x8_1).f0), .slice none 0 0]) ?_ 1 _ rfl; (with_reducible repeat (first | refine blk_drewN ?_ _ | refine blk_drew ?_ | refine blk_alloc ?_ _)); refine blk_put (cs := #[.string (⟨#[]⟩ : ByteArray), .slice none 0 0]) ?_ 0 _ rfl; (with_reducible repeat (first | refine blk_drewN ?_ _ | refine blk_drew ?_ | refine blk_alloc ?_ _)); exact BK232.out⟩
         have n2_ : Aside0 (Below w.heap.size w ((w44.setCell ⟨gb232, 0, none⟩ (.string ((rd_T102 l0_1 x8_1).f0))).setCell ⟨gb232, 1, none⟩ (.slice A231_1 ((rd_T102 l0_1 x8_1).f1).length c231_1))) := ⟨by repeat (first | (with_reducible first | exact HB.out | apply below_alloc | apply pw_below_drewN | apply below_drew1 | refine below_set ?_ GE229.out | refine below_set ?_ GE232.out) | exact HB.out)⟩
         (try clear BK229)
         (try clear BK232)
         (try clear HB)
         generalize ((w44.setCell ⟨gb232, 0, none⟩ (.string ((rd_T102 l0_1 x8_1).f0))).setCell ⟨gb232, 1, none⟩ (.slice A231_1 ((rd_T102 l0_1 x8_1).f1).length c231_1)) = w47 at n0_ n1_ n2_ ⊢
         have BK229 := n0_
         have BK232 := n1_
         have HB := n2_
         clear n0_ n1_ n2_
         have n0_ := aM (blk_drew BK229.out)
         have n1_ := aM (blk_drew BK232.out)
         have n2_ := aM (below_drew1 HB.out)
         clear BK229
         clear BK232
         clear HB
         have BK229 := n0_
         have BK232 := n1_
         have HB := n2_
         clear n0_ n1_ n2_
         refine start_ (n := 34) (S := fun w' => w'.cell? ⟨gb232, 0, none⟩ = some (.string ((rd_T102 l0_1 x8_1).f0)) ∧ w'.cell? ⟨gb232, 1, none⟩ = some (.slice A231_1 ((rd_T102 l0_1 x8_1).f1).length c231_1) ∧ w'.cell? ⟨gb229, 0, none⟩ = some (.int .i64 a0_0) ∧ w'.cell? ⟨gb229, 1, none⟩ = some (.slice (some ad231) l0_1.length c0_1)) (ds := []) (bq 34 0) (by kernel_rfl) rfl (by kernel_rfl) ⟨(blk_cell BK232.out 0).trans rfl, (blk_cell BK232.out 1).trans rfl, (blk_cell BK229.out 0).trans rfl, (blk_cell BK229.out 1).trans rfl⟩ (fun hHeld => ?_); refine with_tabW spec_GoodWords.tab4 spec_GoodWords.bits4 (fun HT_ HW_ => ?_)
         generalize w47.drew = w48 at BK229 BK232 HB hHeld ⊢
         refine pZ 34 1 0 13 HT_ ?_
         refine tZ4 34 3 1 14 HT_ HW_ hHeld ?_
         refine one_ (i := 2) (N := some 15) (bq 34 7) rfl rfl (one_of HT_.out (by kernel_rfl)) (by decide) (fun K hK => ?_)
         refine gA Try.func94 #[.string ((rd_T102 l0_1 x8_1).f0)] ?_
         with_reducible refine (spec_l10Word.calls k1 ((rd_T102 l0_1 x8_1).f0) true _ A7.out).mono ?_
         rintro e w49 ⟨rfl, hb⟩
         refine ⟨_, rfl, ?_⟩
         have n0_ := aM (blk_below (g := gb229) (o := .cells #[.int .i64 a0_0, .slice (some ad231) l0_1.length c0_1] 33 (0, 0)) (by (with_reducible repeat (first | refine blk_drewN ?_ _ | refine blk_drew ?_ | refine blk_alloc ?_ _)); exact BK229.out) hb)
         have n1_ := aM (blk_below (g := gb232) (o := .cells #[.string ((rd_T102 l0_1 x8_1).f0), .slice A231_1 ((rd_T102 l0_1 x8_1).f1).length c231_1] 102 (0, 0)) (by (with_reducible repeat (first | refine blk_drewN ?_ _ | refine blk_drew ?_ | refine blk_alloc ?_ _)); exact BK232.out) hb)
         have n2_ := aM (below_step (by repeat (first | (with_reducible first | exact HB.out | apply below_alloc | apply pw_below_drewN | apply below_drew1 | refine below_set ?_ GE229.out | refine below_set ?_ GE232.out) | exact HB.out)) hb)
         clear BK229
         clear BK232
         clear HB
         have BK229 := n0_
         have BK232 := n1_
         have HB := n2_
         clear n0_ n1_ n2_
         (try clear hb)
         (try clear hb2)
         (try clear hk)
         (try clear hi)
         refine hK.out _ _ ⟨(blk_cell BK232.out 0).trans rfl, (blk_cell BK232.out 1).trans rfl, (blk_cell BK229.out 0).trans rfl, (blk_cell BK229.out 1).trans rfl⟩ (fun hHeld => ?_)
         clear hK K
         refine nM 15 ?_
         refine pZ 34 15 3 16 HT_ ?_
         refine pZ 34 31 4 17 HT_ ?_
         refine pZ 34 63 5 18 HT_ ?_
         refine tZ4 34 127 6 19 HT_ HW_ hHeld ?_
         refine pZ 34 255 7 20 HT_ ?_
         refine pZ 34 511 8 21 HT_ ?_
         refine pZ 34 1023 9 22 HT_ ?_
         refine pZ 34 2047 10 23 HT_ ?_
         refine pZ 34 4095 11 24 HT_ ?_
         refine pZ 34 12287 13 26 HT_ ?_
         refine tZ4 34 16383 12 25 HT_ HW_ hHeld ?_
         refine tZ4 34 32767 14 27 HT_ HW_ hHeld ?_
         refine one_ (i := 15) (N := some 28) (bq 34 65535) rfl rfl (one_of HT_.out (by kernel_rfl)) (by decide) (fun K hK => ?_)
         refine gA Try.func95 #[.slice A231_1 ((rd_T102 l0_1 x8_1).f1).length c231_1, .int .i64 a0_0] ?_
         with_reducible refine (spec_l10List.calls k1 _ _ ((rd_T102 l0_1 x8_1).f1) a0_0 false _ ?side1 ?side2 A16.out).mono ?_
         (case side1 => repeat (first | exact (Kd.C_below HR231_1.out HB.out) | (with_reducible refine Kd.C_alloc ?_ _) | (with_reducible refine Kd.C_drewN ?_ _) | (with_reducible refine Kd.C_drew ?_)))
         (case side2 => exact HC231_1.out)
         rintro e w50 ⟨rfl, hb⟩
         refine ⟨_, rfl, ?_⟩
         have n0_ := aM (blk_below (g := gb229) (o := .cells #[.int .i64 a0_0, .slice (some ad231) l0_1.length c0_1] 33 (0, 0)) (by (with_reducible repeat (first | refine blk_drewN ?_ _ | refine blk_drew ?_ | refine blk_alloc ?_ _)); exact BK229.out) hb)
         have n1_ := aM (blk_below (g := gb232) (o := .cells #[.string ((rd_T102 l0_1 x8_1).f0), .slice A231_1 ((rd_T102 l0_1 x8_1).f1).length c231_1] 102 (0, 0)) (by (with_reducible repeat (first | refine blk_drewN ?_ _ | refine blk_drew ?_ | refine blk_alloc ?_ _)); exact BK232.out) hb)
         have n2_ := aM (below_step (by repeat (first | (with_reducible first | exact HB.out | apply below_alloc | apply pw_below_drewN | apply below_drew1 | refine below_set ?_ GE229.out | refine below_set ?_ GE232.out) | exact HB.out)) hb)
         clear BK229
         clear BK232
         clear HB
         have BK229 := n0_
         have BK232 := n1_
         have HB := n2_
         clear n0_ n1_ n2_
         (try clear hb)
         (try clear hb2)
         (try clear hk)
         (try clear hi)
         refine hK.out _ _ ⟨(blk_cell BK232.out 0).trans rfl, (blk_cell BK232.out 1).trans rfl, (blk_cell BK229.out 0).trans rfl, (blk_cell BK229.out 1).trans rfl⟩ (fun hHeld => ?_)
         clear hK K
         refine nM 28 ?_
         refine pZ 34 131071 16 29 HT_ ?_
         refine pZ 34 262143 17 30 HT_ ?_
         refine pZ 34 524287 18 31 HT_ ?_
         refine pY 34 1048575 19 32 HT_ ?_
         refine pY 34 2097151 20 33 HT_ ?_
         refine pY 34 4194303 21 34 HT_ ?_
         refine pY 34 8388607 22 35 HT_ ?_
         refine pY 34 16777215 23 36 HT_ ?_
         refine pY 34 33554431 24 37 HT_ ?_
         refine pY 34 67108863 25 38 HT_ ?_
         refine pY 34 134217727 26 39 HT_ ?_
         refine pY 34 268435455 27 40 HT_ ?_
         refine pY 34 536870911 28 41 HT_ ?_
         refine pY 34 1073741823 29 42 HT_ ?_
         refine pY 34 2147483647 30 43 HT_ ?_
         refine pY 34 4294967295 31 44 HT_ ?_
         refine pY 34 8589934591 32 45 HT_ ?_
         refine pZ 34 17179869183 33 46 HT_ ?_
         refine done_ (done_of HT_.out (by kernel_rfl)) ?_
         try go_wp2
         go_ret
         exact ⟨eR, by repeat (first | (with_reducible first | exact HB.out | apply below_alloc | apply pw_below_drewN | apply below_drew1 | refine below_set ?_ GE229.out | refine below_set ?_ GE232.out) | exact HB.out)⟩
      ·replace c8 := Bool.eq_false_iff.mpr c8
       subst c8
       have H1 : (some false) = some r := by rw [if_neg (show ¬ (false = true) by decide)] at H; exact H
       clear H
       have H := H1
       clear H1
       obtain rfl := Option.some.inj H
       have p231 : 0 ≤ (x8_1 : Int) := dT
       have q231 : x8_1 < (l0_1.length : Int) := dT
       obtain ⟨ad231, A231_1, c231_1, e231, hx231_0, hx231_1, hl231_1, hi231_1⟩ := at_T102 HR0_1.out x8_1 p231 q231
       cases e231
       try have hz_hx231_0 := aM hx231_0
       try have hz_hx231_1 := aM hx231_1
       replace hx231_0 := (HB.out.cell (World.block_lt_of_cell? w _ hx231_0)).trans hx231_0
       replace hx231_1 := (HB.out.cell (World.block_lt_of_cell? w _ hx231_1)).trans hx231_1
       have HR231_1 := aM hi231_1
       have HC231_1 := aM hl231_1
       clear hi231_1 hl231_1
       replace p231 := eq_true p231
       replace q231 := eq_true q231
       try go_wp2_with (first | ((with_reducible refine gate_dst (N := 4) rfl ?_); (try (refine gate_guard (by rfl) ?_; dsimp only)); refine box_event ?hg (N := 4) ?hd (cs := #[.string (⟨#[]⟩ : ByteArray), .slice none 0 0]) (t := 102) ?hr ?_; (case hd => rfl); (case hg => rfl); (case hr => first | (go_simp; done) | (go_simp; rfl)); intro gb232 hg w51 hbox hb; have n0_ := aM (blk_below (g := gb229) (o := .cells #[.int .i64 a0_0, .slice (some ad231) l0_1.length c0_1] 33 (0, 0)) (by (with_reducible repeat (first | refine blk_drewN ?_ _ | refine blk_drew ?_ | refine blk_alloc ?_ _)); exact BK229.out) hb); have n1_ := aM (below_step (by repeat (first | (with_reducible first | exact HB.out | apply below_alloc | apply pw_below_drewN | apply below_drew1 | refine below_set ?_ GE229.out) | exact HB.out)) hb); have n2_ := aM (hbox); have n3_ := aM ((by rw [hg]; exact (below_size (by repeat (first | (with_reducible first | exact HB.out | apply below_alloc | apply pw_below_drewN | apply below_drew1 | refine below_set ?_ GE229.out) | exact HB.out))) : w.heap.size ≤ gb232)); have n4_ := aM ((by rw [hg]; exact (below_size (by repeat (first | (with_reducible first | exact HB.out | apply below_alloc | apply pw_below_drewN | apply below_drew1 | refine below_set ?_ GE229.out) | exact HB.out))) : w.heap.size ≤ gb232)); have n5_ := aM ((by rw [hg]; exact Nat.ne_of_lt (blk_lt (g := gb229) (o := .cells #[.int .i64 a0_0, .slice (some ad231) l0_1.length c0_1] 33 (0, 0)) (by (with_reducible repeat (first | refine blk_drewN ?_ _ | refine blk_drew ?_ | refine blk_alloc ?_ _)); exact BK229.out)) : gb229 ≠ gb232)); have n6_ := aM ((by rw [hg]; exact Nat.ne_of_gt (blk_lt (g := gb229) (o := .cells #[.int .i64 a0_0, .slice (some ad231) l0_1.length c0_1] 33 (0, 0)) (by (with_reducible repeat (first | refine blk_drewN ?_ _ | refine blk_drew ?_ | refine blk_alloc ?_ _)); exact BK229.out)) : gb232 ≠ gb229)); clear BK229; clear HB; have BK229 := n0_; have HB := n1_; have BK232 := n2_; have GW232 := n3_; have GE232 := n4_; have NB229_232 := n5_; have NB232_229 := n6_; clear n0_ n1_ n2_ n3_ n4_ n5_ n6_; clear hb hbox hg; have hnb52 := NB232_229.out; have hnc52 := NB229_232.out; have hcz53_0 : w51.cell? ⟨gb232, 0, none⟩ = some (.string (⟨#[]⟩ : ByteArray)) := (blk_cell BK232.out 0).trans rfl; have hcz53_1 : w51.cell? ⟨gb232, 1, none⟩ = some (.slice none 0 0) := (blk_cell BK232.out 1).trans rfl; have hfz53_0 := blk_frozen BK232.out 0; have hfz53_1 := blk_frozen BK232.out 1))
       have n0_ : Aside0 (((w51.setCell ⟨gb232, 0, none⟩ (.string ((rd_T102 l0_1 x8_1).f0))).setCell ⟨gb232, 1, none⟩ (.slice A231_1 ((rd_T102 l0_1 x8_1).f1).length c231_1)).heap[gb229]? = some (.cells #[.int .i64 a0_0, .slice (some ad231) l0_1.length c0_1] 33 (0, 0))) := ⟨by (with_reducible repeat (first | refine blk_drewN ?_ _ | refine blk_drew ?_ | refine blk_alloc ?_ _)); refine blk_far ?_ NB229_232.out _; (with_reducible repeat (first | refine blk_drewN ?_ _ | refine blk_drew ?_ | refine blk_alloc ?_ _)); refine blk_far ?_ NB229_232.out _; (with_reducible repeat (first | refine blk_drewN ?_ _ | refine blk_drew ?_ | refine blk_alloc ?_ _)); exact BK229.out⟩
       have n1_ : Aside0 (((w51.setCell ⟨gb232, 0, none⟩ (.string ((rd_T102 l0_1 x8_1).f0))).setCell ⟨gb232, 1, none⟩ (.slice A231_1 ((rd_T102 l0_1 x8_1).f1).length c231_1)).heap[gb232]? = some (.cells #[.string ((rd_T102 l0_1 x8_1).f0), .slice A231_1 ((rd_T102 l0_1 x8_1).f1).length c231_1] 102 (0, 0))) := ⟨by (with_reducible repeat (first | refine blk_drewN ?_ _ | refine blk_drew ?_ | refine blk_alloc ?_ _)); refine blk_put (cs := #[.string ((rd_T102 l0_1 x8_1).f0), .slice none 0 0]) ?_ 1 _ rfl; (with_reducible repeat (first | refine blk_drewN ?_ _ | refine blk_drew ?_ | refine blk_alloc ?_ _)); refine blk_put (cs := #[.string (⟨#[]⟩ : ByteArray), .slice none 0 0]) ?_ 0 _ rfl; (with_reducible repeat (first | refine blk_drewN ?_ _ | refine blk_drew ?_ | refine blk_alloc ?_ _)); exact BK232.out⟩
       have n2_ : Aside0 (Below w.heap.size w ((w51.setCell ⟨gb232, 0, none⟩ (.string ((rd_T102 l0_1 x8_1).f0))).setCell ⟨gb232, 1, none⟩ (.slice A231_1 ((rd_T102 l0_1 x8_1).f1).length c231_1))) := ⟨by repeat (first | (with_reducible first | exact HB.out | apply below_alloc | apply pw_below_drewN | apply below_drew1 | refine below_set ?_ GE229.out | refine below_set ?_ GE232.out) | exact HB.out)⟩
       (try clear BK229)
       (try clear BK232)
       (try clear HB)
       generalize ((w51.setCell ⟨gb232, 0, none⟩ (.string ((rd_T102 l0_1 x8_1).f0))).setCell ⟨gb232, 1, none⟩ (.slice A231_1 ((rd_T102 l0_1 x8_1).f1).length c231_1)) = w54 at n0_ n1_ n2_ ⊢
       have BK229 := n0_
       have BK232 := n1_
       have HB := n2_
       clear n0_ n1_ n2_
       have n0_ := aM (blk_drew BK229.out)
       have n1_ := aM (blk_drew BK232.out)
       have n2_ := aM (below_drew1 HB.out)
       clear BK229
       clear BK232
       clear HB
       have BK229 := n0_
       have BK232 := n1_
       have HB := n2_
       clear n0_ n1_ n2_
       refine start_ (n := 34) (S := fun w' => w'.cell? ⟨gb232, 0, none⟩ = some (.string ((rd_T102 l0_1 x8_1).f0)) ∧ w'.cell? ⟨gb232, 1, none⟩ = some (.slice A231_1 ((rd_T102 l0_1 x8_1).f1).length c231_1)) (ds := []) (bq 34 0) (by kernel_rfl) rfl (by kernel_rfl) ⟨(blk_cell BK232.out 0).trans rfl, (blk_cell BK232.out 1).trans rfl⟩ (fun hHeld => ?_); refine with_tabW spec_GoodWords.tab4 spec_GoodWords.bits4 (fun HT_ HW_ => ?_)
       generalize w54.drew = w55 at BK229 BK232 HB hHeld ⊢
       refine pZ 34 1 0 13 HT_ ?_
       refine tZ2 34 3 1 14 HT_ HW_ hHeld ?_
       refine one_ (i := 2) (N := some 15) (bq 34 7) rfl rfl (one_of HT_.out (by kernel_rfl)) (by decide) (fun K hK => ?_)
       refine gA Try.func94 #[.string ((rd_T102 l0_1 x8_1).f0)] ?_
       with_reducible refine (spec_l10Word.calls k1 ((rd_T102 l0_1 x8_1).f0) false _ A7.out).mono ?_
       rintro e w56 ⟨rfl, hb⟩
       refine ⟨_, rfl, ?_⟩
       have n0_ := aM (blk_below (g := gb229) (o := .cells #[.int .i64 a0_0, .slice (some ad231) l0_1.length c0_1] 33 (0, 0)) (by (with_reducible repeat (first | refine blk_drewN ?_ _ | refine blk_drew ?_ | refine blk_alloc ?_ _)); exact BK229.out) hb)
       have n1_ := aM (blk_below (g := gb232) (o := .cells #[.string ((rd_T102 l0_1 x8_1).f0), .slice A231_1 ((rd_T102 l0_1 x8_1).f1).length c231_1] 102 (0, 0)) (by (with_reducible repeat (first | refine blk_drewN ?_ _ | refine blk_drew ?_ | refine blk_alloc ?_ _)); exact BK232.out) hb)
       have n2_ := aM (below_step (by repeat (first | (with_reducible first | exact HB.out | apply below_alloc | apply pw_below_drewN | apply below_drew1 | refine below_set ?_ GE229.out | refine below_set ?_ GE232.out) | exact HB.out)) hb)
       clear BK229
       clear BK232
       clear HB
       have BK229 := n0_
       have BK232 := n1_
       have HB := n2_
       clear n0_ n1_ n2_
       (try clear hb)
       (try clear hb2)
       (try clear hk)
       (try clear hi)
       refine hK.out _ _ ⟨(blk_cell BK232.out 0).trans rfl, (blk_cell BK232.out 1).trans rfl⟩ (fun hHeld => ?_)
       clear hK K
       refine nM 15 ?_
       refine pZ 34 15 3 16 HT_ ?_
       refine pZ 34 31 4 17 HT_ ?_
       refine pY 34 63 5 18 HT_ ?_
       refine pY 34 127 6 19 HT_ ?_
       refine pY 34 255 7 20 HT_ ?_
       refine pY 34 511 8 21 HT_ ?_
       refine pZ 34 1023 9 22 HT_ ?_
       refine pZ 34 2047 10 23 HT_ ?_
       refine pY 34 4095 11 24 HT_ ?_
       refine pY 34 8191 12 25 HT_ ?_
       refine pY 34 16383 13 26 HT_ ?_
       refine pY 34 32767 14 27 HT_ ?_
       refine pY 34 65535 15 28 HT_ ?_
       refine pY 34 131071 16 29 HT_ ?_
       refine pZ 34 262143 17 30 HT_ ?_
       refine pZ 34 524287 18 31 HT_ ?_
       refine pY 34 1048575 19 32 HT_ ?_
       refine pY 34 2097151 20 33 HT_ ?_
       refine pY 34 4194303 21 34 HT_ ?_
       refine pY 34 8388607 22 35 HT_ ?_
       refine pY 34 16777215 23 36 HT_ ?_
       refine pY 34 33554431 24 37 HT_ ?_
       refine pY 34 67108863 25 38 HT_ ?_
       refine pY 34 134217727 26 39 HT_ ?_
       refine pY 34 268435455 27 40 HT_ ?_
       refine pY 34 536870911 28 41 HT_ ?_
       refine pY 34 1073741823 29 42 HT_ ?_
       refine pY 34 2147483647 30 43 HT_ ?_
       refine pY 34 4294967295 31 44 HT_ ?_
       refine pY 34 8589934591 32 45 HT_ ?_
       refine pZ 34 17179869183 33 46 HT_ ?_
       refine done_ (done_of HT_.out (by kernel_rfl)) ?_
       try go_wp2
       go_ret
       exact ⟨eR, by repeat (first | (with_reducible first | exact HB.out | apply below_alloc | apply pw_below_drewN | apply below_drew1 | refine below_set ?_ GE229.out | refine below_set ?_ GE232.out) | exact HB.out)⟩
     ·rw [if_neg c6] at H
      exact absurd H (by simp)
    ·rw [if_neg c5] at H
     exact absurd H (by simp)
   ·rw [if_neg c4] at H
    have c4b0 : decide (x8_1 < (l0_1.length : Int)) = false := decide_eq_false c4
    clear c4
    replace H := Option.bind_eq_some_iff.mp H
    obtain ⟨t230, A570, H⟩ := H
    replace H : (if t230 = true then (some (decide ((l0_1.length : Int) ≤ 200))) else (some false)) = some r := H
    have A57 := aM A570
    clear A570
    by_cases c58 : t230 = true
    ·subst c58
     have H1 : (some (decide ((l0_1.length : Int) ≤ 200))) = some r := by rw [if_pos rfl] at H; exact H
     clear H
     have H := H1
     clear H1
     obtain rfl := Option.some.inj H
     have hcz59_0 : wr.cell? ⟨gb229, 0, none⟩ = some (.int .i64 a0_0) := (blk_cell BK229.out 0).trans rfl
     have hcz59_1 : wr.cell? ⟨gb229, 1, none⟩ = some (.slice A0_1 l0_1.length c0_1) := (blk_cell BK229.out 1).trans rfl
     have hfz59_0 := blk_frozen BK229.out 0
     have hfz59_1 := blk_frozen BK229.out 1
     go_wp2_with (first | ((with_reducible refine gate_callee (f := 96) rfl ?_); refine gL 50 Try.func96 #[.int .i64 a0_0, .int .i64 0, .int .i64 40] ?_; (with_reducible refine (spec_l1In.calls a0_0 0 40 true _ A57.out).mono ?_); rintro e w' ⟨rfl, ⟨nd, rfl⟩⟩; refine ⟨_, rfl, ?_⟩))
     go_ret
     exact ⟨eR, by repeat (first | (with_reducible first | exact HB.out | apply below_alloc | apply pw_below_drewN | apply below_drew1 | refine below_set ?_ GE229.out) | exact HB.out)⟩
    ·replace c58 := Bool.eq_false_iff.mpr c58
     subst c58
     have H1 : (some false) = some r := by rw [if_neg (show ¬ (false = true) by decide)] at H; exact H
     clear H
     have H := H1
     clear H1
     obtain rfl := Option.some.inj H
     have hcz60_0 : wr.cell? ⟨gb229, 0, none⟩ = some (.int .i64 a0_0) := (blk_cell BK229.out 0).trans rfl
     have hcz60_1 : wr.cell? ⟨gb229, 1, none⟩ = some (.slice A0_1 l0_1.length c0_1) := (blk_cell BK229.out 1).trans rfl
     have hfz60_0 := blk_frozen BK229.out 0
     have hfz60_1 := blk_frozen BK229.out 1
     go_wp2_with (first | ((with_reducible refine gate_callee (f := 96) rfl ?_); refine gL 50 Try.func96 #[.int .i64 a0_0, .int .i64 0, .int .i64 40] ?_; (with_reducible refine (spec_l1In.calls a0_0 0 40 false _ A57.out).mono ?_); rintro e w' ⟨rfl, ⟨nd, rfl⟩⟩; refine ⟨_, rfl, ?_⟩))
     go_ret
     exact ⟨eR, by repeat (first | (with_reducible first | exact HB.out | apply below_alloc | apply pw_below_drewN | apply below_drew1 | refine below_set ?_ GE229.out) | exact HB.out)⟩

end Go.Proofs.Ytaomjndfjmfelaa.PQ
end

section
namespace Go.Proofs.Ytaomjndfjmfelaa.PQ
open Go.RowKit Go.Proofs.YtaomjndfjmfelaaW.PrintWords Go.Proofs.YtaomjndfjmfelaaW.PrintLast Go.Proofs.YtaomjndfjmfelaaW.PrintMore
attribute [local go_sem] max2_int min2_int max_two min_two max_three min_three max_four min_four
set_option linter.unusedVariables false
set_option linter.unusedSimpArgs false
mutual
def spec_l10Marks.j0 : Nat → List ByteArray → Bool → Int → List (S102) → Option (List Int × Bool)
 | 0, _, _, _, _ => none
 | k + 1, x1, x18, x554000, x554001 => if x18 = true then (some (([] : List Int), false)) else (if 0 ≤ x554000 then (if (x554000 : Int).toNat ≤ 35184372088832 then (spec_l10Marks.l0 k (List.replicate (x554000 : Int).toNat 0) x1 (x1.length : Int) 0 x554000 x554001) else (none)) else (none))
def spec_l10Marks.l0 : Nat → List Int → List ByteArray → Int → Int → Int → List (S102) → Option (List Int × Bool)
 | 0, _, _, _, _, _, _ => none
 | k + 1, x6, x22, x23, x24, x554000, x554001 => if x24 < x23 then (if 0 ≤ x24 then (if x24 < (x22.length : Int) then ((spec_l10Word.f k (rdOf ByteArray.empty x22 x24)).bind fun t559 => (if t559 = true then ((spec_l10Postings.f k x554000 x554001 (rdOf ByteArray.empty x22 x24)).bind fun t560 => (spec_l10Marks.l1 k x6 x22 x23 x24 t560 (t560.length : Int) 0 x554000 x554001)) else (some (([] : List Int), false)))) else (none)) else (none)) else (some (x6, true))
def spec_l10Marks.l1 : Nat → List Int → List ByteArray → Int → Int → List (S56) → Int → Int → Int → List (S102) → Option (List Int × Bool)
 | 0, _, _, _, _, _, _, _, _, _ => none
 | k + 1, x6, x22, x23, x24, x33, x34, x35, x554000, x554001 => if x35 < x34 then (if 0 ≤ x35 then (if x35 < (x33.length : Int) then (if 0 ≤ ((rd_T56 x33 x35).f0) then (if ((rd_T56 x33 x35).f0) < (x6.length : Int) then (spec_l10Marks.l1 k (x6.set (((rd_T56 x33 x35).f0) : Int).toNat (wrap64 ((rd x6 ((rd_T56 x33 x35).f0)) + 1))) x22 x23 x24 x33 x34 (wrap64 (x35 + 1)) x554000 x554001) else (none)) else (none)) else (none)) else (none)) else (spec_l10Marks.l0 k x6 x22 x23 (wrap64 (x24 + 1)) x554000 x554001)
end
def spec_l10Marks.f (k : Nat) (a0_0 : Int) (l0_1 : List (S102)) (l1 : List ByteArray) : Option (List Int × Bool) := (spec_GoodWords.f k a0_0 l0_1).bind fun t554 => (if t554 = true then (spec_l10Marks.j0 k l1 (decide ((l1.length : Int) > 20)) a0_0 l0_1) else (spec_l10Marks.j0 k l1 true a0_0 l0_1))
set_option maxHeartbeats 8000000 in
set_option maxRecDepth 100000 in
theorem spec_l10Marks.calls (k : Nat) (a0_0 : Int) (A0_1 : Option Addr) (c0_1 : Nat) (l0_1 : List (S102)) (A1 : Option Addr) (c1 : Nat) (l1 : List ByteArray) (r1 : List Int) (r2 : Bool) (w : World) (hr0_1 : Kd.C k102 w A0_1 l0_1.length l0_1) (hc0_1 : l0_1.length ≤ c0_1) (hr1 : Kd.C Kd.string w A1 l1.length l1) (hc1 : l1.length ≤ c1) (h : spec_l10Marks.f k a0_0 l0_1 l1 = some (r1, r2)) :
  Calls Try.prog 70 #[.agg #[.int .i64 a0_0, .slice A0_1 l0_1.length c0_1], .slice A1 l1.length c1] w fun e w' => ∃ v0_ : Value, e = .returned (.tuple #[v0_, .bool r2]) ∧ Kd.R (Kd.int .i64) 3 w' w.heap.size (fun _ => True) v0_ r1 ∧ Below w.heap.size w w' := by
 have hu33 := Try.underlying33
 have hu56 := Try.underlying56
 have HR0_1 := aM hr0_1
 have HC0_1 := aM hc0_1
 clear hr0_1 hc0_1
 have HR1 := aM hr1
 have HC1 := aM hc1
 clear hr1 hc1
 have HB := aM (Below.refl w.heap.size w)
 have H : ((spec_GoodWords.f k a0_0 l0_1).bind fun t554 => (if t554 = true then (spec_l10Marks.j0 k l1 (decide ((l1.length : Int) > 20)) a0_0 l0_1) else (spec_l10Marks.j0 k l1 true a0_0 l0_1))) = some (r1, r2) := h
 clear h
 have HC3 := aM H
 clear H
 go_enter Try.func70, Try.ntmps70
 go_upto_region 1 with (first | ((with_reducible refine gate_dst (N := 2) rfl ?_); (try (refine gate_guard (by rfl) ?_; dsimp only)); refine box_event ?hg (N := 2) ?hd (cs := #[.int .i64 a0_0, .slice A0_1 l0_1.length c0_1]) (t := 33) ?hr ?_; (case hd => rfl); (case hg => rfl); (case hr => first | (go_simp; done) | (go_simp; rfl)); intro gb553 hg w4 hbox hb; have n0_ := aM (below_step (by repeat (first | (with_reducible first | exact HB.out | apply below_alloc | apply pw_below_drewN | apply below_drew1) | exact HB.out)) hb); have n1_ := aM (hbox); have n2_ := aM ((by rw [hg]; exact (below_size (by repeat (first | (with_reducible first | exact HB.out | apply below_alloc | apply pw_below_drewN | apply below_drew1) | exact HB.out))) : w.heap.size ≤ gb553)); have n3_ := aM ((by rw [hg]; exact (below_size (by repeat (first | (with_reducible first | exact HB.out | apply below_alloc | apply pw_below_drewN | apply below_drew1) | exact HB.out))) : w.heap.size ≤ gb553)); clear HB; have HB := n0_; have BK553 := n1_; have GW553 := n2_; have GE553 := n3_; clear n0_ n1_ n2_ n3_; clear hb hbox hg))
 (try simp only [Act.put, zSA, zSB, zSC])
 go_cut [18] (fun v18 wc => ∃ (kq : Nat) (x18_2 : Bool), v18 = .bool x18_2 ∧ Aside0 (spec_l10Marks.j0 kq l1 x18_2 a0_0 l0_1 = some (r1, r2)) ∧ Aside0 (kq ≤ k) ∧ Aside0 (wc.heap[gb553]? = some (.cells #[.int .i64 a0_0, (.slice A0_1 l0_1.length c0_1)] 33 (0, 0))) ∧ Aside0 (Below w.heap.size w wc))
 case first =>
  have H := HC3.out
  clear HC3
  replace H := Option.bind_eq_some_iff.mp H
  obtain ⟨t554, A50, H⟩ := H
  replace H : (if t554 = true then (spec_l10Marks.j0 k l1 (decide ((l1.length : Int) > 20)) a0_0 l0_1) else (spec_l10Marks.j0 k l1 true a0_0 l0_1)) = some (r1, r2) := H
  have A5 := aM A50
  clear A50
  by_cases c6 : t554 = true
  ·subst c6
   have H1 : (spec_l10Marks.j0 k l1 (decide ((l1.length : Int) > 20)) a0_0 l0_1) = some (r1, r2) := by rw [if_pos rfl] at H; exact H
   clear H
   have H := H1
   clear H1
   have H' := aM H
   clear H
   have hcz7_0 : w4.cell? ⟨gb553, 0, none⟩ = some (.int .i64 a0_0) := (blk_cell BK553.out 0).trans rfl
   have hcz7_1 : w4.cell? ⟨gb553, 1, none⟩ = some (.slice A0_1 l0_1.length c0_1) := (blk_cell BK553.out 1).trans rfl
   have hfz7_0 := blk_frozen BK553.out 0
   have hfz7_1 := blk_frozen BK553.out 1
   go_wp2_with (first | ((with_reducible refine gate_callee (f := 44) rfl ?_); refine gL 12 Try.func44 #[.agg #[.int .i64 a0_0, .slice A0_1 l0_1.length c0_1]] ?_; (with_reducible refine (spec_GoodWords.calls k a0_0 _ _ l0_1 true _ ?side1 ?side2 A5.out).mono ?_); (case side1 => repeat (first | exact (Kd.C_below HR0_1.out HB.out) | (with_reducible refine Kd.C_alloc ?_ _) | (with_reducible refine Kd.C_drewN ?_ _) | (with_reducible refine Kd.C_drew ?_))); (case side2 => exact HC0_1.out); rintro e w8 ⟨rfl, hb⟩; refine ⟨_, rfl, ?_⟩; have n0_ := aM (blk_below (g := gb553) (o := .cells #[.int .i64 a0_0, .slice A0_1 l0_1.length c0_1] 33 (0, 0)) (by (with_reducible repeat (first | refine blk_drewN ?_ _ | refine blk_drew ?_ | refine blk_alloc ?_ _)); exact BK553.out) hb); have n1_ := aM (below_step (by repeat (first | (with_reducible first | exact HB.out | apply below_alloc | apply pw_below_drewN | apply below_drew1 | refine below_set ?_ GE553.out) | exact HB.out)) hb); clear BK553; clear HB; have BK553 := n0_; have HB := n1_; clear n0_ n1_; (try clear hb); (try clear hb2); (try clear hk); (try clear hi)))
   go_meet
   case rel => exact ⟨_, (decide ((l1.length : Int) > 20)), (by first | rfl | (simp; done) | (simp [*]; done)), H', ⟨by first | omega | exact Nat.le_refl _⟩, ⟨by (with_reducible repeat (first | refine blk_drewN ?_ _ | refine blk_drew ?_ | refine blk_alloc ?_ _)); exact BK553.out⟩, ⟨by repeat (first | (with_reducible first | exact HB.out | apply below_alloc | apply pw_below_drewN | apply below_drew1 | refine below_set ?_ GE553.out) | exact HB.out)⟩⟩
  ·replace c6 := Bool.eq_false_iff.mpr c6
   subst c6
   have H1 : (spec_l10Marks.j0 k l1 true a0_0 l0_1) = some (r1, r2) := by rw [if_neg (show ¬ (false = true) by decide)] at H; exact H
   clear H
   have H := H1
   clear H1
   have H' := aM H
   clear H
   have hcz9_0 : w4.cell? ⟨gb553, 0, none⟩ = some (.int .i64 a0_0) := (blk_cell BK553.out 0).trans rfl
   have hcz9_1 : w4.cell? ⟨gb553, 1, none⟩ = some (.slice A0_1 l0_1.length c0_1) := (blk_cell BK553.out 1).trans rfl
   have hfz9_0 := blk_frozen BK553.out 0
   have hfz9_1 := blk_frozen BK553.out 1
   go_wp2_with (first | ((with_reducible refine gate_callee (f := 44) rfl ?_); refine gL 12 Try.func44 #[.agg #[.int .i64 a0_0, .slice A0_1 l0_1.length c0_1]] ?_; (with_reducible refine (spec_GoodWords.calls k a0_0 _ _ l0_1 false _ ?side1 ?side2 A5.out).mono ?_); (case side1 => repeat (first | exact (Kd.C_below HR0_1.out HB.out) | (with_reducible refine Kd.C_alloc ?_ _) | (with_reducible refine Kd.C_drewN ?_ _) | (with_reducible refine Kd.C_drew ?_))); (case side2 => exact HC0_1.out); rintro e w10 ⟨rfl, hb⟩; refine ⟨_, rfl, ?_⟩; have n0_ := aM (blk_below (g := gb553) (o := .cells #[.int .i64 a0_0, .slice A0_1 l0_1.length c0_1] 33 (0, 0)) (by (with_reducible repeat (first | refine blk_drewN ?_ _ | refine blk_drew ?_ | refine blk_alloc ?_ _)); exact BK553.out) hb); have n1_ := aM (below_step (by repeat (first | (with_reducible first | exact HB.out | apply below_alloc | apply pw_below_drewN | apply below_drew1 | refine below_set ?_ GE553.out) | exact HB.out)) hb); clear BK553; clear HB; have BK553 := n0_; have HB := n1_; clear n0_ n1_; (try clear hb); (try clear hb2); (try clear hk); (try clear hi)))
   go_meet
   case rel => exact ⟨_, (true), (by first | rfl | (simp; done) | (simp [*]; done)), H', ⟨by first | omega | exact Nat.le_refl _⟩, ⟨by (with_reducible repeat (first | refine blk_drewN ?_ _ | refine blk_drew ?_ | refine blk_alloc ?_ _)); exact BK553.out⟩, ⟨by repeat (first | (with_reducible first | exact HB.out | apply below_alloc | apply pw_below_drewN | apply below_drew1 | refine below_set ?_ GE553.out) | exact HB.out)⟩⟩
 case rest =>
  clear HC3
  try clear c1
  try clear p2
  try clear c4
  try clear c6
  try clear c7
  try clear hcz7_0
  try clear hcz7_1
  try clear hcz9_0
  try clear hcz9_1
  try clear hfz7_0
  try clear hfz7_1
  try clear hfz9_0
  try clear hfz9_1
  obtain ⟨kq, x18_2, rfl, HA, HJ2, BK553, HB⟩ := hcut
  cases kq with
  | zero => exact absurd HA.out (by simp [spec_l10Marks.j0])
  | succ kj2 =>
   have H := HA.out
   clear HA
   simp only [spec_l10Marks.j0] at H
   by_cases c11 : x18_2 = true
   ·subst c11
    have H1 : (some (([] : List Int), false)) = some (r1, r2) := by rw [if_pos rfl] at H; exact H
    clear H
    have H := H1
    clear H1
    simp only [Option.some.injEq, Prod.mk.injEq] at H
    obtain ⟨rfl, rfl⟩ := H
    go_wp2
    go_ret2
    exact ⟨_, eR, by first | exact Kd.R_nil _ _ _ _ _ | exact Kd.N_nil _ _ _ _ _ | exact Kd.V_nil _ _ _ _ _ | exact Kd.Q_nil _ _ _ _ _ | exact Kd.S_nil _ _ _ _ _, by repeat (first | (with_reducible first | exact HB.out | apply below_alloc | apply pw_below_drewN | apply below_drew1 | refine below_set ?_ GE553.out) | exact HB.out)⟩
   ·replace c11 := Bool.eq_false_iff.mpr c11
    subst c11
    have H1 : (if 0 ≤ a0_0 then (if (a0_0 : Int).toNat ≤ 35184372088832 then (spec_l10Marks.l0 kj2 (List.replicate (a0_0 : Int).toNat 0) l1 (l1.length : Int) 0 a0_0 l0_1) else (none)) else (none)) = some (r1, r2) := by rw [if_neg (show ¬ (false = true) by decide)] at H; exact H
    clear H
    have H := H1
    clear H1
    by_cases c12 : 0 ≤ a0_0
    ·rw [if_pos c12] at H
     have c12b0 := eq_true c12
     have c12b1 : decide (0 ≤ a0_0) = true := decide_eq_true c12
     clear c12
     by_cases c13 : (a0_0 : Int).toNat ≤ 35184372088832
     ·rw [if_pos c13] at H
      have c13b0 := eq_true c13
      have c13b1 : decide ((a0_0 : Int).toNat ≤ 35184372088832) = true := decide_eq_true c13
      clear c13
      obtain ⟨y555, hy555⟩ : ∃ y_ : List Int, y_ = (List.replicate (a0_0 : Int).toNat 0) := ⟨_, rfl⟩
      replace H : (spec_l10Marks.l0 kj2 y555 l1 (l1.length : Int) 0 a0_0 l0_1) = some (r1, r2) := by first | (rw [hy555]; with_reducible exact H) | (have H2_ := (Option.bind_some _ _).symm.trans H; rw [hy555]; with_reducible exact H2_) | (have H2_ := (Option.bind_some _ _).symm.trans H; with_reducible exact H2_) | with_reducible exact H | (rw [hy555]; exact H) | exact H
      have Ny555 := aM hy555
      clear hy555
      have H' := aM H
      clear H
      have hcz14_0 : wc.cell? ⟨gb553, 0, none⟩ = some (.int .i64 a0_0) := (blk_cell BK553.out 0).trans rfl
      have hcz14_1 : wc.cell? ⟨gb553, 1, none⟩ = some (.slice A0_1 l0_1.length c0_1) := (blk_cell BK553.out 1).trans rfl
      have hfz14_0 := blk_frozen BK553.out 0
      have hfz14_1 := blk_frozen BK553.out 1
      go_wp2_with (first | ((with_reducible refine gate_dst (N := 21) rfl ?_); (try (refine gate_guard (by rfl) ?_; dsimp only)); refine Kd.R_make (Kd.int .i64) _ 3 rfl (N := 21) rfl 28 _ _ rfl a0_0 rfl rfl Try.underlying28 (.int .i64 0) 8 info3 rfl (by decide) (by omega) 0 (ok := fun _ => True) (okp := fun _ => True) rfl (fun _ hk => hk) trivial (of_decide_eq_true (by first | (with_reducible assumption) | assumption)) (Nat.le_trans (Nat.mul_le_mul_right _ (of_decide_eq_true (by first | (with_reducible assumption) | assumption) : a0_0.toNat ≤ 35184372088832)) (by omega)) (Below.refl _ _) (Nat.le_refl _) ?_; intro v556 w15 ho16 hb hg_ hnew_; clear hg_ hnew_; (first | rw [← Ny555.out] at ho16 | (simp only [Int.reduceToNat] at ho16; rw [← Ny555.out] at ho16)); have n0_ := aM (Kd.R_lower ho16 (below_size (by repeat (first | (with_reducible first | exact HB.out | apply below_alloc | apply pw_below_drewN | apply below_drew1 | refine below_set ?_ GE553.out) | exact HB.out)))); have n1_ := aM (blk_below (g := gb553) (o := .cells #[.int .i64 a0_0, .slice A0_1 l0_1.length c0_1] 33 (0, 0)) (by (with_reducible repeat (first | refine blk_drewN ?_ _ | refine blk_drew ?_ | refine blk_alloc ?_ _)); exact BK553.out) hb); have n2_ := aM (below_step (by repeat (first | (with_reducible first | exact HB.out | apply below_alloc | apply pw_below_drewN | apply below_drew1 | refine below_set ?_ GE553.out) | exact HB.out)) hb); clear BK553; clear HB; have HO557 := n0_; have BK553 := n1_; have HB := n2_; clear n0_ n1_ n2_; clear hb ho16))
      go_loopg [24] kj2 (fun kq v24 w' => ∃ (x6_2 : List Int) (x24_2 : Int), v24 = .int .i64 x24_2 ∧ Aside0 (spec_l10Marks.l0 kq x6_2 l1 (l1.length : Int) x24_2 a0_0 l0_1 = some (r1, r2)) ∧ Aside0 (kq ≤ kj2) ∧ Aside0 (Kd.R (Kd.int .i64) 3 w' w.heap.size (fun _ => True) v556 x6_2) ∧ Aside0 (w'.heap[gb553]? = some (.cells #[.int .i64 a0_0, (.slice A0_1 l0_1.length c0_1)] 33 (0, 0))) ∧ Aside0 (Below w.heap.size w w'))
      case atStart => exact ⟨(y555), (0), (by first | rfl | (simp; done) | (simp [*]; done)), H', ⟨Nat.le_refl _⟩, ⟨by (with_reducible repeat (first | apply Kd.R_alloc | apply Kd.R_drewN | apply Kd.R_drew)); exact HO557.out⟩, ⟨by (with_reducible repeat (first | refine blk_drewN ?_ _ | refine blk_drew ?_ | refine blk_alloc ?_ _)); exact BK553.out⟩, ⟨by repeat (first | (with_reducible first | exact HB.out | apply below_alloc | apply pw_below_drewN | apply below_drew1 | refine below_set ?_ GE553.out) | exact HB.out)⟩⟩
      case round =>
       clear H'
       try clear c1
       try clear p2
       try clear c4
       try clear c6
       try clear c7
       try clear c11
       try clear c12
       try clear c12b0
       try clear c12b1
       try clear c13
       try clear c13b0
       try clear c13b1
       try clear hcz14_0
       try clear hcz14_1
       try clear hcz7_0
       try clear hcz7_1
       try clear hcz9_0
       try clear hcz9_1
       try clear hfz14_0
       try clear hfz14_1
       try clear hfz7_0
       try clear hfz7_1
       try clear hfz9_0
       try clear hfz9_1
       try clear p2
       obtain ⟨x6_2, x24_2, rfl, HA, HK2, HO_6, BK553, HB⟩ := hrel
       cases gk with
       | zero => exact absurd HA.out (by simp [spec_l10Marks.l0])
       | succ k2 =>
        have H := HA.out
        clear HA
        simp only [spec_l10Marks.l0] at H
        by_cases c17 : x24_2 < (l1.length : Int)
        ·rw [if_pos c17] at H
         have c17b0 : decide (x24_2 < (l1.length : Int)) = true := decide_eq_true c17
         clear c17
         by_cases c18 : 0 ≤ x24_2
         ·rw [if_pos c18] at H
          have c18b0 : decide (0 ≤ x24_2) = true := decide_eq_true c18
          clear c18
          by_cases c19 : x24_2 < (l1.length : Int)
          ·rw [if_pos c19] at H
           have c19b0 : decide (x24_2 < (l1.length : Int)) = true := decide_eq_true c19
           clear c19
           replace H := Option.bind_eq_some_iff.mp H
           obtain ⟨t559, A200, H⟩ := H
           replace H : (if t559 = true then ((spec_l10Postings.f k2 a0_0 l0_1 (rdOf ByteArray.empty l1 x24_2)).bind fun t560 => (spec_l10Marks.l1 k2 x6_2 l1 (l1.length : Int) x24_2 t560 (t560.length : Int) 0 a0_0 l0_1)) else (some (([] : List Int), false))) = some (r1, r2) := H
           have A20 := aM A200
           clear A200
           by_cases c21 : t559 = true
           ·subst c21
            have H1 : ((spec_l10Postings.f k2 a0_0 l0_1 (rdOf ByteArray.empty l1 x24_2)).bind fun t560 => (spec_l10Marks.l1 k2 x6_2 l1 (l1.length : Int) x24_2 t560 (t560.length : Int) 0 a0_0 l0_1)) = some (r1, r2) := by rw [if_pos rfl] at H; exact H
            clear H
            have H := H1
            clear H1
            replace H := Option.bind_eq_some_iff.mp H
            obtain ⟨t560, A220, H⟩ := H
            replace H : (spec_l10Marks.l1 k2 x6_2 l1 (l1.length : Int) x24_2 t560 (t560.length : Int) 0 a0_0 l0_1) = some (r1, r2) := H
            have A22 := aM A220
            clear A220
            have H' := aM H
            clear H
            have p558 : 0 ≤ (x24_2 : Int) := dT
            have q558 : x24_2 < (l1.length : Int) := dT
            obtain ⟨ad558, e558, hx558_0⟩ := Kd.at_string HR1.out x24_2 p558 q558
            cases e558
            replace hx558_0 := (HB.out.cell (World.block_lt_of_cell? w _ hx558_0)).trans hx558_0
            replace p558 := eq_true p558
            replace q558 := eq_true q558
            go_wp2_with (first | ((with_reducible refine gate_callee (f := 94) rfl ?_); refine gL 29 Try.func94 #[.string (rdOf ByteArray.empty l1 x24_2)] ?_; (with_reducible refine (spec_l10Word.calls k2 (rdOf ByteArray.empty l1 x24_2) true _ A20.out).mono ?_); rintro e w23 ⟨rfl, hb⟩; refine ⟨_, rfl, ?_⟩; have n0_ := aM (Kd.R_below (by (with_reducible repeat (first | apply Kd.R_alloc | apply Kd.R_drewN | apply Kd.R_drew)); exact HO_6.out) hb); have n1_ := aM (blk_below (g := gb553) (o := .cells #[.int .i64 a0_0, .slice A0_1 l0_1.length c0_1] 33 (0, 0)) (by (with_reducible repeat (first | refine blk_drewN ?_ _ | refine blk_drew ?_ | refine blk_alloc ?_ _)); exact BK553.out) hb); have n2_ := aM (below_step (by repeat (first | (with_reducible first | exact HB.out | apply below_alloc | apply pw_below_drewN | apply below_drew1 | refine below_set ?_ GE553.out) | exact HB.out)) hb); clear HO_6; clear BK553; clear HB; have HO_6 := n0_; have BK553 := n1_; have HB := n2_; clear n0_ n1_ n2_; (try clear hb); (try clear hb2); (try clear hk); (try clear hi); have hcz24_0 : w23.cell? ⟨gb553, 0, none⟩ = some (.int .i64 a0_0) := (blk_cell BK553.out 0).trans rfl; have hcz24_1 : w23.cell? ⟨gb553, 1, none⟩ = some (.slice A0_1 l0_1.length c0_1) := (blk_cell BK553.out 1).trans rfl; have hfz24_0 := blk_frozen BK553.out 0; have hfz24_1 := blk_frozen BK553.out 1) | ((with_reducible refine gate_callee (f := 120) rfl ?_); refine gL 33 Try.func120 #[.agg #[.int .i64 a0_0, .slice A0_1 l0_1.length c0_1], .string (rdOf ByteArray.empty l1 x24_2)] ?_; (with_reducible refine (spec_l10Postings.calls k2 a0_0 _ _ l0_1 (rdOf ByteArray.empty l1 x24_2) t560 _ ?side1 ?side2 A22.out).mono ?_); (case side1 => repeat (first | exact (Kd.C_below HR0_1.out HB.out) | (with_reducible refine Kd.C_alloc ?_ _) | (with_reducible refine Kd.C_drewN ?_ _) | (with_reducible refine Kd.C_drew ?_))); (case side2 => exact HC0_1.out); rintro e w25 ⟨v561, rfl, ho0, hb⟩; refine ⟨_, rfl, ?_⟩; have n0_ := aM (Kd.R_below (by (with_reducible repeat (first | apply Kd.R_alloc | apply Kd.R_drewN | apply Kd.R_drew)); exact HO_6.out) hb); have n1_ := aM (Kd.R_lower ho0 (below_size (by repeat (first | (with_reducible first | exact HB.out | apply below_alloc | apply pw_below_drewN | apply below_drew1 | refine below_set ?_ GE553.out) | exact HB.out)))); have n2_ := aM (blk_below (g := gb553) (o := .cells #[.int .i64 a0_0, .slice A0_1 l0_1.length c0_1] 33 (0, 0)) (by (with_reducible repeat (first | refine blk_drewN ?_ _ | refine blk_drew ?_ | refine blk_alloc ?_ _)); exact BK553.out) hb); have n3_ := aM (below_step (by repeat (first | (with_reducible first | exact HB.out | apply below_alloc | apply pw_below_drewN | apply below_drew1 | refine below_set ?_ GE553.out) | exact HB.out)) hb); clear HO_6; clear BK553; clear HB; have HO_6 := n0_; have HO562 := n1_; have BK553 := n2_; have HB := n3_; clear n0_ n1_ n2_ n3_; (try clear hb); (try clear hb2); (try clear hk); (try clear hi); (try clear ho0); obtain ⟨Ao26, co26, eo26⟩ := Kd.R_slice HO562.out; subst eo26))
            go_loopg [35] k2 (fun kq v35 w' => ∃ (x6_3 : List Int) (x35_3 : Int), v35 = .int .i64 x35_3 ∧ Aside0 (spec_l10Marks.l1 kq x6_3 l1 (l1.length : Int) x24_2 t560 (t560.length : Int) x35_3 a0_0 l0_1 = some (r1, r2)) ∧ Aside0 (kq ≤ k2) ∧ Aside0 (Kd.R (Kd.int .i64) 3 w' w.heap.size (fun _ => True) v556 x6_3) ∧ Aside0 (Kd.R k56 56 w' w.heap.size (fun _ => True) (.slice Ao26 t560.length co26) t560) ∧ Aside0 (w'.heap[gb553]? = some (.cells #[.int .i64 a0_0, (.slice A0_1 l0_1.length c0_1)] 33 (0, 0))) ∧ Aside0 (Below w.heap.size w w'))
            case atStart => exact ⟨(x6_2), (0), (by first | rfl | (simp; done) | (simp [*]; done)), H', ⟨Nat.le_refl _⟩, ⟨by (with_reducible repeat (first | apply Kd.R_alloc | apply Kd.R_drewN | apply Kd.R_drew)); exact HO_6.out⟩, ⟨by (with_reducible repeat (first | apply Kd.R_alloc | apply Kd.R_drewN | apply Kd.R_drew)); exact HO562.out⟩, ⟨by (with_reducible repeat (first | refine blk_drewN ?_ _ | refine blk_drew ?_ | refine blk_alloc ?_ _)); exact BK553.out⟩, ⟨by repeat (first | (with_reducible first | exact HB.out | apply below_alloc | apply pw_below_drewN | apply below_drew1 | refine below_set ?_ GE553.out) | exact HB.out)⟩⟩
            case round =>
             clear H'
             try clear c1
             try clear c2
             try clear p2
             try clear c4
             try clear p5
             try clear q5
             try clear hx5
             try clear c6
             try clear c7
             try clear c9
             try clear c11
             try clear c12
             try clear c12b0
             try clear c12b1
             try clear c13
             try clear c13b0
             try clear c13b1
             try clear c17
             try clear c17b0
             try clear c18
             try clear c18b0
             try clear c19
             try clear c19b0
             try clear c21
             try clear hcz14_0
             try clear hcz14_1
             try clear hcz24_0
             try clear hcz24_1
             try clear hcz7_0
             try clear hcz7_1
             try clear hcz9_0
             try clear hcz9_1
             try clear hfz14_0
             try clear hfz14_1
             try clear hfz24_0
             try clear hfz24_1
             try clear hfz7_0
             try clear hfz7_1
             try clear hfz9_0
             try clear hfz9_1
             try clear hx558_0
             try clear p2
             try clear p558
             try clear q558
             obtain ⟨x6_3, x35_3, rfl, HA, HK3, HO_6, HO_33, BK553, HB⟩ := hrel
             cases gk with
             | zero => exact absurd HA.out (by simp [spec_l10Marks.l1])
             | succ k3 =>
              have H := HA.out
              clear HA
              simp only [spec_l10Marks.l1] at H
              by_cases c27 : x35_3 < (t560.length : Int)
              ·rw [if_pos c27] at H
               have c27b0 : decide (x35_3 < (t560.length : Int)) = true := decide_eq_true c27
               clear c27
               by_cases c28 : 0 ≤ x35_3
               ·rw [if_pos c28] at H
                have c28b0 : decide (0 ≤ x35_3) = true := decide_eq_true c28
                clear c28
                by_cases c29 : x35_3 < (t560.length : Int)
                ·rw [if_pos c29] at H
                 have c29b0 : decide (x35_3 < (t560.length : Int)) = true := decide_eq_true c29
                 clear c29
                 by_cases c30 : 0 ≤ ((rd_T56 t560 x35_3).f0)
                 ·rw [if_pos c30] at H
                  have c30b0 : decide (0 ≤ ((rd_T56 t560 x35_3).f0)) = true := decide_eq_true c30
                  clear c30
                  by_cases c31 : ((rd_T56 t560 x35_3).f0) < (x6_3.length : Int)
                  ·rw [if_pos c31] at H
                   have c31b0 : decide (((rd_T56 t560 x35_3).f0) < (x6_3.length : Int)) = true := decide_eq_true c31
                   clear c31
                   obtain ⟨y566, hy566⟩ : ∃ y_ : List Int, y_ = (x6_3.set (((rd_T56 t560 x35_3).f0) : Int).toNat (wrap64 ((rd x6_3 ((rd_T56 t560 x35_3).f0)) + 1))) := ⟨_, rfl⟩
                   replace H : (spec_l10Marks.l1 k3 y566 l1 (l1.length : Int) x24_2 t560 (t560.length : Int) (wrap64 (x35_3 + 1)) a0_0 l0_1) = some (r1, r2) := by first | (rw [hy566]; with_reducible exact H) | (have H2_ := (Option.bind_some _ _).symm.trans H; rw [hy566]; with_reducible exact H2_) | (have H2_ := (Option.bind_some _ _).symm.trans H; with_reducible exact H2_) | with_reducible exact H | (rw [hy566]; exact H) | exact H
                   have Ny566 := aM hy566
                   clear hy566
                   have H' := aM H
                   clear H
                   have p563 : 0 ≤ (x35_3 : Int) := dT
                   have q563 : x35_3 < (t560.length : Int) := dT
                   obtain ⟨ad563, e563, hx563_0, hx563_1⟩ := at_T56 (Kd.R_reads' HO_33.out).2.2 x35_3 p563 q563
                   cases e563
                   try have hz_hx563_0 := aM hx563_0
                   try have hz_hx563_1 := aM hx563_1
                   replace p563 := eq_true p563
                   replace q563 := eq_true q563
                   go_wp2_with (first | ((with_reducible refine gate_dst (N := 10) rfl ?_); (try (refine gate_guard (by rfl) ?_; dsimp only)); refine box_event ?hg (N := 10) ?hd (cs := #[.int .i64 0, .int .i64 0]) (t := 56) ?hr ?_; (case hd => rfl); (case hg => rfl); (case hr => first | (go_simp; done) | (go_simp; rfl)); intro gb564 hg w33 hbox hb; have n0_ := aM (Kd.R_below (by (with_reducible repeat (first | apply Kd.R_alloc | apply Kd.R_drewN | apply Kd.R_drew)); exact HO_6.out) hb); have n1_ := aM (Kd.R_below (Kd.R_elderB (by (with_reducible repeat (first | apply Kd.R_alloc | apply Kd.R_drewN | apply Kd.R_drew)); exact HO_33.out) gb564 (Nat.le_of_eq hg.symm)) hb); have n2_ := aM (blk_below (g := gb553) (o := .cells #[.int .i64 a0_0, .slice A0_1 l0_1.length c0_1] 33 (0, 0)) (by (with_reducible repeat (first | refine blk_drewN ?_ _ | refine blk_drew ?_ | refine blk_alloc ?_ _)); exact BK553.out) hb); have n3_ := aM (below_step (by repeat (first | (with_reducible first | exact HB.out | apply below_alloc | apply pw_below_drewN | apply below_drew1 | refine below_set ?_ GE553.out) | exact HB.out)) hb); have n4_ := aM (hbox); have n5_ := aM ((by rw [hg]; exact (below_size (by repeat (first | (with_reducible first | exact HB.out | apply below_alloc | apply pw_below_drewN | apply below_drew1 | refine below_set ?_ GE553.out) | exact HB.out))) : w.heap.size ≤ gb564)); have n6_ := aM ((by rw [hg]; exact (below_size (by repeat (first | (with_reducible first | exact HB.out | apply below_alloc | apply pw_below_drewN | apply below_drew1 | refine below_set ?_ GE553.out) | exact HB.out))) : w.heap.size ≤ gb564)); have n7_ := aM ((by rw [hg]; exact Nat.ne_of_lt (blk_lt (g := gb553) (o := .cells #[.int .i64 a0_0, .slice A0_1 l0_1.length c0_1] 33 (0, 0)) (by (with_reducible repeat (first | refine blk_drewN ?_ _ | refine blk_drew ?_ | refine blk_alloc ?_ _)); exact BK553.out)) : gb553 ≠ gb564)); have n8_ := aM ((by rw [hg]; exact Nat.ne_of_gt (blk_lt (g := gb553) (o := .cells #[.int .i64 a0_0, .slice A0_1 l0_1.length c0_1] 33 (0, 0)) (by (with_reducible repeat (first | refine blk_drewN ?_ _ | refine blk_drew ?_ | refine blk_alloc ?_ _)); exact BK553.out)) : gb564 ≠ gb553)); clear HO_6; clear HO_33; clear BK553; clear HB; have HO_6 := n0_; have HO_33 := n1_; have BK553 := n2_; have HB := n3_; have BK564 := n4_; have GW564 := n5_; have GE564 := n6_; have NB553_564 := n7_; have NB564_553 := n8_; clear n0_ n1_ n2_ n3_ n4_ n5_ n6_ n7_ n8_; clear hb hbox hg; have hnb34 := NB564_553.out; have hnc34 := NB553_564.out; have hcz35_0 : w33.cell? ⟨gb564, 0, none⟩ = some (.int .i64 0) := (blk_cell BK564.out 0).trans rfl; have hcz35_1 : w33.cell? ⟨gb564, 1, none⟩ = some (.int .i64 0) := (blk_cell BK564.out 1).trans rfl; have hfz35_0 := blk_frozen BK564.out 0; have hfz35_1 := blk_frozen BK564.out 1) | ((with_reducible refine gate_store (t := 56) (p := 10) rfl ?_); refine store_event (t := 56) (p := 10) (v := ?vo_w36) (w1 := ((w33.setCell ⟨gb564, 0, none⟩ (.int .i64 ((rd_T56 t560 x35_3).f0))).setCell ⟨gb564, 1, none⟩ (.int .i64 ((rd_T56 t560 x35_3).f1)))) ?hg ?ho ?hn ?hr ?_; (case ho => rfl); (case hg => rfl); (case hn => rfl); (case hr => first | (go_simp; done) | (go_simp; rfl)); intro w36 hw; have n0_ : Aside0 (Kd.R (Kd.int .i64) 3 w36 w.heap.size (fun _ => True) v556 x6_3) := ⟨(by rw [hw]; exact (by (with_reducible repeat (first | apply Kd.R_alloc | apply Kd.R_drewN | apply Kd.R_drew)); exact Kd.R_mono (Kd.R_far (p := ⟨gb564, 1, none⟩) (Kd.R_far (p := ⟨gb564, 0, none⟩) (Kd.R_types HO_6.out BK564.out (by decide)) (fun _ hk => hk.2) (.int .i64 ((rd_T56 t560 x35_3).f0))) (fun _ hk => hk.2) (.int .i64 ((rd_T56 t560 x35_3).f1))) (fun _ hk => trivial)))⟩; have n1_ : Aside0 (Kd.R k56 56 w36 w.heap.size (fun k_ => k_ ≠ gb564) (.slice (some ad563) t560.length co26) t560) := ⟨(by rw [hw]; exact (by (with_reducible repeat (first | apply Kd.R_alloc | apply Kd.R_drewN | apply Kd.R_drew)); exact Kd.R_mono (Kd.R_far (p := ⟨gb564, 1, none⟩) (Kd.R_far (p := ⟨gb564, 0, none⟩) (Kd.R_mono HO_33.out (fun k_ hk => (⟨hk, hk.2⟩ : _ ∧ k_ ≠ gb564))) (fun _ hk => hk.2) (.int .i64 ((rd_T56 t560 x35_3).f0))) (fun _ hk => hk.2) (.int .i64 ((rd_T56 t560 x35_3).f1))) (fun _ hk => hk.1.2)))⟩; have n2_ : Aside0 (w36.heap[gb553]? = some (.cells #[.int .i64 a0_0, .slice A0_1 l0_1.length c0_1] 33 (0, 0))) := ⟨(by rw [hw]; exact (by (with_reducible repeat (first | refine blk_drewN ?_ _ | refine blk_drew ?_ | refine blk_alloc ?_ _)); refine blk_far ?_ NB553_564.out _; (with_reducible repeat (first | refine blk_drewN ?_ _ | refine blk_drew ?_ | refine blk_alloc ?_ _)); refine blk_far ?_ NB553_564.out _; (with_reducible repeat (first | refine blk_drewN ?_ _ | refine blk_drew ?_ | refine blk_alloc ?_ _)); exact BK553.out))⟩; have n3_ : Aside0 (w36.heap[gb564]? = some (.cells #[.int .i64 ((rd_T56 t560 x35_3).f0), .int .i64 ((rd_T56 t560 x35_3).f1)] 56 (0, 0))) := ⟨(by rw [hw]; exact (by (with_reducible repeat (first | refine blk_drewN ?_ _ | refine blk_drew ?_ | refine blk_alloc ?_ _)); refine blk_put (cs := #[.int .i64 ((rd_T56 t560 x35_3).f0), .int .i64 0]) ?_ 1 _ rfl; (with_reducible repeat (first | refine blk_drewN ?_ _ | refine blk_drew ?_ | refine blk_alloc ?_ _)); refine blk_put (cs := #[.int .i64 0, .int .i64 0]) ?_ 0 _ rfl; (with_reducible repeat (first | refine blk_drewN ?_ _ | refine blk_drew ?_ | refine blk_alloc ?_ _)); exact BK564.out))⟩; have n4_ : Aside0 (Below w.heap.size w w36) := ⟨(by rw [hw]; exact (by repeat (first | (with_reducible first | exact HB.out | apply below_alloc | apply pw_below_drewN | apply below_drew1 | refine below_set ?_ GE553.out | refine below_set ?_ GE564.out) | exact HB.out)))⟩; clear hw; clear HO_6; clear HO_33; clear BK553; clear BK564; clear HB; have HO_6 := n0_; have HO_33 := n1_; have BK553 := n2_; have BK564 := n3_; have HB := n4_; clear n0_ n1_ n2_ n3_ n4_; have hcz37_0 : w36.cell? ⟨gb564, 0, none⟩ = some (.int .i64 ((rd_T56 t560 x35_3).f0)) := (blk_cell BK564.out 0).trans rfl; have hcz37_1 : w36.cell? ⟨gb564, 1, none⟩ = some (.int .i64 ((rd_T56 t560 x35_3).f1)) := (blk_cell BK564.out 1).trans rfl; have hfz37_0 := blk_frozen BK564.out 0; have hfz37_1 := blk_frozen BK564.out 1; obtain ⟨Ao38, co38, eo38⟩ := Kd.R_slice HO_6.out; subst eo38; have p565 : 0 ≤ (((rd_T56 t560 x35_3).f0) : Int) := of_decide_eq_true (by first | (with_reducible assumption) | assumption); have q565 : ((rd_T56 t560 x35_3).f0) < (x6_3.length : Int) := of_decide_eq_true (by first | (with_reducible assumption) | assumption); obtain ⟨ad565, e565, hx565_0⟩ := Kd.at_int (Kd.R_reads' HO_6.out).2.2 ((rd_T56 t560 x35_3).f0) p565 q565; cases e565; replace p565 := eq_true p565; replace q565 := eq_true q565; have p32 : 0 ≤ (((rd_T56 t560 x35_3).f0) : Int) := of_decide_eq_true (by first | (with_reducible assumption) | assumption); have q32 : (((rd_T56 t560 x35_3).f0) : Int) < ((x6_3.length : Int) : Int) := of_decide_eq_true (by first | (with_reducible assumption) | assumption); obtain ⟨go32, co32, eo32, gb32, gl32, cl32, HG32⟩ := Kd.R_form HO_6.out (by omega); (first | cases eo32 | (injection eo32 with ea_ en_ ec_; (first | subst ea_ | (injection ea_ with ea_; subst ea_)); subst ec_; clear en_)); have GB32 := aM gb32; have GG32 := aM HG32; clear gb32 gl32 HG32; (first | simp only [add_plain] at hx565_0 | skip); obtain ⟨hx32_0, hf32_0⟩ := Kd.R_celln 0 HO_6.out (((rd_T56 t560 x35_3).f0) : Int) p32 q32; replace p32 := eq_true p32; replace q32 := eq_true q32; obtain ⟨hy39_, hz39_⟩ := Kd.R_celln 0 HO_6.out (((rd_T56 t560 x35_3).f0) : Int) (of_decide_eq_true (by first | (with_reducible assumption) | assumption)) (of_decide_eq_true (by first | (with_reducible assumption) | assumption)); have HP39 := Kd.R_putg HO_6.out (((rd_T56 t560 x35_3).f0) : Int) (wrap64 ((rd x6_3 ((rd_T56 t560 x35_3).f0)) + 1))) | ((with_reducible refine gate_store (t := 3) (p := 45) rfl ?_); refine store_event (t := 3) (p := 45) (v := ?vo_w40) (w1 := (w36.setCell ⟨go32, (((rd_T56 t560 x35_3).f0) : Int).toNat, none⟩ (.int .i64 (wrap64 ((rd x6_3 ((rd_T56 t560 x35_3).f0)) + 1))))) ?hg ?ho ?hn ?hr ?_; (case ho => rfl); (case hg => rfl); (case hn => rfl); (case hr => first | (go_simp; done) | (go_simp; rfl)); intro w40 hw; have hg : w36.grownBy w40 (some go32) := (by rw [hw]; exact HP39.2); have hp_ : Kd.R (Kd.int .i64) 3 w40 w.heap.size (fun _ => True) (.slice (some ⟨go32, 0, none⟩) x6_3.length co38) y566 := (by rw [hw, Ny566.out]; exact HP39.1); clear HP39; have n0_ := aM (hp_); have n1_ := aM (Kd.R_over' (v := (.slice (some ⟨go32, 0, none⟩) x6_3.length co38)) (by (with_reducible repeat (first | apply Kd.R_alloc | apply Kd.R_drewN | apply Kd.R_drew)); exact HO_33.out) (Kd.R_typed HO_6.out) (by decide) hg); have n2_ := aM (blk_grown (g := gb553) (o := .cells #[.int .i64 a0_0, .slice A0_1 l0_1.length c0_1] 33 (0, 0)) (by (with_reducible repeat (first | refine blk_drewN ?_ _ | refine blk_drew ?_ | refine blk_alloc ?_ _)); exact BK553.out) hg (Kd.R_ne HO_6.out BK553.out (by decide))); have n3_ := aM (blk_grown (g := gb564) (o := .cells #[.int .i64 ((rd_T56 t560 x35_3).f0), .int .i64 ((rd_T56 t560 x35_3).f1)] 56 (0, 0)) (by (with_reducible repeat (first | refine blk_drewN ?_ _ | refine blk_drew ?_ | refine blk_alloc ?_ _)); exact BK564.out) hg (Kd.R_ne HO_6.out BK564.out (by decide))); have n4_ := aM ((by rw [hw]; exact below_set (HB.out) GB32.out : Below w.heap.size w w40)); clear HO_6; clear HO_33; clear BK553; clear BK564; clear HB; have HO_6 := n0_; have HO_33 := n1_; have BK553 := n2_; have BK564 := n3_; have HB := n4_; clear n0_ n1_ n2_ n3_ n4_; clear hg hw hp_))
                   go_roundg k3
                   case measure => have := HJ2.out; have := HK2.out; have := HK3.out; omega
                   case rel => exact ⟨(y566), (wrap64 (x35_3 + 1)), (by first | rfl | (simp; done) | (simp [*]; done)), H', ⟨by have := HJ2.out; have := HK2.out; have := HK3.out; omega⟩, ⟨by (with_reducible repeat (first | apply Kd.R_alloc | apply Kd.R_drewN | apply Kd.R_drew)); exact HO_6.out⟩, ⟨by (with_reducible repeat (first | apply Kd.R_alloc | apply Kd.R_drewN | apply Kd.R_drew)); exact Kd.R_mono HO_33.out (fun _ hk => trivial)⟩, ⟨by (with_reducible repeat (first | refine blk_drewN ?_ _ | refine blk_drew ?_ | refine blk_alloc ?_ _)); exact BK553.out⟩, ⟨by repeat (first | (with_reducible first | exact HB.out | apply below_alloc | apply pw_below_drewN | apply below_drew1 | refine below_set ?_ GE553.out | refine below_set ?_ GE564.out) | exact HB.out)⟩⟩
                  ·rw [if_neg c31] at H
                   exact absurd H (by simp)
                 ·rw [if_neg c30] at H
                  exact absurd H (by simp)
                ·rw [if_neg c29] at H
                 exact absurd H (by simp)
               ·rw [if_neg c28] at H
                exact absurd H (by simp)
              ·rw [if_neg c27] at H
               have c27b0 : decide (x35_3 < (t560.length : Int)) = false := decide_eq_false c27
               clear c27
               have H' := aM H
               clear H
               go_wp2
               go_roundg k3
               case measure => have := HJ2.out; have := HK2.out; have := HK3.out; omega
               case rel => exact ⟨(x6_3), (wrap64 (x24_2 + 1)), (by first | rfl | (simp; done) | (simp [*]; done)), H', ⟨by have := HJ2.out; have := HK2.out; have := HK3.out; omega⟩, ⟨by (with_reducible repeat (first | apply Kd.R_alloc | apply Kd.R_drewN | apply Kd.R_drew)); exact HO_6.out⟩, ⟨by (with_reducible repeat (first | refine blk_drewN ?_ _ | refine blk_drew ?_ | refine blk_alloc ?_ _)); exact BK553.out⟩, ⟨by repeat (first | (with_reducible first | exact HB.out | apply below_alloc | apply pw_below_drewN | apply below_drew1 | refine below_set ?_ GE553.out) | exact HB.out)⟩⟩
           ·replace c21 := Bool.eq_false_iff.mpr c21
            subst c21
            have H1 : (some (([] : List Int), false)) = some (r1, r2) := by rw [if_neg (show ¬ (false = true) by decide)] at H; exact H
            clear H
            have H := H1
            clear H1
            simp only [Option.some.injEq, Prod.mk.injEq] at H
            obtain ⟨rfl, rfl⟩ := H
            have p558 : 0 ≤ (x24_2 : Int) := dT
            have q558 : x24_2 < (l1.length : Int) := dT
            obtain ⟨ad558, e558, hx558_0⟩ := Kd.at_string HR1.out x24_2 p558 q558
            cases e558
            replace hx558_0 := (HB.out.cell (World.block_lt_of_cell? w _ hx558_0)).trans hx558_0
            replace p558 := eq_true p558
            replace q558 := eq_true q558
            go_wp2_with (first | ((with_reducible refine gate_callee (f := 94) rfl ?_); refine gL 29 Try.func94 #[.string (rdOf ByteArray.empty l1 x24_2)] ?_; (with_reducible refine (spec_l10Word.calls k2 (rdOf ByteArray.empty l1 x24_2) false _ A20.out).mono ?_); rintro e w41 ⟨rfl, hb⟩; refine ⟨_, rfl, ?_⟩; have n0_ := aM (Kd.R_below (by (with_reducible repeat (first | apply Kd.R_alloc | apply Kd.R_drewN | apply Kd.R_drew)); exact HO_6.out) hb); have n1_ := aM (blk_below (g := gb553) (o := .cells #[.int .i64 a0_0, .slice A0_1 l0_1.length c0_1] 33 (0, 0)) (by (with_reducible repeat (first | refine blk_drewN ?_ _ | refine blk_drew ?_ | refine blk_alloc ?_ _)); exact BK553.out) hb); have n2_ := aM (below_step (by repeat (first | (with_reducible first | exact HB.out | apply below_alloc | apply pw_below_drewN | apply below_drew1 | refine below_set ?_ GE553.out) | exact HB.out)) hb); clear HO_6; clear BK553; clear HB; have HO_6 := n0_; have BK553 := n1_; have HB := n2_; clear n0_ n1_ n2_; (try clear hb); (try clear hb2); (try clear hk); (try clear hi)))
            go_ret2
            exact ⟨_, eR, by first | exact Kd.R_nil _ _ _ _ _ | exact Kd.N_nil _ _ _ _ _ | exact Kd.V_nil _ _ _ _ _ | exact Kd.Q_nil _ _ _ _ _ | exact Kd.S_nil _ _ _ _ _, by repeat (first | (with_reducible first | exact HB.out | apply below_alloc | apply pw_below_drewN | apply below_drew1 | refine below_set ?_ GE553.out) | exact HB.out)⟩
          ·rw [if_neg c19] at H
           exact absurd H (by simp)
         ·rw [if_neg c18] at H
          exact absurd H (by simp)
        ·rw [if_neg c17] at H
         have c17b0 : decide (x24_2 < (l1.length : Int)) = false := decide_eq_false c17
         clear c17
         simp only [Option.some.injEq, Prod.mk.injEq] at H
         obtain ⟨rfl, rfl⟩ := H
         go_wp2
         go_ret2
         exact ⟨_, eR, by (with_reducible repeat (first | apply Kd.R_alloc | apply Kd.R_drewN | apply Kd.R_drew)); exact HO_6.out, by repeat (first | (with_reducible first | exact HB.out | apply below_alloc | apply pw_below_drewN | apply below_drew1 | refine below_set ?_ GE553.out) | exact HB.out)⟩
     ·rw [if_neg c13] at H
      exact absurd H (by simp)
    ·rw [if_neg c12] at H
     exact absurd H (by simp)

def spec_Without.l0 : Nat → Bool → List Int → List Int → Int → Int → Option (List Int × Bool)
 | 0, _, _, _, _, _ => none
 | k + 1, x7, x8, x17, x18, x19 => if x19 < x18 then (if 0 ≤ x19 then (if x19 < (x17.length : Int) then (if (rd x17 x19) = 0 then (if x8.length < 17592186044416 then (spec_Without.l0 k x7 (x8 ++ [x19]) x17 x18 (wrap64 (x19 + 1))) else (none)) else (spec_Without.l0 k x7 x8 x17 x18 (wrap64 (x19 + 1)))) else (none)) else (none)) else (some (x8, x7))
def spec_Without.f (k : Nat) (a0_0 : Int) (l0_1 : List (S102)) (l1 : List ByteArray) : Option (List Int × Bool) := (spec_l10Marks.f k a0_0 l0_1 l1).bind fun bt577 => (spec_Without.l0 k bt577.2 ([] : List Int) bt577.1 (bt577.1.length : Int) 0)
set_option maxHeartbeats 8000000 in
set_option maxRecDepth 100000 in
theorem spec_Without.calls (k : Nat) (a0_0 : Int) (A0_1 : Option Addr) (c0_1 : Nat) (l0_1 : List (S102)) (A1 : Option Addr) (c1 : Nat) (l1 : List ByteArray) (r1 : List Int) (r2 : Bool) (w : World) (hr0_1 : Kd.C k102 w A0_1 l0_1.length l0_1) (hc0_1 : l0_1.length ≤ c0_1) (hr1 : Kd.C Kd.string w A1 l1.length l1) (hc1 : l1.length ≤ c1) (h : spec_Without.f k a0_0 l0_1 l1 = some (r1, r2)) :
  Calls Try.prog 30 #[.agg #[.int .i64 a0_0, .slice A0_1 l0_1.length c0_1], .slice A1 l1.length c1] w fun e w' => ∃ v0_ : Value, e = .returned (.tuple #[v0_, .bool r2]) ∧ Kd.R (Kd.int .i64) 3 w' w.heap.size (fun _ => True) v0_ r1 ∧ Below w.heap.size w w' := by
 have hu33 := Try.underlying33
 have HR0_1 := aM hr0_1
 have HC0_1 := aM hc0_1
 clear hr0_1 hc0_1
 have HR1 := aM hr1
 have HC1 := aM hc1
 clear hr1 hc1
 have HB := aM (Below.refl w.heap.size w)
 have H : ((spec_l10Marks.f k a0_0 l0_1 l1).bind fun bt577 => (spec_Without.l0 k bt577.2 ([] : List Int) bt577.1 (bt577.1.length : Int) 0)) = some (r1, r2) := h
 clear h
 replace H := Option.bind_eq_some_iff.mp H
 obtain ⟨⟨t577, t580⟩, A30, H⟩ := H
 replace H : (spec_Without.l0 k t580 ([] : List Int) t577 (t577.length : Int) 0) = some (r1, r2) := H
 have A3 := aM A30
 clear A30
 have H' := aM H
 clear H
 go_enter Try.func30, Try.ntmps30
 go_wp2_with (first | ((with_reducible refine gate_dst (N := 2) rfl ?_); refine box_event ?hg (N := 2) ?hd (cs := #[.int .i64 a0_0, .slice A0_1 l0_1.length c0_1]) (t := 33) ?hr ?_; (case hd => rfl); (case hg => rfl); (case hr => first | (go_simp; done) | (go_simp; rfl)); intro gb576 hg w4 hbox hb; have n0_ := aM (below_step (by repeat (first | (with_reducible first | exact HB.out | apply below_alloc | apply pw_below_drewN | apply below_drew1) | exact HB.out)) hb); have n1_ := aM (hbox); have n2_ := aM ((by rw [hg]; exact (below_size (by repeat (first | (with_reducible first | exact HB.out | apply below_alloc | apply pw_below_drewN | apply below_drew1) | exact HB.out))) : w.heap.size ≤ gb576)); have n3_ := aM ((by rw [hg]; exact (below_size (by repeat (first | (with_reducible first | exact HB.out | apply below_alloc | apply pw_below_drewN | apply below_drew1) | exact HB.out))) : w.heap.size ≤ gb576)); clear HB; have HB := n0_; have BK576 := n1_; have GW576 := n2_; have GE576 := n3_; clear n0_ n1_ n2_ n3_; clear hb hbox hg; have hcz5_0 : w4.cell? ⟨gb576, 0, none⟩ = some (.int .i64 a0_0) := (blk_cell BK576.out 0).trans rfl; have hcz5_1 : w4.cell? ⟨gb576, 1, none⟩ = some (.slice A0_1 l0_1.length c0_1) := (blk_cell BK576.out 1).trans rfl; have hfz5_0 := blk_frozen BK576.out 0; have hfz5_1 := blk_frozen BK576.out 1) | ((with_reducible refine gate_callee (f := 70) rfl ?_); refine gL 14 Try.func70 #[.agg #[.int .i64 a0_0, .slice A0_1 l0_1.length c0_1], .slice A1 l1.length c1] ?_; (with_reducible refine (spec_l10Marks.calls k a0_0 _ _ l0_1 _ _ l1 t577 t580 _ ?side1 ?side2 ?side3 ?side4 A3.out).mono ?_); (case side1 => repeat (first | exact (Kd.C_below HR0_1.out HB.out) | (with_reducible refine Kd.C_alloc ?_ _) | (with_reducible refine Kd.C_drewN ?_ _) | (with_reducible refine Kd.C_drew ?_))); (case side2 => exact HC0_1.out); (case side3 => repeat (first | exact (Kd.C_below HR1.out HB.out) | (with_reducible refine Kd.C_alloc ?_ _) | (with_reducible refine Kd.C_drewN ?_ _) | (with_reducible refine Kd.C_drew ?_))); (case side4 => exact HC1.out); rintro e w6 ⟨v578, rfl, ho0, hb⟩; refine ⟨_, rfl, ?_⟩; have n0_ := aM (Kd.R_lower ho0 (below_size (by repeat (first | (with_reducible first | exact HB.out | apply below_alloc | apply pw_below_drewN | apply below_drew1 | refine below_set ?_ GE576.out) | exact HB.out)))); have n1_ := aM (blk_below (g := gb576) (o := .cells #[.int .i64 a0_0, .slice A0_1 l0_1.length c0_1] 33 (0, 0)) (by (with_reducible repeat (first | refine blk_drewN ?_ _ | refine blk_drew ?_ | refine blk_alloc ?_ _)); exact BK576.out) hb); have n2_ := aM (below_step (by repeat (first | (with_reducible first | exact HB.out | apply below_alloc | apply pw_below_drewN | apply below_drew1 | refine below_set ?_ GE576.out) | exact HB.out)) hb); clear BK576; clear HB; have HO579 := n0_; have BK576 := n1_; have HB := n2_; clear n0_ n1_ n2_; (try clear hb); (try clear hb2); (try clear hk); (try clear hi); (try clear ho0); obtain ⟨Ao7, co7, eo7⟩ := Kd.R_slice HO579.out; subst eo7))
 go_loopg [8, 19] k (fun kq v8 v19 w' => ∃ (x8_1 : List Int) (x19_1 : Int), v19 = .int .i64 x19_1 ∧ Aside0 (spec_Without.l0 kq t580 x8_1 t577 (t577.length : Int) x19_1 = some (r1, r2)) ∧ Aside0 (kq ≤ k) ∧ Aside0 (Kd.R (Kd.int .i64) 3 w' w.heap.size (fun k_ => some k_ ≠ ((.slice Ao7 t577.length co7) : Value).ownBlock) v8 x8_1) ∧ Aside0 (Kd.R (Kd.int .i64) 3 w' w.heap.size (fun k_ => some k_ ≠ (v8 : Value).ownBlock) (.slice Ao7 t577.length co7) t577) ∧ Aside0 (w'.heap[gb576]? = some (.cells #[.int .i64 a0_0, (.slice A0_1 l0_1.length c0_1)] 33 (0, 0))) ∧ Aside0 (Below w.heap.size w w'))
 case atStart => exact ⟨(([] : List Int)), (0), (by first | rfl | (simp; done) | (simp [*]; done)), H', ⟨Nat.le_refl _⟩, ⟨by first | exact Kd.R_nil _ _ _ _ _ | exact Kd.N_nil _ _ _ _ _ | exact Kd.V_nil _ _ _ _ _ | exact Kd.Q_nil _ _ _ _ _ | exact Kd.S_nil _ _ _ _ _⟩, ⟨by (with_reducible repeat (first | apply Kd.R_alloc | apply Kd.R_drewN | apply Kd.R_drew)); exact Kd.R_mono HO579.out (fun _ hk => (by simp [Value.ownBlock]))⟩, ⟨by (with_reducible repeat (first | refine blk_drewN ?_ _ | refine blk_drew ?_ | refine blk_alloc ?_ _)); exact BK576.out⟩, ⟨by repeat (first | (with_reducible first | exact HB.out | apply below_alloc | apply pw_below_drewN | apply below_drew1 | refine below_set ?_ GE576.out) | exact HB.out)⟩⟩
 case round =>
  clear H'
  try clear c1
  try clear p2
  try clear c3
  try clear c7
  try clear hcz5_0
  try clear hcz5_1
  try clear hfz5_0
  try clear hfz5_1
  obtain ⟨x8_1, x19_1, rfl, HA, HK1, HO_8, HO_17, BK576, HB⟩ := hrel
  cases gk with
  | zero => exact absurd HA.out (by simp [spec_Without.l0])
  | succ k1 =>
   have H := HA.out
   clear HA
   simp only [spec_Without.l0] at H
   by_cases c8 : x19_1 < (t577.length : Int)
   ·rw [if_pos c8] at H
    have c8b0 : decide (x19_1 < (t577.length : Int)) = true := decide_eq_true c8
    clear c8
    by_cases c9 : 0 ≤ x19_1
    ·rw [if_pos c9] at H
     have c9b0 : decide (0 ≤ x19_1) = true := decide_eq_true c9
     clear c9
     by_cases c10 : x19_1 < (t577.length : Int)
     ·rw [if_pos c10] at H
      have c10b0 : decide (x19_1 < (t577.length : Int)) = true := decide_eq_true c10
      clear c10
      by_cases c11 : (rd t577 x19_1) = 0
      ·rw [if_pos c11] at H
       have c11b0 : ((rd t577 x19_1) == 0) = true := beq_iff_eq.mpr c11
       have c11b1 : ((rd t577 x19_1) != 0) = false := bne_eq_false_iff_eq.mpr c11
       clear c11
       by_cases c12 : x8_1.length < 17592186044416
       ·rw [if_pos c12] at H
        have LMc12 := aM c12
        clear c12
        obtain ⟨y582, hy582⟩ : ∃ y_ : List Int, y_ = (x8_1 ++ [x19_1]) := ⟨_, rfl⟩
        replace H : (spec_Without.l0 k1 t580 y582 t577 (t577.length : Int) (wrap64 (x19_1 + 1))) = some (r1, r2) := by first | (rw [hy582]; with_reducible exact H) | (have H2_ := (Option.bind_some _ _).symm.trans H; rw [hy582]; with_reducible exact H2_) | (have H2_ := (Option.bind_some _ _).symm.trans H; with_reducible exact H2_) | with_reducible exact H | (rw [hy582]; exact H) | exact H
        have Ny582 := aM hy582
        clear hy582
        have H' := aM H
        clear H
        have p581 : 0 ≤ (x19_1 : Int) := dT
        have q581 : x19_1 < (t577.length : Int) := dT
        obtain ⟨ad581, e581, hx581_0⟩ := Kd.at_int (Kd.R_reads' HO_17.out).2.2 x19_1 p581 q581
        cases e581
        replace p581 := eq_true p581
        replace q581 := eq_true q581
        go_wp2_with (first | ((with_reducible refine gate_builtin (b := .append) (xs := #[.tmp 26, .tmp 28]) rfl ?_); at_builtin; refine Kd.R_append (Kd.int .i64) (w0 := w) w.heap.size rfl (.tmp 26) (.tmp 28) 28 3 (.int .i64 0) 8 rfl Try.underlying28 info3 rfl (by decide) (by omega) u8 x8_1 x19_1 [.int .i64 x19_1] (fun k_ => some k_ ≠ (.slice (some ad581) t577.length co7 : Value).ownBlock) (fun _ => False) rfl rfl ?aP (fun _ hk => hk.elim) ?aF ?aO ?aB ?aS ?aL ?_; (case aP => exact rfl); (case aB => exact (by repeat (first | (with_reducible first | exact HB.out | apply below_alloc | apply pw_below_drewN | apply below_drew1 | refine below_set ?_ GE576.out) | exact HB.out))); (case aF => exact (fun k_ hk => Kd.fresh' (Kd.R_lt (by (with_reducible repeat (first | apply Kd.R_alloc | apply Kd.R_drewN | apply Kd.R_drew)); exact HO_17.out)) k_ hk)); (case aO => exact (by (with_reducible repeat (first | apply Kd.R_alloc | apply Kd.R_drewN | apply Kd.R_drew)); exact HO_8.out)); (case aS => exact (below_size (by repeat (first | (with_reducible first | exact HB.out | apply below_alloc | apply pw_below_drewN | apply below_drew1 | refine below_set ?_ GE576.out) | exact HB.out)))); (case aL => have := LMc12.out; omega); intro v583 w13 ho hb hg hat; rw [← Ny582.out] at ho; have n0_ := aM (Kd.R_after (ok := (fun _ => True)) (by (with_reducible repeat (first | apply Kd.R_alloc | apply Kd.R_drewN | apply Kd.R_drew)); exact Kd.R_mono HO_17.out (fun _ hk => ⟨trivial, hk⟩)) hg hat); have n1_ := aM (blk_grown (g := gb576) (o := .cells #[.int .i64 a0_0, .slice A0_1 l0_1.length c0_1] 33 (0, 0)) (by (with_reducible repeat (first | refine blk_drewN ?_ _ | refine blk_drew ?_ | refine blk_alloc ?_ _)); exact BK576.out) hg (Kd.R_ne HO_8.out BK576.out (by decide))); have n2_ := aM (hb); have n3_ := aM (ho); clear HO_17; clear BK576; clear HB; clear HO_8; have HO_17 := n0_; have BK576 := n1_; have HB := n2_; have HO584 := n3_; clear n0_ n1_ n2_ n3_; clear ho hb hg hat))
        go_roundg k1
        case measure => have := HK1.out; omega
        case rel => exact ⟨(y582), (wrap64 (x19_1 + 1)), (by first | rfl | (simp; done) | (simp [*]; done)), H', ⟨by have := HK1.out; omega⟩, ⟨by (with_reducible repeat (first | apply Kd.R_alloc | apply Kd.R_drewN | apply Kd.R_drew)); exact HO584.out⟩, ⟨by (with_reducible repeat (first | apply Kd.R_alloc | apply Kd.R_drewN | apply Kd.R_drew)); exact Kd.R_mono HO_17.out (fun _ hk => hk.2)⟩, ⟨by (with_reducible repeat (first | refine blk_drewN ?_ _ | refine blk_drew ?_ | refine blk_alloc ?_ _)); exact BK576.out⟩, ⟨by repeat (first | (with_reducible first | exact HB.out | apply below_alloc | apply pw_below_drewN | apply below_drew1 | refine below_set ?_ GE576.out) | exact HB.out)⟩⟩
       ·rw [if_neg c12] at H
        exact absurd H (by simp)
      ·rw [if_neg c11] at H
       have c11b0 : ((rd t577 x19_1) == 0) = false := beq_eq_false_iff_ne.mpr c11
       have c11b1 : ((rd t577 x19_1) != 0) = true := bne_iff_ne.mpr c11
       have H' := aM H
       clear H
       have p581 : 0 ≤ (x19_1 : Int) := dT
       have q581 : x19_1 < (t577.length : Int) := dT
       obtain ⟨ad581, e581, hx581_0⟩ := Kd.at_int (Kd.R_reads' HO_17.out).2.2 x19_1 p581 q581
       cases e581
       replace p581 := eq_true p581
       replace q581 := eq_true q581
       go_wp2
       go_roundg k1
       case measure => have := HK1.out; omega
       case rel => exact ⟨(x8_1), (wrap64 (x19_1 + 1)), (by first | rfl | (simp; done) | (simp [*]; done)), H', ⟨by have := HK1.out; omega⟩, ⟨by (with_reducible repeat (first | apply Kd.R_alloc | apply Kd.R_drewN | apply Kd.R_drew)); exact HO_8.out⟩, ⟨by (with_reducible repeat (first | apply Kd.R_alloc | apply Kd.R_drewN | apply Kd.R_drew)); exact HO_17.out⟩, ⟨by (with_reducible repeat (first | refine blk_drewN ?_ _ | refine blk_drew ?_ | refine blk_alloc ?_ _)); exact BK576.out⟩, ⟨by repeat (first | (with_reducible first | exact HB.out | apply below_alloc | apply pw_below_drewN | apply below_drew1 | refine below_set ?_ GE576.out) | exact HB.out)⟩⟩
     ·rw [if_neg c10] at H
      exact absurd H (by simp)
    ·rw [if_neg c9] at H
     exact absurd H (by simp)
   ·rw [if_neg c8] at H
    have c8b0 : decide (x19_1 < (t577.length : Int)) = false := decide_eq_false c8
    clear c8
    simp only [Option.some.injEq, Prod.mk.injEq] at H
    obtain ⟨rfl, rfl⟩ := H
    go_wp2
    go_ret2
    exact ⟨_, eR, by (with_reducible repeat (first | apply Kd.R_alloc | apply Kd.R_drewN | apply Kd.R_drew)); exact Kd.R_mono HO_8.out (fun _ hk => trivial), by repeat (first | (with_reducible first | exact HB.out | apply below_alloc | apply pw_below_drewN | apply below_drew1 | refine below_set ?_ GE576.out) | exact HB.out)⟩


def spec_WithAll.l0 : Nat → List ByteArray → Bool → List Int → List Int → Int → Int → Option (List Int × Bool)
 | 0, _, _, _, _, _, _ => none
 | k + 1, x1, x7, x8, x17, x18, x19 => if x19 < x18 then (if 0 ≤ x19 then (if x19 < (x17.length : Int) then (if (rd x17 x19) = (x1.length : Int) then (if x8.length < 17592186044416 then (spec_WithAll.l0 k x1 x7 (x8 ++ [x19]) x17 x18 (wrap64 (x19 + 1))) else (none)) else (spec_WithAll.l0 k x1 x7 x8 x17 x18 (wrap64 (x19 + 1)))) else (none)) else (none)) else (some (x8, x7))
def spec_WithAll.f (k : Nat) (a0_0 : Int) (l0_1 : List (S102)) (l1 : List ByteArray) : Option (List Int × Bool) := (spec_l10Marks.f k a0_0 l0_1 l1).bind fun bt568 => (spec_WithAll.l0 k l1 bt568.2 ([] : List Int) bt568.1 (bt568.1.length : Int) 0)
set_option maxHeartbeats 8000000 in
set_option maxRecDepth 100000 in
theorem spec_WithAll.calls (k : Nat) (a0_0 : Int) (A0_1 : Option Addr) (c0_1 : Nat) (l0_1 : List (S102)) (A1 : Option Addr) (c1 : Nat) (l1 : List ByteArray) (r1 : List Int) (r2 : Bool) (w : World) (hr0_1 : Kd.C k102 w A0_1 l0_1.length l0_1) (hc0_1 : l0_1.length ≤ c0_1) (hr1 : Kd.C Kd.string w A1 l1.length l1) (hc1 : l1.length ≤ c1) (h : spec_WithAll.f k a0_0 l0_1 l1 = some (r1, r2)) :
  Calls Try.prog 17 #[.agg #[.int .i64 a0_0, .slice A0_1 l0_1.length c0_1], .slice A1 l1.length c1] w fun e w' => ∃ v0_ : Value, e = .returned (.tuple #[v0_, .bool r2]) ∧ Kd.R (Kd.int .i64) 3 w' w.heap.size (fun _ => True) v0_ r1 ∧ Below w.heap.size w w' := by
 have hu33 := Try.underlying33
 have HR0_1 := aM hr0_1
 have HC0_1 := aM hc0_1
 clear hr0_1 hc0_1
 have HR1 := aM hr1
 have HC1 := aM hc1
 clear hr1 hc1
 have HB := aM (Below.refl w.heap.size w)
 have H : ((spec_l10Marks.f k a0_0 l0_1 l1).bind fun bt568 => (spec_WithAll.l0 k l1 bt568.2 ([] : List Int) bt568.1 (bt568.1.length : Int) 0)) = some (r1, r2) := h
 clear h
 replace H := Option.bind_eq_some_iff.mp H
 obtain ⟨⟨t568, t571⟩, A30, H⟩ := H
 replace H : (spec_WithAll.l0 k l1 t571 ([] : List Int) t568 (t568.length : Int) 0) = some (r1, r2) := H
 have A3 := aM A30
 clear A30
 have H' := aM H
 clear H
 go_enter Try.func17, Try.ntmps17
 go_wp2_with (first | ((with_reducible refine gate_dst (N := 2) rfl ?_); refine box_event ?hg (N := 2) ?hd (cs := #[.int .i64 a0_0, .slice A0_1 l0_1.length c0_1]) (t := 33) ?hr ?_; (case hd => rfl); (case hg => rfl); (case hr => first | (go_simp; done) | (go_simp; rfl)); intro gb567 hg w4 hbox hb; have n0_ := aM (below_step (by repeat (first | (with_reducible first | exact HB.out | apply below_alloc | apply pw_below_drewN | apply below_drew1) | exact HB.out)) hb); have n1_ := aM (hbox); have n2_ := aM ((by rw [hg]; exact (below_size (by repeat (first | (with_reducible first | exact HB.out | apply below_alloc | apply pw_below_drewN | apply below_drew1) | exact HB.out))) : w.heap.size ≤ gb567)); have n3_ := aM ((by rw [hg]; exact (below_size (by repeat (first | (with_reducible first | exact HB.out | apply below_alloc | apply pw_below_drewN | apply below_drew1) | exact HB.out))) : w.heap.size ≤ gb567)); clear HB; have HB := n0_; have BK567 := n1_; have GW567 := n2_; have GE567 := n3_; clear n0_ n1_ n2_ n3_; clear hb hbox hg; have hcz5_0 : w4.cell? ⟨gb567, 0, none⟩ = some (.int .i64 a0_0) := (blk_cell BK567.out 0).trans rfl; have hcz5_1 : w4.cell? ⟨gb567, 1, none⟩ = some (.slice A0_1 l0_1.length c0_1) := (blk_cell BK567.out 1).trans rfl; have hfz5_0 := blk_frozen BK567.out 0; have hfz5_1 := blk_frozen BK567.out 1) | ((with_reducible refine gate_callee (f := 70) rfl ?_); refine gL 14 Try.func70 #[.agg #[.int .i64 a0_0, .slice A0_1 l0_1.length c0_1], .slice A1 l1.length c1] ?_; (with_reducible refine (spec_l10Marks.calls k a0_0 _ _ l0_1 _ _ l1 t568 t571 _ ?side1 ?side2 ?side3 ?side4 A3.out).mono ?_); (case side1 => repeat (first | exact (Kd.C_below HR0_1.out HB.out) | (with_reducible refine Kd.C_alloc ?_ _) | (with_reducible refine Kd.C_drewN ?_ _) | (with_reducible refine Kd.C_drew ?_))); (case side2 => exact HC0_1.out); (case side3 => repeat (first | exact (Kd.C_below HR1.out HB.out) | (with_reducible refine Kd.C_alloc ?_ _) | (with_reducible refine Kd.C_drewN ?_ _) | (with_reducible refine Kd.C_drew ?_))); (case side4 => exact HC1.out); rintro e w6 ⟨v569, rfl, ho0, hb⟩; refine ⟨_, rfl, ?_⟩; have n0_ := aM (Kd.R_lower ho0 (below_size (by repeat (first | (with_reducible first | exact HB.out | apply below_alloc | apply pw_below_drewN | apply below_drew1 | refine below_set ?_ GE567.out) | exact HB.out)))); have n1_ := aM (blk_below (g := gb567) (o := .cells #[.int .i64 a0_0, .slice A0_1 l0_1.length c0_1] 33 (0, 0)) (by (with_reducible repeat (first | refine blk_drewN ?_ _ | refine blk_drew ?_ | refine blk_alloc ?_ _)); exact BK567.out) hb); have n2_ := aM (below_step (by repeat (first | (with_reducible first | exact HB.out | apply below_alloc | apply pw_below_drewN | apply below_drew1 | refine below_set ?_ GE567.out) | exact HB.out)) hb); clear BK567; clear HB; have HO570 := n0_; have BK567 := n1_; have HB := n2_; clear n0_ n1_ n2_; (try clear hb); (try clear hb2); (try clear hk); (try clear hi); (try clear ho0); obtain ⟨Ao7, co7, eo7⟩ := Kd.R_slice HO570.out; subst eo7))
 go_loopg [8, 19] k (fun kq v8 v19 w' => ∃ (x8_1 : List Int) (x19_1 : Int), v19 = .int .i64 x19_1 ∧ Aside0 (spec_WithAll.l0 kq l1 t571 x8_1 t568 (t568.length : Int) x19_1 = some (r1, r2)) ∧ Aside0 (kq ≤ k) ∧ Aside0 (Kd.R (Kd.int .i64) 3 w' w.heap.size (fun k_ => some k_ ≠ ((.slice Ao7 t568.length co7) : Value).ownBlock) v8 x8_1) ∧ Aside0 (Kd.R (Kd.int .i64) 3 w' w.heap.size (fun k_ => some k_ ≠ (v8 : Value).ownBlock) (.slice Ao7 t568.length co7) t568) ∧ Aside0 (w'.heap[gb567]? = some (.cells #[.int .i64 a0_0, (.slice A0_1 l0_1.length c0_1)] 33 (0, 0))) ∧ Aside0 (Below w.heap.size w w'))
 case atStart => exact ⟨(([] : List Int)), (0), (by first | rfl | (simp; done) | (simp [*]; done)), H', ⟨Nat.le_refl _⟩, ⟨by first | exact Kd.R_nil _ _ _ _ _ | exact Kd.N_nil _ _ _ _ _ | exact Kd.V_nil _ _ _ _ _ | exact Kd.Q_nil _ _ _ _ _ | exact Kd.S_nil _ _ _ _ _⟩, ⟨by (with_reducible repeat (first | apply Kd.R_alloc | apply Kd.R_drewN | apply Kd.R_drew)); exact Kd.R_mono HO570.out (fun _ hk => (by simp [Value.ownBlock]))⟩, ⟨by (with_reducible repeat (first | refine blk_drewN ?_ _ | refine blk_drew ?_ | refine blk_alloc ?_ _)); exact BK567.out⟩, ⟨by repeat (first | (with_reducible first | exact HB.out | apply below_alloc | apply pw_below_drewN | apply below_drew1 | refine below_set ?_ GE567.out) | exact HB.out)⟩⟩
 case round =>
  clear H'
  try clear c1
  try clear p2
  try clear c7
  try clear hcz5_0
  try clear hcz5_1
  try clear hfz5_0
  try clear hfz5_1
  obtain ⟨x8_1, x19_1, rfl, HA, HK1, HO_8, HO_17, BK567, HB⟩ := hrel
  cases gk with
  | zero => exact absurd HA.out (by simp [spec_WithAll.l0])
  | succ k1 =>
   have H := HA.out
   clear HA
   simp only [spec_WithAll.l0] at H
   by_cases c8 : x19_1 < (t568.length : Int)
   ·rw [if_pos c8] at H
    have c8b0 : decide (x19_1 < (t568.length : Int)) = true := decide_eq_true c8
    clear c8
    by_cases c9 : 0 ≤ x19_1
    ·rw [if_pos c9] at H
     have c9b0 : decide (0 ≤ x19_1) = true := decide_eq_true c9
     clear c9
     by_cases c10 : x19_1 < (t568.length : Int)
     ·rw [if_pos c10] at H
      have c10b0 : decide (x19_1 < (t568.length : Int)) = true := decide_eq_true c10
      clear c10
      by_cases c11 : (rd t568 x19_1) = (l1.length : Int)
      ·rw [if_pos c11] at H
       have c11b0 : ((rd t568 x19_1) == (l1.length : Int)) = true := beq_iff_eq.mpr c11
       have c11b1 : ((rd t568 x19_1) != (l1.length : Int)) = false := bne_eq_false_iff_eq.mpr c11
       clear c11
       by_cases c12 : x8_1.length < 17592186044416
       ·rw [if_pos c12] at H
        have LMc12 := aM c12
        clear c12
        obtain ⟨y573, hy573⟩ : ∃ y_ : List Int, y_ = (x8_1 ++ [x19_1]) := ⟨_, rfl⟩
        replace H : (spec_WithAll.l0 k1 l1 t571 y573 t568 (t568.length : Int) (wrap64 (x19_1 + 1))) = some (r1, r2) := by first | (rw [hy573]; with_reducible exact H) | (have H2_ := (Option.bind_some _ _).symm.trans H; rw [hy573]; with_reducible exact H2_) | (have H2_ := (Option.bind_some _ _).symm.trans H; with_reducible exact H2_) | with_reducible exact H | (rw [hy573]; exact H) | exact H
        have Ny573 := aM hy573
        clear hy573
        have H' := aM H
        clear H
        have p572 : 0 ≤ (x19_1 : Int) := dT
        have q572 : x19_1 < (t568.length : Int) := dT
        obtain ⟨ad572, e572, hx572_0⟩ := Kd.at_int (Kd.R_reads' HO_17.out).2.2 x19_1 p572 q572
        cases e572
        replace p572 := eq_true p572
        replace q572 := eq_true q572
        go_wp2_with (first | ((with_reducible refine gate_builtin (b := .append) (xs := #[.tmp 28, .tmp 30]) rfl ?_); at_builtin; refine Kd.R_append (Kd.int .i64) (w0 := w) w.heap.size rfl (.tmp 28) (.tmp 30) 28 3 (.int .i64 0) 8 rfl Try.underlying28 info3 rfl (by decide) (by omega) u8 x8_1 x19_1 [.int .i64 x19_1] (fun k_ => some k_ ≠ (.slice (some ad572) t568.length co7 : Value).ownBlock) (fun _ => False) rfl rfl ?aP (fun _ hk => hk.elim) ?aF ?aO ?aB ?aS ?aL ?_; (case aP => exact rfl); (case aB => exact (by repeat (first | (with_reducible first | exact HB.out | apply below_alloc | apply pw_below_drewN | apply below_drew1 | refine below_set ?_ GE567.out) | exact HB.out))); (case aF => exact (fun k_ hk => Kd.fresh' (Kd.R_lt (by (with_reducible repeat (first | apply Kd.R_alloc | apply Kd.R_drewN | apply Kd.R_drew)); exact HO_17.out)) k_ hk)); (case aO => exact (by (with_reducible repeat (first | apply Kd.R_alloc | apply Kd.R_drewN | apply Kd.R_drew)); exact HO_8.out)); (case aS => exact (below_size (by repeat (first | (with_reducible first | exact HB.out | apply below_alloc | apply pw_below_drewN | apply below_drew1 | refine below_set ?_ GE567.out) | exact HB.out)))); (case aL => have := LMc12.out; omega); intro v574 w13 ho hb hg hat; rw [← Ny573.out] at ho; have n0_ := aM (Kd.R_after (ok := (fun _ => True)) (by (with_reducible repeat (first | apply Kd.R_alloc | apply Kd.R_drewN | apply Kd.R_drew)); exact Kd.R_mono HO_17.out (fun _ hk => ⟨trivial, hk⟩)) hg hat); have n1_ := aM (blk_grown (g := gb567) (o := .cells #[.int .i64 a0_0, .slice A0_1 l0_1.length c0_1] 33 (0, 0)) (by (with_reducible repeat (first | refine blk_drewN ?_ _ | refine blk_drew ?_ | refine blk_alloc ?_ _)); exact BK567.out) hg (Kd.R_ne HO_8.out BK567.out (by decide))); have n2_ := aM (hb); have n3_ := aM (ho); clear HO_17; clear BK567; clear HB; clear HO_8; have HO_17 := n0_; have BK567 := n1_; have HB := n2_; have HO575 := n3_; clear n0_ n1_ n2_ n3_; clear ho hb hg hat))
        go_roundg k1
        case measure => have := HK1.out; omega
        case rel => exact ⟨(y573), (wrap64 (x19_1 + 1)), (by first | rfl | (simp; done) | (simp [*]; done)), H', ⟨by have := HK1.out; omega⟩, ⟨by (with_reducible repeat (first | apply Kd.R_alloc | apply Kd.R_drewN | apply Kd.R_drew)); exact HO575.out⟩, ⟨by (with_reducible repeat (first | apply Kd.R_alloc | apply Kd.R_drewN | apply Kd.R_drew)); exact Kd.R_mono HO_17.out (fun _ hk => hk.2)⟩, ⟨by (with_reducible repeat (first | refine blk_drewN ?_ _ | refine blk_drew ?_ | refine blk_alloc ?_ _)); exact BK567.out⟩, ⟨by repeat (first | (with_reducible first | exact HB.out | apply below_alloc | apply pw_below_drewN | apply below_drew1 | refine below_set ?_ GE567.out) | exact HB.out)⟩⟩
       ·rw [if_neg c12] at H
        exact absurd H (by simp)
      ·rw [if_neg c11] at H
       have c11b0 : ((rd t568 x19_1) == (l1.length : Int)) = false := beq_eq_false_iff_ne.mpr c11
       have c11b1 : ((rd t568 x19_1) != (l1.length : Int)) = true := bne_iff_ne.mpr c11
       have H' := aM H
       clear H
       have p572 : 0 ≤ (x19_1 : Int) := dT
       have q572 : x19_1 < (t568.length : Int) := dT
       obtain ⟨ad572, e572, hx572_0⟩ := Kd.at_int (Kd.R_reads' HO_17.out).2.2 x19_1 p572 q572
       cases e572
       replace p572 := eq_true p572
       replace q572 := eq_true q572
       go_wp2
       go_roundg k1
       case measure => have := HK1.out; omega
       case rel => exact ⟨(x8_1), (wrap64 (x19_1 + 1)), (by first | rfl | (simp; done) | (simp [*]; done)), H', ⟨by have := HK1.out; omega⟩, ⟨by (with_reducible repeat (first | apply Kd.R_alloc | apply Kd.R_drewN | apply Kd.R_drew)); exact HO_8.out⟩, ⟨by (with_reducible repeat (first | apply Kd.R_alloc | apply Kd.R_drewN | apply Kd.R_drew)); exact HO_17.out⟩, ⟨by (with_reducible repeat (first | refine blk_drewN ?_ _ | refine blk_drew ?_ | refine blk_alloc ?_ _)); exact BK567.out⟩, ⟨by repeat (first | (with_reducible first | exact HB.out | apply below_alloc | apply pw_below_drewN | apply below_drew1 | refine below_set ?_ GE567.out) | exact HB.out)⟩⟩
     ·rw [if_neg c10] at H
      exact absurd H (by simp)
    ·rw [if_neg c9] at H
     exact absurd H (by simp)
   ·rw [if_neg c8] at H
    have c8b0 : decide (x19_1 < (t568.length : Int)) = false := decide_eq_false c8
    clear c8
    simp only [Option.some.injEq, Prod.mk.injEq] at H
    obtain ⟨rfl, rfl⟩ := H
    go_wp2
    go_ret2
    exact ⟨_, eR, by (with_reducible repeat (first | apply Kd.R_alloc | apply Kd.R_drewN | apply Kd.R_drew)); exact Kd.R_mono HO_8.out (fun _ hk => trivial), by repeat (first | (with_reducible first | exact HB.out | apply below_alloc | apply pw_below_drewN | apply below_drew1 | refine below_set ?_ GE567.out) | exact HB.out)⟩

end Go.Proofs.Ytaomjndfjmfelaa.PQ
end
