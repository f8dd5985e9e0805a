/- Several texts in one: what the claim's last text rests on. No conditions. -/
import Derived.Test.YtaomjndfjmfelaaMIx5
import Derived.Test.YtaomjndfjmfelaaMIx7
import Derived.Test.YtaomjndfjmfelaaMIx3
section
namespace Go.Proofs.Ytaomjndfjmfelaa.PQ
open Go.RowKit Go.Proofs.YtaomjndfjmfelaaW.PrintWords Go.Proofs.YtaomjndfjmfelaaW.PrintLast Go.Proofs.YtaomjndfjmfelaaW.PrintMore
attribute [local go_sem] max2_int min2_int max_two min_two max_three min_three max_four min_four
set_option linter.unusedVariables false
set_option linter.unusedSimpArgs false
attribute [local go_sem] Go.Proofs.Ytaomjndfjmfelaa.StrO.leq_s Go.Proofs.Ytaomjndfjmfelaa.StrO.gtr_s Go.Proofs.Ytaomjndfjmfelaa.StrO.geq_s
mutual
def impl_GoodWords.j0 : Nat → Bool → Int → List (S102) → Option (Bool)
 | 0, _, _, _ => none
 | k + 1, x14, x203000, x203001 => if x14 = true then (some false) else (impl_GoodWords.l0 k x203001 (x203001.length : Int) 0 x203000 x203001)
def impl_GoodWords.l0 : Nat → List (S102) → Int → Int → Int → List (S102) → Option (Bool)
 | 0, _, _, _, _, _ => none
 | k + 1, x16, x17, x18, x203000, x203001 => if x18 < x17 then (if 0 ≤ x18 then (if x18 < (x16.length : Int) then ((impl_isWord.f k ((rd_T102 x16 x18).f0)).bind fun t206 => (if t206 = true then (if x18 > 0 then (if 0 ≤ (wrap64 (x18 - 1)) then (if (wrap64 (x18 - 1)) < (x203001.length : Int) then (if ((Op.bytesLess (((rd_T102 x203001 (wrap64 (x18 - 1))).f0).toList) (((rd_T102 x16 x18).f0).toList)) = true) then (if (((rd_T102 x16 x18).f1).length : Int) = 0 then (some false) else ((impl_postingsOK.f k ((rd_T102 x16 x18).f1) (wrap64 (x203000 - 1))).bind fun t208 => (if t208 = true then (impl_GoodWords.l0 k x16 x17 (wrap64 (x18 + 1)) x203000 x203001) else (some false)))) else (some false)) else (none)) else (none)) else (if (((rd_T102 x16 x18).f1).length : Int) = 0 then (some false) else ((impl_postingsOK.f k ((rd_T102 x16 x18).f1) (wrap64 (x203000 - 1))).bind fun t209 => (if t209 = true then (impl_GoodWords.l0 k x16 x17 (wrap64 (x18 + 1)) x203000 x203001) else (some false))))) else (some false))) else (none)) else (none)) else (some true)
end
def impl_GoodWords.f (k : Nat) (a0_0 : Int) (l0_1 : List (S102)) : Option (Bool) := (impl_within.f a0_0 0 40).bind fun t203 => (if t203 = true then (impl_GoodWords.j0 k (decide ((l0_1.length : Int) > 200)) a0_0 l0_1) else (impl_GoodWords.j0 k true a0_0 l0_1))
def impl_GoodWords.T6 : Bool × List (List Nat × List Nat) := (true, [([], []), ([0], [0]), ([1], [1]), ([2], [2]), ([3, 2], [3]), ([4], [4]), ([5, 4], [4, 5]), ([6, 4, 4], [4, 6]), ([7], [7]), ([8, 7], [7, 8]), ([7], [7]), ([10, 7], [7, 10]), ([9, 11, 7], [7, 9, 11]), ([12, 7], [7, 12]), ([13, 7], [7, 13]), ([7], [7]), ([15, 7], [7, 15]), ([14, 16, 7], [7, 14, 16]), ([7, 17, 4], [4, 7, 17]), ([4, 18], [4, 18]), ([19, 7], [19]), ([20], [20]), ([21, 20], [20, 21]), ([22, 20], [20, 22]), ([23, 20], [20, 23]), ([20, 24], [20, 24]), ([25, 20], [25]), ([26], [26]), ([27, 26], [26, 27]), ([26], [26]), ([29, 26], [26, 29]), ([30, 26], [26, 30]), ([28, 31, 26, 26], [26, 28, 31]), ([32, 26], [26, 32]), ([26, 33], [26, 33])])
def impl_GoodWords.B6 : List Nat := [0, 1, 3, 7, 15, 31, 63, 127, 255, 511, 255, 1279, 4095, 8191, 16383, 255, 33023, 131071, 262143, 524287, 1048575, 2097151, 4194303, 8388607, 16777215, 33554431, 67108863, 134217727, 268435455, 134217727, 671088639, 1744830463, 4294967295, 8589934591, 17179869183]
theorem impl_GoodWords.tab6 : rtab .any (opsOf Try.f38 6) = impl_GoodWords.T6 := by kernel_rfl
theorem impl_GoodWords.bits6 : waitsOk impl_GoodWords.T6.2 impl_GoodWords.B6 = true := by kernel_rfl
set_option maxHeartbeats 8000000 in
set_option maxRecDepth 100000 in
theorem impl_GoodWords.calls (k : Nat) (a0_0 : Int) (A0_1 : Option Addr) (c0_1 : Nat) (l0_1 : List (S102)) (r : Bool) (w : World) (hr0_1 : Kd.C k102 w A0_1 l0_1.length l0_1) (hc0_1 : l0_1.length ≤ c0_1) (h : impl_GoodWords.f k a0_0 l0_1 = some r) :
  Calls Try.prog 38 #[.agg #[.int .i64 a0_0, .slice A0_1 l0_1.length c0_1]] w fun e w' => e = .returned (.bool r) ∧ Below w.heap.size w w' := by
 have hu33 := Try.underlying33
 have hu102 := Try.underlying102
 have HR0_1 := aM hr0_1
 have HC0_1 := aM hc0_1
 clear hr0_1 hc0_1
 have HB := aM (Below.refl w.heap.size w)
 have H : ((impl_within.f a0_0 0 40).bind fun t203 => (if t203 = true then (impl_GoodWords.j0 k (decide ((l0_1.length : Int) > 200)) a0_0 l0_1) else (impl_GoodWords.j0 k true a0_0 l0_1))) = some r := h
 clear h
 have HC2 := aM H
 clear H
 go_enter Try.func38, Try.ntmps38
 go_upto_region 1 with (first | ((with_reducible refine gate_dst (N := 1) rfl ?_); (try (refine gate_guard (by rfl) ?_; dsimp only)); refine box_event ?hg (N := 1) ?hd (cs := #[.int .i64 a0_0, .slice A0_1 l0_1.length c0_1]) (t := 33) ?hr ?_; (case hd => rfl); (case hg => rfl); (case hr => first | (go_simp; done) | (go_simp; rfl)); intro gb202 hg w3 hbox hb; have n0_ := aM (below_step (by repeat (first | (with_reducible first | exact HB.out | apply below_alloc | apply pw_below_drewN | apply below_drew1) | exact HB.out)) hb); have n1_ := aM (hbox); have n2_ := aM ((by rw [hg]; exact (below_size (by repeat (first | (with_reducible first | exact HB.out | apply below_alloc | apply pw_below_drewN | apply below_drew1) | exact HB.out))) : w.heap.size ≤ gb202)); have n3_ := aM ((by rw [hg]; exact (below_size (by repeat (first | (with_reducible first | exact HB.out | apply below_alloc | apply pw_below_drewN | apply below_drew1) | exact HB.out))) : w.heap.size ≤ gb202)); clear HB; have HB := n0_; have BK202 := n1_; have GW202 := n2_; have GE202 := n3_; clear n0_ n1_ n2_ n3_; clear hb hbox hg))
 (try simp only [Act.put, zSA, zSB, zSC])
 go_cut [14] (fun v14 wc => ∃ (kq : Nat) (x14_1 : Bool), v14 = .bool x14_1 ∧ Aside0 (impl_GoodWords.j0 kq x14_1 a0_0 l0_1 = some r) ∧ Aside0 (kq ≤ k) ∧ Aside0 (wc.heap[gb202]? = some (.cells #[.int .i64 a0_0, (.slice A0_1 l0_1.length c0_1)] 33 (0, 0))) ∧ Aside0 (Below w.heap.size w wc))
 case first =>
  have H := HC2.out
  clear HC2
  replace H := Option.bind_eq_some_iff.mp H
  obtain ⟨t203, A40, H⟩ := H
  replace H : (if t203 = true then (impl_GoodWords.j0 k (decide ((l0_1.length : Int) > 200)) a0_0 l0_1) else (impl_GoodWords.j0 k true a0_0 l0_1)) = some r := H
  have A4 := aM A40
  clear A40
  by_cases c5 : t203 = true
  ·
   subst c5
   have H1 : (impl_GoodWords.j0 k (decide ((l0_1.length : Int) > 200)) a0_0 l0_1) = some r := by rw [if_pos rfl] at H; exact H
   clear H
   have H := H1
   clear H1
   have H' := aM H
   clear H
   have hcz6_0 : w3.cell? ⟨gb202, 0, none⟩ = some (.int .i64 a0_0) := (blk_cell BK202.out 0).trans rfl
   have hcz6_1 : w3.cell? ⟨gb202, 1, none⟩ = some (.slice A0_1 l0_1.length c0_1) := (blk_cell BK202.out 1).trans rfl
   have hfz6_0 := blk_frozen BK202.out 0
   have hfz6_1 := blk_frozen BK202.out 1
   go_wp2_with (first | ((with_reducible refine gate_callee (f := 88) rfl ?_); refine gL 7 Try.func88 #[.int .i64 a0_0, .int .i64 0, .int .i64 40] ?_; (with_reducible refine (impl_within.calls a0_0 0 40 true _ A4.out).mono ?_); rintro e w' ⟨rfl, ⟨nd, rfl⟩⟩; refine ⟨_, rfl, ?_⟩))
   go_meet
   case rel => exact ⟨_, (decide ((l0_1.length : Int) > 200)), (by first | rfl | (simp; done) | (simp [*]; done)), H', ⟨by first | omega | exact Nat.le_refl _⟩, ⟨by (with_reducible repeat (first | refine blk_drewN ?_ _ | refine blk_drew ?_ | refine blk_alloc ?_ _)); exact BK202.out⟩, ⟨by repeat (first | (with_reducible first | exact HB.out | apply below_alloc | apply pw_below_drewN | apply below_drew1 | refine below_set ?_ GE202.out) | exact HB.out)⟩⟩
  ·
   replace c5 := Bool.eq_false_iff.mpr c5
   subst c5
   have H1 : (impl_GoodWords.j0 k true a0_0 l0_1) = some r := by rw [if_neg (show ¬ (false = true) by decide)] at H; exact H
   clear H
   have H := H1
   clear H1
   have H' := aM H
   clear H
   have hcz7_0 : w3.cell? ⟨gb202, 0, none⟩ = some (.int .i64 a0_0) := (blk_cell BK202.out 0).trans rfl
   have hcz7_1 : w3.cell? ⟨gb202, 1, none⟩ = some (.slice A0_1 l0_1.length c0_1) := (blk_cell BK202.out 1).trans rfl
   have hfz7_0 := blk_frozen BK202.out 0
   have hfz7_1 := blk_frozen BK202.out 1
   go_wp2_with (first | ((with_reducible refine gate_callee (f := 88) rfl ?_); refine gL 7 Try.func88 #[.int .i64 a0_0, .int .i64 0, .int .i64 40] ?_; (with_reducible refine (impl_within.calls a0_0 0 40 false _ A4.out).mono ?_); rintro e w' ⟨rfl, ⟨nd, rfl⟩⟩; refine ⟨_, rfl, ?_⟩))
   go_meet
   case rel => exact ⟨_, (true), (by first | rfl | (simp; done) | (simp [*]; done)), H', ⟨by first | omega | exact Nat.le_refl _⟩, ⟨by (with_reducible repeat (first | refine blk_drewN ?_ _ | refine blk_drew ?_ | refine blk_alloc ?_ _)); exact BK202.out⟩, ⟨by repeat (first | (with_reducible first | exact HB.out | apply below_alloc | apply pw_below_drewN | apply below_drew1 | refine below_set ?_ GE202.out) | exact HB.out)⟩⟩
 case rest =>
  clear HC2
  try clear p2
  try clear c3
  try clear c5
  try clear hcz6_0
  try clear hcz6_1
  try clear hcz7_0
  try clear hcz7_1
  try clear hfz6_0
  try clear hfz6_1
  try clear hfz7_0
  try clear hfz7_1
  obtain ⟨kq, x14_1, rfl, HA, HJ1, BK202, HB⟩ := hcut
  cases kq with
  | zero => exact absurd HA.out (by simp [impl_GoodWords.j0])
  | succ kj1 =>
   have H := HA.out
   clear HA
   simp only [impl_GoodWords.j0] at H
   by_cases c8 : x14_1 = true
   ·
    subst c8
    have H1 : (some false) = some r := by rw [if_pos rfl] at H; exact H
    clear H
    have H := H1
    clear H1
    obtain rfl := Option.some.inj H
    go_wp2
    go_ret
    exact ⟨eR, by repeat (first | (with_reducible first | exact HB.out | apply below_alloc | apply pw_below_drewN | apply below_drew1 | refine below_set ?_ GE202.out) | exact HB.out)⟩
   ·
    replace c8 := Bool.eq_false_iff.mpr c8
    subst c8
    have H1 : (impl_GoodWords.l0 kj1 l0_1 (l0_1.length : Int) 0 a0_0 l0_1) = some r := by rw [if_neg (show ¬ (false = true) by decide)] at H; exact H
    clear H
    have H := H1
    clear H1
    have H' := aM H
    clear H
    have hcz9_0 : wc.cell? ⟨gb202, 0, none⟩ = some (.int .i64 a0_0) := (blk_cell BK202.out 0).trans rfl
    have hcz9_1 : wc.cell? ⟨gb202, 1, none⟩ = some (.slice A0_1 l0_1.length c0_1) := (blk_cell BK202.out 1).trans rfl
    have hfz9_0 := blk_frozen BK202.out 0
    have hfz9_1 := blk_frozen BK202.out 1
    go_wp2
    go_loopg [18] kj1 (fun kq v18 w' => ∃ (x18_2 : Int), v18 = .int .i64 x18_2 ∧ Aside0 (impl_GoodWords.l0 kq l0_1 (l0_1.length : Int) x18_2 a0_0 l0_1 = some r) ∧ Aside0 (kq ≤ kj1) ∧ Aside0 (w'.heap[gb202]? = some (.cells #[.int .i64 a0_0, (.slice A0_1 l0_1.length c0_1)] 33 (0, 0))) ∧ Aside0 (Below w.heap.size w w'))
    case atStart => exact ⟨(0), (by first | rfl | (simp; done) | (simp [*]; done)), H', ⟨Nat.le_refl _⟩, ⟨by (with_reducible repeat (first | refine blk_drewN ?_ _ | refine blk_drew ?_ | refine blk_alloc ?_ _)); exact BK202.out⟩, ⟨by repeat (first | (with_reducible first | exact HB.out | apply below_alloc | apply pw_below_drewN | apply below_drew1 | refine below_set ?_ GE202.out) | exact HB.out)⟩⟩
    case round =>
     clear H'
     try clear p2
     try clear c3
     try clear c5
     try clear c8
     try clear hcz6_0
     try clear hcz6_1
     try clear hcz7_0
     try clear hcz7_1
     try clear hcz9_0
     try clear hcz9_1
     try clear hfz6_0
     try clear hfz6_1
     try clear hfz7_0
     try clear hfz7_1
     try clear hfz9_0
     try clear hfz9_1
     try clear p2
     obtain ⟨x18_2, rfl, HA, HK2, BK202, HB⟩ := hrel
     cases gk with
     | zero => exact absurd HA.out (by simp [impl_GoodWords.l0])
     | succ k2 =>
      have H := HA.out
      clear HA
      simp only [impl_GoodWords.l0] at H
      by_cases c10 : x18_2 < (l0_1.length : Int)
      ·
       rw [if_pos c10] at H
       have c10b0 : decide (x18_2 < (l0_1.length : Int)) = true := decide_eq_true c10
       clear c10
       by_cases c11 : 0 ≤ x18_2
       ·
        rw [if_pos c11] at H
        have c11b0 : decide (0 ≤ x18_2) = true := decide_eq_true c11
        clear c11
        by_cases c12 : x18_2 < (l0_1.length : Int)
        ·
         rw [if_pos c12] at H
         have c12b0 : decide (x18_2 < (l0_1.length : Int)) = true := decide_eq_true c12
         clear c12
         replace H := Option.bind_eq_some_iff.mp H
         obtain ⟨t206, A130, H⟩ := H
         replace H : (if t206 = true then (if x18_2 > 0 then (if 0 ≤ (wrap64 (x18_2 - 1)) then (if (wrap64 (x18_2 - 1)) < (l0_1.length : Int) then (if ((Op.bytesLess (((rd_T102 l0_1 (wrap64 (x18_2 - 1))).f0).toList) (((rd_T102 l0_1 x18_2).f0).toList)) = true) then (if (((rd_T102 l0_1 x18_2).f1).length : Int) = 0 then (some false) else ((impl_postingsOK.f k2 ((rd_T102 l0_1 x18_2).f1) (wrap64 (a0_0 - 1))).bind fun t208 => (if t208 = true then (impl_GoodWords.l0 k2 l0_1 (l0_1.length : Int) (wrap64 (x18_2 + 1)) a0_0 l0_1) else (some false)))) else (some false)) else (none)) else (none)) else (if (((rd_T102 l0_1 x18_2).f1).length : Int) = 0 then (some false) else ((impl_postingsOK.f k2 ((rd_T102 l0_1 x18_2).f1) (wrap64 (a0_0 - 1))).bind fun t209 => (if t209 = true then (impl_GoodWords.l0 k2 l0_1 (l0_1.length : Int) (wrap64 (x18_2 + 1)) a0_0 l0_1) else (some false))))) else (some false)) = some r := H
         have A13 := aM A130
         clear A130
         by_cases c14 : t206 = true
         ·
          subst c14
          have H1 : (if x18_2 > 0 then (if 0 ≤ (wrap64 (x18_2 - 1)) then (if (wrap64 (x18_2 - 1)) < (l0_1.length : Int) then (if ((Op.bytesLess (((rd_T102 l0_1 (wrap64 (x18_2 - 1))).f0).toList) (((rd_T102 l0_1 x18_2).f0).toList)) = true) then (if (((rd_T102 l0_1 x18_2).f1).length : Int) = 0 then (some false) else ((impl_postingsOK.f k2 ((rd_T102 l0_1 x18_2).f1) (wrap64 (a0_0 - 1))).bind fun t208 => (if t208 = true then (impl_GoodWords.l0 k2 l0_1 (l0_1.length : Int) (wrap64 (x18_2 + 1)) a0_0 l0_1) else (some false)))) else (some false)) else (none)) else (none)) else (if (((rd_T102 l0_1 x18_2).f1).length : Int) = 0 then (some false) else ((impl_postingsOK.f k2 ((rd_T102 l0_1 x18_2).f1) (wrap64 (a0_0 - 1))).bind fun t209 => (if t209 = true then (impl_GoodWords.l0 k2 l0_1 (l0_1.length : Int) (wrap64 (x18_2 + 1)) a0_0 l0_1) else (some false))))) = some r := by rw [if_pos rfl] at H; exact H
          clear H
          have H := H1
          clear H1
          by_cases c15 : x18_2 > 0
          ·
           rw [if_pos c15] at H
           have c15b0 : decide (0 < x18_2) = true := decide_eq_true c15
           clear c15
           obtain ⟨ji16, hji16⟩ : ∃ j_ : Int, (wrap64 (x18_2 - 1)) = j_ := ⟨_, rfl⟩
           replace H : (if 0 ≤ (ji16) then (if (ji16) < (l0_1.length : Int) then (if ((Op.bytesLess (((rd_T102 l0_1 (ji16)).f0).toList) (((rd_T102 l0_1 x18_2).f0).toList)) = true) then (if (((rd_T102 l0_1 x18_2).f1).length : Int) = 0 then (some false) else ((impl_postingsOK.f k2 ((rd_T102 l0_1 x18_2).f1) (wrap64 (a0_0 - 1))).bind fun t208 => (if t208 = true then (impl_GoodWords.l0 k2 l0_1 (l0_1.length : Int) (wrap64 (x18_2 + 1)) a0_0 l0_1) else (some false)))) else (some false)) else (none)) else (none)) = some r := by first | (rw [hji16] at H; exact H) | (simp only [hji16] at H ⊢; exact H)
           (try rw [hji16] at A13)
           have hji16w : (IntKind.i64.wrap (x18_2 - 1)) = ji16 := (i64_w _).trans hji16
           by_cases c17 : 0 ≤ (ji16)
           ·
            rw [if_pos c17] at H
            have c17b0 : decide (0 ≤ (ji16)) = true := decide_eq_true c17
            clear c17
            by_cases c18 : (ji16) < (l0_1.length : Int)
            ·
             rw [if_pos c18] at H
             have c18b0 : decide ((ji16) < (l0_1.length : Int)) = true := decide_eq_true c18
             clear c18
             by_cases c19 : ((Op.bytesLess (((rd_T102 l0_1 (ji16)).f0).toList) (((rd_T102 l0_1 x18_2).f0).toList)) = true)
             ·
              rw [if_pos c19] at H
              have c19b0 : (Op.bytesLess (((rd_T102 l0_1 (ji16)).f0).toList) (((rd_T102 l0_1 x18_2).f0).toList)) = true := c19
              clear c19
              by_cases c20 : (((rd_T102 l0_1 x18_2).f1).length : Int) = 0
              ·
               rw [if_pos c20] at H
               have c20b0 : ((((rd_T102 l0_1 x18_2).f1).length : Int) == 0) = true := beq_iff_eq.mpr c20
               have c20b1 : ((((rd_T102 l0_1 x18_2).f1).length : Int) != 0) = false := bne_eq_false_iff_eq.mpr c20
               clear c20
               obtain rfl := Option.some.inj H
               have p204 : 0 ≤ (x18_2 : Int) := dT
               have q204 : x18_2 < (l0_1.length : Int) := dT
               obtain ⟨ad204, A204_1, c204_1, e204, hx204_0, hx204_1, hl204_1, hi204_1⟩ := at_T102 HR0_1.out x18_2 p204 q204
               cases e204
               try have hz_hx204_0 := aM hx204_0
               try have hz_hx204_1 := aM hx204_1
               replace hx204_0 := (HB.out.cell (World.block_lt_of_cell? w _ hx204_0)).trans hx204_0
               replace hx204_1 := (HB.out.cell (World.block_lt_of_cell? w _ hx204_1)).trans hx204_1
               have HR204_1 := aM hi204_1
               have HC204_1 := aM hl204_1
               clear hi204_1 hl204_1
               replace p204 := eq_true p204
               replace q204 := eq_true q204
               try go_wp2_with (first | ((with_reducible refine gate_dst (N := 4) rfl ?_); (try (refine gate_guard (by rfl) ?_; dsimp only)); refine box_event ?hg (N := 4) ?hd (cs := #[.string (⟨#[]⟩ : ByteArray), .slice none 0 0]) (t := 102) ?hr ?_; (case hd => rfl); (case hg => rfl); (case hr => first | (go_simp; done) | (go_simp; rfl)); intro gb205 hg w21 hbox hb; have n0_ := aM (blk_below (g := gb202) (o := .cells #[.int .i64 a0_0, .slice (some ad204) l0_1.length c0_1] 33 (0, 0)) (by (with_reducible repeat (first | refine blk_drewN ?_ _ | refine blk_drew ?_ | refine blk_alloc ?_ _)); exact BK202.out) hb); have n1_ := aM (below_step (by repeat (first | (with_reducible first | exact HB.out | apply below_alloc | apply pw_below_drewN | apply below_drew1 | refine below_set ?_ GE202.out) | exact HB.out)) hb); have n2_ := aM (hbox); have n3_ := aM ((by rw [hg]; exact (below_size (by repeat (first | (with_reducible first | exact HB.out | apply below_alloc | apply pw_below_drewN | apply below_drew1 | refine below_set ?_ GE202.out) | exact HB.out))) : w.heap.size ≤ gb205)); have n4_ := aM ((by rw [hg]; exact (below_size (by repeat (first | (with_reducible first | exact HB.out | apply below_alloc | apply pw_below_drewN | apply below_drew1 | refine below_set ?_ GE202.out) | exact HB.out))) : w.heap.size ≤ gb205)); have n5_ := aM ((by rw [hg]; exact Nat.ne_of_lt (blk_lt (g := gb202) (o := .cells #[.int .i64 a0_0, .slice (some ad204) l0_1.length c0_1] 33 (0, 0)) (by (with_reducible repeat (first | refine blk_drewN ?_ _ | refine blk_drew ?_ | refine blk_alloc ?_ _)); exact BK202.out)) : gb202 ≠ gb205)); have n6_ := aM ((by rw [hg]; exact Nat.ne_of_gt (blk_lt (g := gb202) (o := .cells #[.int .i64 a0_0, .slice (some ad204) l0_1.length c0_1] 33 (0, 0)) (by (with_reducible repeat (first | refine blk_drewN ?_ _ | refine blk_drew ?_ | refine blk_alloc ?_ _)); exact BK202.out)) : gb205 ≠ gb202)); clear BK202; clear HB; have BK202 := n0_; have HB := n1_; have BK205 := n2_; have GW205 := n3_; have GE205 := n4_; have NB202_205 := n5_; have NB205_202 := n6_; clear n0_ n1_ n2_ n3_ n4_ n5_ n6_; clear hb hbox hg; have hnb22 := NB205_202.out; have hnc22 := NB202_205.out; have hcz23_0 : w21.cell? ⟨gb205, 0, none⟩ = some (.string (⟨#[]⟩ : ByteArray)) := (blk_cell BK205.out 0).trans rfl; have hcz23_1 : w21.cell? ⟨gb205, 1, none⟩ = some (.slice none 0 0) := (blk_cell BK205.out 1).trans rfl; have hfz23_0 := blk_frozen BK205.out 0; have hfz23_1 := blk_frozen BK205.out 1))
               have n0_ : Aside0 (((w21.setCell ⟨gb205, 0, none⟩ (.string ((rd_T102 l0_1 x18_2).f0))).setCell ⟨gb205, 1, none⟩ (.slice A204_1 ((rd_T102 l0_1 x18_2).f1).length c204_1)).heap[gb202]? = some (.cells #[.int .i64 a0_0, .slice (some ad204) l0_1.length c0_1] 33 (0, 0))) := ⟨by (with_reducible repeat (first | refine blk_drewN ?_ _ | refine blk_drew ?_ | refine blk_alloc ?_ _)); refine blk_far ?_ NB202_205.out _; (with_reducible repeat (first | refine blk_drewN ?_ _ | refine blk_drew ?_ | refine blk_alloc ?_ _)); refine blk_far ?_ NB202_205.out _; (with_reducible repeat (first | refine blk_drewN ?_ _ | refine blk_drew ?_ | refine blk_alloc ?_ _)); exact BK202.out⟩
               have n1_ : Aside0 (((w21.setCell ⟨gb205, 0, none⟩ (.string ((rd_T102 l0_1 x18_2).f0))).setCell ⟨gb205, 1, none⟩ (.slice A204_1 ((rd_T102 l0_1 x18_2).f1).length c204_1)).heap[gb205]? = some (.cells #[.string ((rd_T102 l0_1 x18_2).f0), .slice A204_1 ((rd_T102 l0_1 x18_2).f1).length c204_1] 102 (0, 0))) := ⟨by (with_reducible repeat (first | refine blk_drewN ?_ _ | refine blk_drew ?_ | refine blk_alloc ?_ _)); refine blk_put (cs := #[.string ((rd_T102 l0_1 x18_2).f0), .slice none 0 0]) ?_ 1 _ rfl; (with_reducible repeat (first | refine blk_drewN ?_ _ | refine blk_drew ?_ | refine blk_alloc ?_ _)); refine blk_put (cs := #[.string (⟨#[]⟩ : ByteArray), .slice none 0 0]) ?_ 0 _ rfl; (with_reducible repeat (first | refine blk_drewN ?_ _ | refine blk_drew ?_ | refine blk_alloc ?_ _)); exact BK205.out⟩
               have n2_ : Aside0 (Below w.heap.size w ((w21.setCell ⟨gb205, 0, none⟩ (.string ((rd_T102 l0_1 x18_2).f0))).setCell ⟨gb205, 1, none⟩ (.slice A204_1 ((rd_T102 l0_1 x18_2).f1).length c204_1))) := ⟨by repeat (first | (with_reducible first | exact HB.out | apply below_alloc | apply pw_below_drewN | apply below_drew1 | refine below_set ?_ GE202.out | refine below_set ?_ GE205.out) | exact HB.out)⟩
               (try clear BK202)
               (try clear BK205)
               (try clear HB)
               generalize ((w21.setCell ⟨gb205, 0, none⟩ (.string ((rd_T102 l0_1 x18_2).f0))).setCell ⟨gb205, 1, none⟩ (.slice A204_1 ((rd_T102 l0_1 x18_2).f1).length c204_1)) = w24 at n0_ n1_ n2_ ⊢
               have BK202 := n0_
               have BK205 := n1_
               have HB := n2_
               clear n0_ n1_ n2_
               have n0_ := aM (blk_drew BK202.out)
               have n1_ := aM (blk_drew BK205.out)
               have n2_ := aM (below_drew1 HB.out)
               clear BK202
               clear BK205
               clear HB
               have BK202 := n0_
               have BK205 := n1_
               have HB := n2_
               clear n0_ n1_ n2_
               have p207 : 0 ≤ ((ji16) : Int) := dT
               have q207 : (ji16) < (l0_1.length : Int) := dT
               obtain ⟨ad207, A207_1, c207_1, e207, hx207_0, hx207_1, hl207_1, hi207_1⟩ := at_T102 HR0_1.out (ji16) p207 q207
               have hw207_1 := hx207_1
               have hw207_0 := hx207_0
               obtain rfl : ad204 = ad207 := (by injection e207)
               try have hz_hx207_0 := aM hx207_0
               try have hz_hx207_1 := aM hx207_1
               replace hx207_0 := (HB.out.cell (World.block_lt_of_cell? w _ hx207_0)).trans hx207_0
               replace hx207_1 := (HB.out.cell (World.block_lt_of_cell? w _ hx207_1)).trans hx207_1
               have HR207_1 := aM hi207_1
               have HC207_1 := aM hl207_1
               clear hi207_1 hl207_1
               replace p207 := eq_true p207
               replace q207 := eq_true q207
               refine start_ (n := 35) (S := fun w' => w'.cell? ⟨gb205, 0, none⟩ = some (.string ((rd_T102 l0_1 x18_2).f0)) ∧ w'.cell? ⟨gb205, 1, none⟩ = some (.slice A204_1 ((rd_T102 l0_1 x18_2).f1).length c204_1) ∧ w'.cell? ⟨gb202, 0, none⟩ = some (.int .i64 a0_0) ∧ w'.cell? ⟨gb202, 1, none⟩ = some (.slice (some ad204) l0_1.length c0_1) ∧ w'.cell? (ad204.add (((ji16)).toNat * 2)) = some (.string ((rd_T102 l0_1 (ji16)).f0)) ∧ w'.cell? ⟨(ad204.add (((ji16)).toNat * 2)).block, (ad204.add (((ji16)).toNat * 2)).off + 1, none⟩ = some (.slice A207_1 ((rd_T102 l0_1 (ji16)).f1).length c207_1)) (ds := []) (bq 35 0) (by kernel_rfl) rfl (by kernel_rfl) ⟨(blk_cell BK205.out 0).trans rfl, (blk_cell BK205.out 1).trans rfl, (blk_cell BK202.out 0).trans rfl, (blk_cell BK202.out 1).trans rfl, ((HB.out.cell (World.block_lt_of_cell? w _ hw207_0)).trans hw207_0), ((HB.out.cell (World.block_lt_of_cell? w _ hw207_1)).trans hw207_1)⟩ (fun hHeld => ?_); refine with_tabW impl_GoodWords.tab6 impl_GoodWords.bits6 (fun HT_ HW_ => ?_)
               generalize w24.drew = w25 at BK202 BK205 HB HR207_1 hx207_0 hx207_1 hHeld ⊢
               refine pZ 35 1 0 23 HT_ ?_
               refine tZ6 35 3 1 24 HT_ HW_ hHeld ?_
               refine one_ (i := 2) (N := some 25) (bq 35 7) rfl rfl (one_of HT_.out (by kernel_rfl)) (by decide) (fun K hK => ?_)
               refine gA Try.func89 #[.string ((rd_T102 l0_1 x18_2).f0)] ?_
               with_reducible refine (impl_isWord.calls k2 ((rd_T102 l0_1 x18_2).f0) true _ A13.out).mono ?_
               rintro e w' ⟨rfl, ⟨nd, rfl⟩⟩
               refine ⟨_, rfl, ?_⟩
               refine hK.out _ _ ⟨(blk_cell BK205.out 0).trans rfl, (blk_cell BK205.out 1).trans rfl, (blk_cell BK202.out 0).trans rfl, (blk_cell BK202.out 1).trans rfl, ((HB.out.cell (World.block_lt_of_cell? w _ hw207_0)).trans hw207_0), ((HB.out.cell (World.block_lt_of_cell? w _ hw207_1)).trans hw207_1)⟩ (fun hHeld => ?_)
               clear hK K
               refine nM 25 ?_
               refine pZ 35 15 3 26 HT_ ?_
               refine pZ 35 31 4 27 HT_ ?_
               refine pZ 35 63 5 28 HT_ ?_
               refine pZ 35 127 6 29 HT_ ?_
               refine pZ 35 255 7 30 HT_ ?_
               refine pZ 35 511 8 31 HT_ ?_
               refine pZ 35 1535 10 33 HT_ ?_
               refine pZ 35 3583 11 34 HT_ ?_
               refine pZ 35 36351 15 38 HT_ ?_
               refine tZ6 35 36863 9 32 HT_ HW_ hHeld ?_
               refine pZ 35 40959 12 35 HT_ ?_
               refine pZ 35 49151 13 36 HT_ ?_
               refine tZ6 35 65535 14 37 HT_ HW_ hHeld ?_
               refine tZ6 35 131071 16 39 HT_ HW_ hHeld ?_
               refine pZ 35 262143 17 40 HT_ ?_
               refine pZ 35 524287 18 41 HT_ ?_
               refine pZ 35 1048575 19 42 HT_ ?_
               refine pZ 35 2097151 20 43 HT_ ?_
               refine pZ 35 4194303 21 44 HT_ ?_
               refine tZ6 35 8388607 22 45 HT_ HW_ hHeld ?_
               refine pZ 35 16777215 23 46 HT_ ?_
               refine pZ 35 33554431 24 47 HT_ ?_
               refine pZ 35 67108863 25 48 HT_ ?_
               refine pZ 35 134217727 26 49 HT_ ?_
               refine pY 35 268435455 27 50 HT_ ?_
               refine pY 35 536870911 28 51 HT_ ?_
               refine pY 35 1073741823 29 52 HT_ ?_
               refine pY 35 2147483647 30 53 HT_ ?_
               refine pY 35 4294967295 31 54 HT_ ?_
               refine pY 35 8589934591 32 55 HT_ ?_
               refine pY 35 17179869183 33 56 HT_ ?_
               refine pZ 35 34359738367 34 57 HT_ ?_
               refine done_ (done_of HT_.out (by kernel_rfl)) ?_
               try go_wp2
               go_ret
               exact ⟨by first | rfl | (simp [errW_none, errW_some] <;> rfl) | (simp only [← hji16]; first | rfl | (simp [errW_none, errW_some] <;> rfl)) | (simp [*, errW_none, errW_some] <;> rfl), by repeat (first | (with_reducible first | exact HB.out | apply below_alloc | apply pw_below_drewN | apply below_drew1 | refine below_set ?_ GE202.out | refine below_set ?_ GE205.out) | exact HB.out)⟩
              ·
               rw [if_neg c20] at H
               have c20b0 : ((((rd_T102 l0_1 x18_2).f1).length : Int) == 0) = false := beq_eq_false_iff_ne.mpr c20
               have c20b1 : ((((rd_T102 l0_1 x18_2).f1).length : Int) != 0) = true := bne_iff_ne.mpr c20
               have c20b2 : ¬ (((rd_T102 l0_1 x18_2).f1) = []) := fun h_ => c20 (by rw [h_]; rfl)
               replace H := Option.bind_eq_some_iff.mp H
               obtain ⟨t208, A260, H⟩ := H
               replace H : (if t208 = true then (impl_GoodWords.l0 k2 l0_1 (l0_1.length : Int) (wrap64 (x18_2 + 1)) a0_0 l0_1) else (some false)) = some r := H
               have A26 := aM A260
               clear A260
               by_cases c27 : t208 = true
               ·
                subst c27
                have H1 : (impl_GoodWords.l0 k2 l0_1 (l0_1.length : Int) (wrap64 (x18_2 + 1)) a0_0 l0_1) = some r := by rw [if_pos rfl] at H; exact H
                clear H
                have H := H1
                clear H1
                have H' := aM H
                clear H
                have p204 : 0 ≤ (x18_2 : Int) := dT
                have q204 : x18_2 < (l0_1.length : Int) := dT
                obtain ⟨ad204, A204_1, c204_1, e204, hx204_0, hx204_1, hl204_1, hi204_1⟩ := at_T102 HR0_1.out x18_2 p204 q204
                cases e204
                try have hz_hx204_0 := aM hx204_0
                try have hz_hx204_1 := aM hx204_1
                replace hx204_0 := (HB.out.cell (World.block_lt_of_cell? w _ hx204_0)).trans hx204_0
                replace hx204_1 := (HB.out.cell (World.block_lt_of_cell? w _ hx204_1)).trans hx204_1
                have HR204_1 := aM hi204_1
                have HC204_1 := aM hl204_1
                clear hi204_1 hl204_1
                replace p204 := eq_true p204
                replace q204 := eq_true q204
                try go_wp2_with (first | ((with_reducible refine gate_dst (N := 4) rfl ?_); (try (refine gate_guard (by rfl) ?_; dsimp only)); refine box_event ?hg (N := 4) ?hd (cs := #[.string (⟨#[]⟩ : ByteArray), .slice none 0 0]) (t := 102) ?hr ?_; (case hd => rfl); (case hg => rfl); (case hr => first | (go_simp; done) | (go_simp; rfl)); intro gb205 hg w28 hbox hb; have n0_ := aM (blk_below (g := gb202) (o := .cells #[.int .i64 a0_0, .slice (some ad204) l0_1.length c0_1] 33 (0, 0)) (by (with_reducible repeat (first | refine blk_drewN ?_ _ | refine blk_drew ?_ | refine blk_alloc ?_ _)); exact BK202.out) hb); have n1_ := aM (below_step (by repeat (first | (with_reducible first | exact HB.out | apply below_alloc | apply pw_below_drewN | apply below_drew1 | refine below_set ?_ GE202.out) | exact HB.out)) hb); have n2_ := aM (hbox); have n3_ := aM ((by rw [hg]; exact (below_size (by repeat (first | (with_reducible first | exact HB.out | apply below_alloc | apply pw_below_drewN | apply below_drew1 | refine below_set ?_ GE202.out) | exact HB.out))) : w.heap.size ≤ gb205)); have n4_ := aM ((by rw [hg]; exact (below_size (by repeat (first | (with_reducible first | exact HB.out | apply below_alloc | apply pw_below_drewN | apply below_drew1 | refine below_set ?_ GE202.out) | exact HB.out))) : w.heap.size ≤ gb205)); have n5_ := aM ((by rw [hg]; exact Nat.ne_of_lt (blk_lt (g := gb202) (o := .cells #[.int .i64 a0_0, .slice (some ad204) l0_1.length c0_1] 33 (0, 0)) (by (with_reducible repeat (first | refine blk_drewN ?_ _ | refine blk_drew ?_ | refine blk_alloc ?_ _)); exact BK202.out)) : gb202 ≠ gb205)); have n6_ := aM ((by rw [hg]; exact Nat.ne_of_gt (blk_lt (g := gb202) (o := .cells #[.int .i64 a0_0, .slice (some ad204) l0_1.length c0_1] 33 (0, 0)) (by (with_reducible repeat (first | refine blk_drewN ?_ _ | refine blk_drew ?_ | refine blk_alloc ?_ _)); exact BK202.out)) : gb205 ≠ gb202)); clear BK202; clear HB; have BK202 := n0_; have HB := n1_; have BK205 := n2_; have GW205 := n3_; have GE205 := n4_; have NB202_205 := n5_; have NB205_202 := n6_; clear n0_ n1_ n2_ n3_ n4_ n5_ n6_; clear hb hbox hg; have hnb29 := NB205_202.out; have hnc29 := NB202_205.out; have hcz30_0 : w28.cell? ⟨gb205, 0, none⟩ = some (.string (⟨#[]⟩ : ByteArray)) := (blk_cell BK205.out 0).trans rfl; have hcz30_1 : w28.cell? ⟨gb205, 1, none⟩ = some (.slice none 0 0) := (blk_cell BK205.out 1).trans rfl; have hfz30_0 := blk_frozen BK205.out 0; have hfz30_1 := blk_frozen BK205.out 1))
                have n0_ : Aside0 (((w28.setCell ⟨gb205, 0, none⟩ (.string ((rd_T102 l0_1 x18_2).f0))).setCell ⟨gb205, 1, none⟩ (.slice A204_1 ((rd_T102 l0_1 x18_2).f1).length c204_1)).heap[gb202]? = some (.cells #[.int .i64 a0_0, .slice (some ad204) l0_1.length c0_1] 33 (0, 0))) := ⟨by (with_reducible repeat (first | refine blk_drewN ?_ _ | refine blk_drew ?_ | refine blk_alloc ?_ _)); refine blk_far ?_ NB202_205.out _; (with_reducible repeat (first | refine blk_drewN ?_ _ | refine blk_drew ?_ | refine blk_alloc ?_ _)); refine blk_far ?_ NB202_205.out _; (with_reducible repeat (first | refine blk_drewN ?_ _ | refine blk_drew ?_ | refine blk_alloc ?_ _)); exact BK202.out⟩
                have n1_ : Aside0 (((w28.setCell ⟨gb205, 0, none⟩ (.string ((rd_T102 l0_1 x18_2).f0))).setCell ⟨gb205, 1, none⟩ (.slice A204_1 ((rd_T102 l0_1 x18_2).f1).length c204_1)).heap[gb205]? = some (.cells #[.string ((rd_T102 l0_1 x18_2).f0), .slice A204_1 ((rd_T102 l0_1 x18_2).f1).length c204_1] 102 (0, 0))) := ⟨by (with_reducible repeat (first | refine blk_drewN ?_ _ | refine blk_drew ?_ | refine blk_alloc ?_ _)); refine blk_put (cs := #[.string ((rd_T102 l0_1 x18_2).f0), .slice none 0 0]) ?_ 1 _ rfl; (with_reducible repeat (first | refine blk_drewN ?_ _ | refine blk_drew ?_ | refine blk_alloc ?_ _)); refine blk_put (cs := #[.string (⟨#[]⟩ : ByteArray), .slice none 0 0]) ?_ 0 _ rfl; (with_reducible repeat (first | refine blk_drewN ?_ _ | refine blk_drew ?_ | refine blk_alloc ?_ _)); exact BK205.out⟩
                have n2_ : Aside0 (Below w.heap.size w ((w28.setCell ⟨gb205, 0, none⟩ (.string ((rd_T102 l0_1 x18_2).f0))).setCell ⟨gb205, 1, none⟩ (.slice A204_1 ((rd_T102 l0_1 x18_2).f1).length c204_1))) := ⟨by repeat (first | (with_reducible first | exact HB.out | apply below_alloc | apply pw_below_drewN | apply below_drew1 | refine below_set ?_ GE202.out | refine below_set ?_ GE205.out) | exact HB.out)⟩
                (try clear BK202)
                (try clear BK205)
                (try clear HB)
                generalize ((w28.setCell ⟨gb205, 0, none⟩ (.string ((rd_T102 l0_1 x18_2).f0))).setCell ⟨gb205, 1, none⟩ (.slice A204_1 ((rd_T102 l0_1 x18_2).f1).length c204_1)) = w31 at n0_ n1_ n2_ ⊢
                have BK202 := n0_
                have BK205 := n1_
                have HB := n2_
                clear n0_ n1_ n2_
                have n0_ := aM (blk_drew BK202.out)
                have n1_ := aM (blk_drew BK205.out)
                have n2_ := aM (below_drew1 HB.out)
                clear BK202
                clear BK205
                clear HB
                have BK202 := n0_
                have BK205 := n1_
                have HB := n2_
                clear n0_ n1_ n2_
                have p207 : 0 ≤ ((ji16) : Int) := dT
                have q207 : (ji16) < (l0_1.length : Int) := dT
                obtain ⟨ad207, A207_1, c207_1, e207, hx207_0, hx207_1, hl207_1, hi207_1⟩ := at_T102 HR0_1.out (ji16) p207 q207
                have hw207_1 := hx207_1
                have hw207_0 := hx207_0
                obtain rfl : ad204 = ad207 := (by injection e207)
                try have hz_hx207_0 := aM hx207_0
                try have hz_hx207_1 := aM hx207_1
                replace hx207_0 := (HB.out.cell (World.block_lt_of_cell? w _ hx207_0)).trans hx207_0
                replace hx207_1 := (HB.out.cell (World.block_lt_of_cell? w _ hx207_1)).trans hx207_1
                have HR207_1 := aM hi207_1
                have HC207_1 := aM hl207_1
                clear hi207_1 hl207_1
                replace p207 := eq_true p207
                replace q207 := eq_true q207
                refine start_ (n := 35) (S := fun w' => w'.cell? ⟨gb205, 0, none⟩ = some (.string ((rd_T102 l0_1 x18_2).f0)) ∧ w'.cell? ⟨gb205, 1, none⟩ = some (.slice A204_1 ((rd_T102 l0_1 x18_2).f1).length c204_1) ∧ w'.cell? ⟨gb202, 0, none⟩ = some (.int .i64 a0_0) ∧ w'.cell? ⟨gb202, 1, none⟩ = some (.slice (some ad204) l0_1.length c0_1) ∧ w'.cell? (ad204.add (((ji16)).toNat * 2)) = some (.string ((rd_T102 l0_1 (ji16)).f0)) ∧ w'.cell? ⟨(ad204.add (((ji16)).toNat * 2)).block, (ad204.add (((ji16)).toNat * 2)).off + 1, none⟩ = some (.slice A207_1 ((rd_T102 l0_1 (ji16)).f1).length c207_1)) (ds := []) (bq 35 0) (by kernel_rfl) rfl (by kernel_rfl) ⟨(blk_cell BK205.out 0).trans rfl, (blk_cell BK205.out 1).trans rfl, (blk_cell BK202.out 0).trans rfl, (blk_cell BK202.out 1).trans rfl, ((HB.out.cell (World.block_lt_of_cell? w _ hw207_0)).trans hw207_0), ((HB.out.cell (World.block_lt_of_cell? w _ hw207_1)).trans hw207_1)⟩ (fun hHeld => ?_); refine with_tabW impl_GoodWords.tab6 impl_GoodWords.bits6 (fun HT_ HW_ => ?_)
                generalize w31.drew = w32 at BK202 BK205 HB HR207_1 hx207_0 hx207_1 hHeld ⊢
                refine pZ 35 1 0 23 HT_ ?_
                refine tZ6 35 3 1 24 HT_ HW_ hHeld ?_
                refine one_ (i := 2) (N := some 25) (bq 35 7) rfl rfl (one_of HT_.out (by kernel_rfl)) (by decide) (fun K hK => ?_)
                refine gA Try.func89 #[.string ((rd_T102 l0_1 x18_2).f0)] ?_
                with_reducible refine (impl_isWord.calls k2 ((rd_T102 l0_1 x18_2).f0) true _ A13.out).mono ?_
                rintro e w' ⟨rfl, ⟨nd, rfl⟩⟩
                refine ⟨_, rfl, ?_⟩
                refine hK.out _ _ ⟨(blk_cell BK205.out 0).trans rfl, (blk_cell BK205.out 1).trans rfl, (blk_cell BK202.out 0).trans rfl, (blk_cell BK202.out 1).trans rfl, ((HB.out.cell (World.block_lt_of_cell? w _ hw207_0)).trans hw207_0), ((HB.out.cell (World.block_lt_of_cell? w _ hw207_1)).trans hw207_1)⟩ (fun hHeld => ?_)
                clear hK K
                refine nM 25 ?_
                refine pZ 35 15 3 26 HT_ ?_
                refine pZ 35 31 4 27 HT_ ?_
                refine pZ 35 63 5 28 HT_ ?_
                refine pZ 35 127 6 29 HT_ ?_
                refine pZ 35 255 7 30 HT_ ?_
                refine pZ 35 511 8 31 HT_ ?_
                refine pZ 35 1535 10 33 HT_ ?_
                refine pZ 35 3583 11 34 HT_ ?_
                refine pZ 35 36351 15 38 HT_ ?_
                refine tZ6 35 36863 9 32 HT_ HW_ hHeld ?_
                refine pZ 35 40959 12 35 HT_ ?_
                refine pZ 35 49151 13 36 HT_ ?_
                refine tZ6 35 65535 14 37 HT_ HW_ hHeld ?_
                refine tZ6 35 131071 16 39 HT_ HW_ hHeld ?_
                refine pZ 35 262143 17 40 HT_ ?_
                refine pZ 35 524287 18 41 HT_ ?_
                refine pZ 35 1048575 19 42 HT_ ?_
                refine pZ 35 2097151 20 43 HT_ ?_
                refine pZ 35 4194303 21 44 HT_ ?_
                refine tZ6 35 8388607 22 45 HT_ HW_ hHeld ?_
                refine pZ 35 16777215 23 46 HT_ ?_
                refine pZ 35 33554431 24 47 HT_ ?_
                refine pZ 35 67108863 25 48 HT_ ?_
                refine pZ 35 134217727 26 49 HT_ ?_
                refine pZ 35 268435455 27 50 HT_ ?_
                refine pZ 35 805306367 29 52 HT_ ?_
                refine tZ6 35 1073741823 28 51 HT_ HW_ hHeld ?_
                refine tZ6 35 2147483647 30 53 HT_ HW_ hHeld ?_
                refine pZ 35 4294967295 31 54 HT_ ?_
                refine one_ (i := 32) (N := some 55) (bq 35 8589934591) rfl rfl (one_of HT_.out (by kernel_rfl)) (by decide) (fun K hK => ?_)
                refine gA Try.func90 #[.slice A204_1 ((rd_T102 l0_1 x18_2).f1).length c204_1, .int .i64 (wrap64 (a0_0 - 1))] ?_
                with_reducible refine (impl_postingsOK.calls k2 _ _ ((rd_T102 l0_1 x18_2).f1) (wrap64 (a0_0 - 1)) true _ ?side1 ?side2 A26.out).mono ?_
                (case side1 => repeat (first | exact (Kd.C_below HR204_1.out (by repeat (first | (with_reducible first | exact HB.out | apply below_alloc | apply pw_below_drewN | apply below_drew1 | refine below_set ?_ GE202.out | refine below_set ?_ GE205.out) | exact HB.out))) | (with_reducible refine Kd.C_alloc ?_ _) | (with_reducible refine Kd.C_drewN ?_ _) | (with_reducible refine Kd.C_drew ?_)))
                (case side2 => exact HC204_1.out)
                rintro e w33 ⟨rfl, hb⟩
                refine ⟨_, rfl, ?_⟩
                have n0_ := aM (blk_below (g := gb202) (o := .cells #[.int .i64 a0_0, .slice (some ad204) l0_1.length c0_1] 33 (0, 0)) (by (with_reducible repeat (first | refine blk_drewN ?_ _ | refine blk_drew ?_ | refine blk_alloc ?_ _)); exact BK202.out) hb)
                have n1_ := aM (blk_below (g := gb205) (o := .cells #[.string ((rd_T102 l0_1 x18_2).f0), .slice A204_1 ((rd_T102 l0_1 x18_2).f1).length c204_1] 102 (0, 0)) (by (with_reducible repeat (first | refine blk_drewN ?_ _ | refine blk_drew ?_ | refine blk_alloc ?_ _)); exact BK205.out) hb)
                have n2_ := aM (below_step (by repeat (first | (with_reducible first | exact HB.out | apply below_alloc | apply pw_below_drewN | apply below_drew1 | refine below_set ?_ GE202.out | refine below_set ?_ GE205.out) | exact HB.out)) hb)
                clear BK202
                clear BK205
                clear HB
                have BK202 := n0_
                have BK205 := n1_
                have HB := n2_
                clear n0_ n1_ n2_
                (try clear hb)
                (try clear hb2)
                (try clear hk)
                (try clear hi)
                refine hK.out _ _ ⟨(blk_cell BK205.out 0).trans rfl, (blk_cell BK205.out 1).trans rfl, (blk_cell BK202.out 0).trans rfl, (blk_cell BK202.out 1).trans rfl, ((HB.out.cell (World.block_lt_of_cell? w _ hw207_0)).trans hw207_0), ((HB.out.cell (World.block_lt_of_cell? w _ hw207_1)).trans hw207_1)⟩ (fun hHeld => ?_)
                clear hK K
                refine nM 55 ?_
                refine pZ 35 17179869183 33 56 HT_ ?_
                refine pZ 35 34359738367 34 57 HT_ ?_
                refine done_ (done_of HT_.out (by kernel_rfl)) ?_
                try go_wp2
                go_roundg k2
                case measure => have := HJ1.out; have := HK2.out; omega
                case rel => exact ⟨(wrap64 (x18_2 + 1)), (by first | rfl | (simp; done) | (simp [*]; done)), H', ⟨by have := HJ1.out; have := HK2.out; omega⟩, ⟨by (with_reducible repeat (first | refine blk_drewN ?_ _ | refine blk_drew ?_ | refine blk_alloc ?_ _)); exact BK202.out⟩, ⟨by repeat (first | (with_reducible first | exact HB.out | apply below_alloc | apply pw_below_drewN | apply below_drew1 | refine below_set ?_ GE202.out | refine below_set ?_ GE205.out) | exact HB.out)⟩⟩
               ·
                replace c27 := Bool.eq_false_iff.mpr c27
                subst c27
                have H1 : (some false) = some r := by rw [if_neg (show ¬ (false = true) by decide)] at H; exact H
                clear H
                have H := H1
                clear H1
                obtain rfl := Option.some.inj H
                have p204 : 0 ≤ (x18_2 : Int) := dT
                have q204 : x18_2 < (l0_1.length : Int) := dT
                obtain ⟨ad204, A204_1, c204_1, e204, hx204_0, hx204_1, hl204_1, hi204_1⟩ := at_T102 HR0_1.out x18_2 p204 q204
                cases e204
                try have hz_hx204_0 := aM hx204_0
                try have hz_hx204_1 := aM hx204_1
                replace hx204_0 := (HB.out.cell (World.block_lt_of_cell? w _ hx204_0)).trans hx204_0
                replace hx204_1 := (HB.out.cell (World.block_lt_of_cell? w _ hx204_1)).trans hx204_1
                have HR204_1 := aM hi204_1
                have HC204_1 := aM hl204_1
                clear hi204_1 hl204_1
                replace p204 := eq_true p204
                replace q204 := eq_true q204
                try go_wp2_with (first | ((with_reducible refine gate_dst (N := 4) rfl ?_); (try (refine gate_guard (by rfl) ?_; dsimp only)); refine box_event ?hg (N := 4) ?hd (cs := #[.string (⟨#[]⟩ : ByteArray), .slice none 0 0]) (t := 102) ?hr ?_; (case hd => rfl); (case hg => rfl); (case hr => first | (go_simp; done) | (go_simp; rfl)); intro gb205 hg w34 hbox hb; have n0_ := aM (blk_below (g := gb202) (o := .cells #[.int .i64 a0_0, .slice (some ad204) l0_1.length c0_1] 33 (0, 0)) (by (with_reducible repeat (first | refine blk_drewN ?_ _ | refine blk_drew ?_ | refine blk_alloc ?_ _)); exact BK202.out) hb); have n1_ := aM (below_step (by repeat (first | (with_reducible first | exact HB.out | apply below_alloc | apply pw_below_drewN | apply below_drew1 | refine below_set ?_ GE202.out) | exact HB.out)) hb); have n2_ := aM (hbox); have n3_ := aM ((by rw [hg]; exact (below_size (by repeat (first | (with_reducible first | exact HB.out | apply below_alloc | apply pw_below_drewN | apply below_drew1 | refine below_set ?_ GE202.out) | exact HB.out))) : w.heap.size ≤ gb205)); have n4_ := aM ((by rw [hg]; exact (below_size (by repeat (first | (with_reducible first | exact HB.out | apply below_alloc | apply pw_below_drewN | apply below_drew1 | refine below_set ?_ GE202.out) | exact HB.out))) : w.heap.size ≤ gb205)); have n5_ := aM ((by rw [hg]; exact Nat.ne_of_lt (blk_lt (g := gb202) (o := .cells #[.int .i64 a0_0, .slice (some ad204) l0_1.length c0_1] 33 (0, 0)) (by (with_reducible repeat (first | refine blk_drewN ?_ _ | refine blk_drew ?_ | refine blk_alloc ?_ _)); exact BK202.out)) : gb202 ≠ gb205)); have n6_ := aM ((by rw [hg]; exact Nat.ne_of_gt (blk_lt (g := gb202) (o := .cells #[.int .i64 a0_0, .slice (some ad204) l0_1.length c0_1] 33 (0, 0)) (by (with_reducible repeat (first | refine blk_drewN ?_ _ | refine blk_drew ?_ | refine blk_alloc ?_ _)); exact BK202.out)) : gb205 ≠ gb202)); clear BK202; clear HB; have BK202 := n0_; have HB := n1_; have BK205 := n2_; have GW205 := n3_; have GE205 := n4_; have NB202_205 := n5_; have NB205_202 := n6_; clear n0_ n1_ n2_ n3_ n4_ n5_ n6_; clear hb hbox hg; have hnb35 := NB205_202.out; have hnc35 := NB202_205.out; have hcz36_0 : w34.cell? ⟨gb205, 0, none⟩ = some (.string (⟨#[]⟩ : ByteArray)) := (blk_cell BK205.out 0).trans rfl; have hcz36_1 : w34.cell? ⟨gb205, 1, none⟩ = some (.slice none 0 0) := (blk_cell BK205.out 1).trans rfl; have hfz36_0 := blk_frozen BK205.out 0; have hfz36_1 := blk_frozen BK205.out 1))
                have n0_ : Aside0 (((w34.setCell ⟨gb205, 0, none⟩ (.string ((rd_T102 l0_1 x18_2).f0))).setCell ⟨gb205, 1, none⟩ (.slice A204_1 ((rd_T102 l0_1 x18_2).f1).length c204_1)).heap[gb202]? = some (.cells #[.int .i64 a0_0, .slice (some ad204) l0_1.length c0_1] 33 (0, 0))) := ⟨by (with_reducible repeat (first | refine blk_drewN ?_ _ | refine blk_drew ?_ | refine blk_alloc ?_ _)); refine blk_far ?_ NB202_205.out _; (with_reducible repeat (first | refine blk_drewN ?_ _ | refine blk_drew ?_ | refine blk_alloc ?_ _)); refine blk_far ?_ NB202_205.out _; (with_reducible repeat (first | refine blk_drewN ?_ _ | refine blk_drew ?_ | refine blk_alloc ?_ _)); exact BK202.out⟩
                have n1_ : Aside0 (((w34.setCell ⟨gb205, 0, none⟩ (.string ((rd_T102 l0_1 x18_2).f0))).setCell ⟨gb205, 1, none⟩ (.slice A204_1 ((rd_T102 l0_1 x18_2).f1).length c204_1)).heap[gb205]? = some (.cells #[.string ((rd_T102 l0_1 x18_2).f0), .slice A204_1 ((rd_T102 l0_1 x18_2).f1).length c204_1] 102 (0, 0))) := ⟨by (with_reducible repeat (first | refine blk_drewN ?_ _ | refine blk_drew ?_ | refine blk_alloc ?_ _)); refine blk_put (cs := #[.string ((rd_T102 l0_1 x18_2).f0), .slice none 0 0]) ?_ 1 _ rfl; (with_reducible repeat (first | refine blk_drewN ?_ _ | refine blk_drew ?_ | refine blk_alloc ?_ _)); refine blk_put (cs := #[.string (⟨#[]⟩ : ByteArray), .slice none 0 0]) ?_ 0 _ rfl; (with_reducible repeat (first | refine blk_drewN ?_ _ | refine blk_drew ?_ | refine blk_alloc ?_ _)); exact BK205.out⟩
                have n2_ : Aside0 (Below w.heap.size w ((w34.setCell ⟨gb205, 0, none⟩ (.string ((rd_T102 l0_1 x18_2).f0))).setCell ⟨gb205, 1, none⟩ (.slice A204_1 ((rd_T102 l0_1 x18_2).f1).length c204_1))) := ⟨by repeat (first | (with_reducible first | exact HB.out | apply below_alloc | apply pw_below_drewN | apply below_drew1 | refine below_set ?_ GE202.out | refine below_set ?_ GE205.out) | exact HB.out)⟩
                (try clear BK202)
                (try clear BK205)
                (try clear HB)
                generalize ((w34.setCell ⟨gb205, 0, none⟩ (.string ((rd_T102 l0_1 x18_2).f0))).setCell ⟨gb205, 1, none⟩ (.slice A204_1 ((rd_T102 l0_1 x18_2).f1).length c204_1)) = w37 at n0_ n1_ n2_ ⊢
                have BK202 := n0_
                have BK205 := n1_
                have HB := n2_
                clear n0_ n1_ n2_
                have n0_ := aM (blk_drew BK202.out)
                have n1_ := aM (blk_drew BK205.out)
                have n2_ := aM (below_drew1 HB.out)
                clear BK202
                clear BK205
                clear HB
                have BK202 := n0_
                have BK205 := n1_
                have HB := n2_
                clear n0_ n1_ n2_
                have p207 : 0 ≤ ((ji16) : Int) := dT
                have q207 : (ji16) < (l0_1.length : Int) := dT
                obtain ⟨ad207, A207_1, c207_1, e207, hx207_0, hx207_1, hl207_1, hi207_1⟩ := at_T102 HR0_1.out (ji16) p207 q207
                have hw207_1 := hx207_1
                have hw207_0 := hx207_0
                obtain rfl : ad204 = ad207 := (by injection e207)
                try have hz_hx207_0 := aM hx207_0
                try have hz_hx207_1 := aM hx207_1
                replace hx207_0 := (HB.out.cell (World.block_lt_of_cell? w _ hx207_0)).trans hx207_0
                replace hx207_1 := (HB.out.cell (World.block_lt_of_cell? w _ hx207_1)).trans hx207_1
                have HR207_1 := aM hi207_1
                have HC207_1 := aM hl207_1
                clear hi207_1 hl207_1
                replace p207 := eq_true p207
                replace q207 := eq_true q207
                refine start_ (n := 35) (S := fun w' => w'.cell? ⟨gb205, 0, none⟩ = some (.string ((rd_T102 l0_1 x18_2).f0)) ∧ w'.cell? ⟨gb205, 1, none⟩ = some (.slice A204_1 ((rd_T102 l0_1 x18_2).f1).length c204_1) ∧ w'.cell? ⟨gb202, 0, none⟩ = some (.int .i64 a0_0) ∧ w'.cell? ⟨gb202, 1, none⟩ = some (.slice (some ad204) l0_1.length c0_1) ∧ w'.cell? (ad204.add (((ji16)).toNat * 2)) = some (.string ((rd_T102 l0_1 (ji16)).f0)) ∧ w'.cell? ⟨(ad204.add (((ji16)).toNat * 2)).block, (ad204.add (((ji16)).toNat * 2)).off + 1, none⟩ = some (.slice A207_1 ((rd_T102 l0_1 (ji16)).f1).length c207_1)) (ds := []) (bq 35 0) (by kernel_rfl) rfl (by kernel_rfl) ⟨(blk_cell BK205.out 0).trans rfl, (blk_cell BK205.out 1).trans rfl, (blk_cell BK202.out 0).trans rfl, (blk_cell BK202.out 1).trans rfl, ((HB.out.cell (World.block_lt_of_cell? w _ hw207_0)).trans hw207_0), ((HB.out.cell (World.block_lt_of_cell? w _ hw207_1)).trans hw207_1)⟩ (fun hHeld => ?_); refine with_tabW impl_GoodWords.tab6 impl_GoodWords.bits6 (fun HT_ HW_ => ?_)
                generalize w37.drew = w38 at BK202 BK205 HB HR207_1 hx207_0 hx207_1 hHeld ⊢
                refine pZ 35 1 0 23 HT_ ?_
                refine tZ6 35 3 1 24 HT_ HW_ hHeld ?_
                refine one_ (i := 2) (N := some 25) (bq 35 7) rfl rfl (one_of HT_.out (by kernel_rfl)) (by decide) (fun K hK => ?_)
                refine gA Try.func89 #[.string ((rd_T102 l0_1 x18_2).f0)] ?_
                with_reducible refine (impl_isWord.calls k2 ((rd_T102 l0_1 x18_2).f0) true _ A13.out).mono ?_
                rintro e w' ⟨rfl, ⟨nd, rfl⟩⟩
                refine ⟨_, rfl, ?_⟩
                refine hK.out _ _ ⟨(blk_cell BK205.out 0).trans rfl, (blk_cell BK205.out 1).trans rfl, (blk_cell BK202.out 0).trans rfl, (blk_cell BK202.out 1).trans rfl, ((HB.out.cell (World.block_lt_of_cell? w _ hw207_0)).trans hw207_0), ((HB.out.cell (World.block_lt_of_cell? w _ hw207_1)).trans hw207_1)⟩ (fun hHeld => ?_)
                clear hK K
                refine nM 25 ?_
                refine pZ 35 15 3 26 HT_ ?_
                refine pZ 35 31 4 27 HT_ ?_
                refine pZ 35 63 5 28 HT_ ?_
                refine pZ 35 127 6 29 HT_ ?_
                refine pZ 35 255 7 30 HT_ ?_
                refine pZ 35 511 8 31 HT_ ?_
                refine pZ 35 1535 10 33 HT_ ?_
                refine pZ 35 3583 11 34 HT_ ?_
                refine pZ 35 36351 15 38 HT_ ?_
                refine tZ6 35 36863 9 32 HT_ HW_ hHeld ?_
                refine pZ 35 40959 12 35 HT_ ?_
                refine pZ 35 49151 13 36 HT_ ?_
                refine tZ6 35 65535 14 37 HT_ HW_ hHeld ?_
                refine tZ6 35 131071 16 39 HT_ HW_ hHeld ?_
                refine pZ 35 262143 17 40 HT_ ?_
                refine pZ 35 524287 18 41 HT_ ?_
                refine pZ 35 1048575 19 42 HT_ ?_
                refine pZ 35 2097151 20 43 HT_ ?_
                refine pZ 35 4194303 21 44 HT_ ?_
                refine tZ6 35 8388607 22 45 HT_ HW_ hHeld ?_
                refine pZ 35 16777215 23 46 HT_ ?_
                refine pZ 35 33554431 24 47 HT_ ?_
                refine pZ 35 67108863 25 48 HT_ ?_
                refine pZ 35 134217727 26 49 HT_ ?_
                refine pZ 35 268435455 27 50 HT_ ?_
                refine pZ 35 805306367 29 52 HT_ ?_
                refine tZ6 35 1073741823 28 51 HT_ HW_ hHeld ?_
                refine tZ6 35 2147483647 30 53 HT_ HW_ hHeld ?_
                refine pZ 35 4294967295 31 54 HT_ ?_
                refine one_ (i := 32) (N := some 55) (bq 35 8589934591) rfl rfl (one_of HT_.out (by kernel_rfl)) (by decide) (fun K hK => ?_)
                refine gA Try.func90 #[.slice A204_1 ((rd_T102 l0_1 x18_2).f1).length c204_1, .int .i64 (wrap64 (a0_0 - 1))] ?_
                with_reducible refine (impl_postingsOK.calls k2 _ _ ((rd_T102 l0_1 x18_2).f1) (wrap64 (a0_0 - 1)) false _ ?side1 ?side2 A26.out).mono ?_
                (case side1 => repeat (first | exact (Kd.C_below HR204_1.out (by repeat (first | (with_reducible first | exact HB.out | apply below_alloc | apply pw_below_drewN | apply below_drew1 | refine below_set ?_ GE202.out | refine below_set ?_ GE205.out) | exact HB.out))) | (with_reducible refine Kd.C_alloc ?_ _) | (with_reducible refine Kd.C_drewN ?_ _) | (with_reducible refine Kd.C_drew ?_)))
                (case side2 => exact HC204_1.out)
                rintro e w39 ⟨rfl, hb⟩
                refine ⟨_, rfl, ?_⟩
                have n0_ := aM (blk_below (g := gb202) (o := .cells #[.int .i64 a0_0, .slice (some ad204) l0_1.length c0_1] 33 (0, 0)) (by (with_reducible repeat (first | refine blk_drewN ?_ _ | refine blk_drew ?_ | refine blk_alloc ?_ _)); exact BK202.out) hb)
                have n1_ := aM (blk_below (g := gb205) (o := .cells #[.string ((rd_T102 l0_1 x18_2).f0), .slice A204_1 ((rd_T102 l0_1 x18_2).f1).length c204_1] 102 (0, 0)) (by (with_reducible repeat (first | refine blk_drewN ?_ _ | refine blk_drew ?_ | refine blk_alloc ?_ _)); exact BK205.out) hb)
                have n2_ := aM (below_step (by repeat (first | (with_reducible first | exact HB.out | apply below_alloc | apply pw_below_drewN | apply below_drew1 | refine below_set ?_ GE202.out | refine below_set ?_ GE205.out) | exact HB.out)) hb)
                clear BK202
                clear BK205
                clear HB
                have BK202 := n0_
                have BK205 := n1_
                have HB := n2_
                clear n0_ n1_ n2_
                (try clear hb)
                (try clear hb2)
                (try clear hk)
                (try clear hi)
                refine hK.out _ _ ⟨(blk_cell BK205.out 0).trans rfl, (blk_cell BK205.out 1).trans rfl, (blk_cell BK202.out 0).trans rfl, (blk_cell BK202.out 1).trans rfl, ((HB.out.cell (World.block_lt_of_cell? w _ hw207_0)).trans hw207_0), ((HB.out.cell (World.block_lt_of_cell? w _ hw207_1)).trans hw207_1)⟩ (fun hHeld => ?_)
                clear hK K
                refine nM 55 ?_
                refine pZ 35 17179869183 33 56 HT_ ?_
                refine pZ 35 34359738367 34 57 HT_ ?_
                refine done_ (done_of HT_.out (by kernel_rfl)) ?_
                try go_wp2
                go_ret
                exact ⟨by first | rfl | (simp [errW_none, errW_some] <;> rfl) | (simp only [← hji16]; first | rfl | (simp [errW_none, errW_some] <;> rfl)) | (simp [*, errW_none, errW_some] <;> rfl), by repeat (first | (with_reducible first | exact HB.out | apply below_alloc | apply pw_below_drewN | apply below_drew1 | refine below_set ?_ GE202.out | refine below_set ?_ GE205.out) | exact HB.out)⟩
             ·
              rw [if_neg c19] at H
              have c19b0 : (Op.bytesLess (((rd_T102 l0_1 (ji16)).f0).toList) (((rd_T102 l0_1 x18_2).f0).toList)) = false := by simpa using c19
              clear c19
              obtain rfl := Option.some.inj H
              have p204 : 0 ≤ (x18_2 : Int) := dT
              have q204 : x18_2 < (l0_1.length : Int) := dT
              obtain ⟨ad204, A204_1, c204_1, e204, hx204_0, hx204_1, hl204_1, hi204_1⟩ := at_T102 HR0_1.out x18_2 p204 q204
              cases e204
              try have hz_hx204_0 := aM hx204_0
              try have hz_hx204_1 := aM hx204_1
              replace hx204_0 := (HB.out.cell (World.block_lt_of_cell? w _ hx204_0)).trans hx204_0
              replace hx204_1 := (HB.out.cell (World.block_lt_of_cell? w _ hx204_1)).trans hx204_1
              have HR204_1 := aM hi204_1
              have HC204_1 := aM hl204_1
              clear hi204_1 hl204_1
              replace p204 := eq_true p204
              replace q204 := eq_true q204
              try go_wp2_with (first | ((with_reducible refine gate_dst (N := 4) rfl ?_); (try (refine gate_guard (by rfl) ?_; dsimp only)); refine box_event ?hg (N := 4) ?hd (cs := #[.string (⟨#[]⟩ : ByteArray), .slice none 0 0]) (t := 102) ?hr ?_; (case hd => rfl); (case hg => rfl); (case hr => first | (go_simp; done) | (go_simp; rfl)); intro gb205 hg w40 hbox hb; have n0_ := aM (blk_below (g := gb202) (o := .cells #[.int .i64 a0_0, .slice (some ad204) l0_1.length c0_1] 33 (0, 0)) (by (with_reducible repeat (first | refine blk_drewN ?_ _ | refine blk_drew ?_ | refine blk_alloc ?_ _)); exact BK202.out) hb); have n1_ := aM (below_step (by repeat (first | (with_reducible first | exact HB.out | apply below_alloc | apply pw_below_drewN | apply below_drew1 | refine below_set ?_ GE202.out) | exact HB.out)) hb); have n2_ := aM (hbox); have n3_ := aM ((by rw [hg]; exact (below_size (by repeat (first | (with_reducible first | exact HB.out | apply below_alloc | apply pw_below_drewN | apply below_drew1 | refine below_set ?_ GE202.out) | exact HB.out))) : w.heap.size ≤ gb205)); have n4_ := aM ((by rw [hg]; exact (below_size (by repeat (first | (with_reducible first | exact HB.out | apply below_alloc | apply pw_below_drewN | apply below_drew1 | refine below_set ?_ GE202.out) | exact HB.out))) : w.heap.size ≤ gb205)); have n5_ := aM ((by rw [hg]; exact Nat.ne_of_lt (blk_lt (g := gb202) (o := .cells #[.int .i64 a0_0, .slice (some ad204) l0_1.length c0_1] 33 (0, 0)) (by (with_reducible repeat (first | refine blk_drewN ?_ _ | refine blk_drew ?_ | refine blk_alloc ?_ _)); exact BK202.out)) : gb202 ≠ gb205)); have n6_ := aM ((by rw [hg]; exact Nat.ne_of_gt (blk_lt (g := gb202) (o := .cells #[.int .i64 a0_0, .slice (some ad204) l0_1.length c0_1] 33 (0, 0)) (by (with_reducible repeat (first | refine blk_drewN ?_ _ | refine blk_drew ?_ | refine blk_alloc ?_ _)); exact BK202.out)) : gb205 ≠ gb202)); clear BK202; clear HB; have BK202 := n0_; have HB := n1_; have BK205 := n2_; have GW205 := n3_; have GE205 := n4_; have NB202_205 := n5_; have NB205_202 := n6_; clear n0_ n1_ n2_ n3_ n4_ n5_ n6_; clear hb hbox hg; have hnb41 := NB205_202.out; have hnc41 := NB202_205.out; have hcz42_0 : w40.cell? ⟨gb205, 0, none⟩ = some (.string (⟨#[]⟩ : ByteArray)) := (blk_cell BK205.out 0).trans rfl; have hcz42_1 : w40.cell? ⟨gb205, 1, none⟩ = some (.slice none 0 0) := (blk_cell BK205.out 1).trans rfl; have hfz42_0 := blk_frozen BK205.out 0; have hfz42_1 := blk_frozen BK205.out 1))
              have n0_ : Aside0 (((w40.setCell ⟨gb205, 0, none⟩ (.string ((rd_T102 l0_1 x18_2).f0))).setCell ⟨gb205, 1, none⟩ (.slice A204_1 ((rd_T102 l0_1 x18_2).f1).length c204_1)).heap[gb202]? = some (.cells #[.int .i64 a0_0, .slice (some ad204) l0_1.length c0_1] 33 (0, 0))) := ⟨by (with_reducible repeat (first | refine blk_drewN ?_ _ | refine blk_drew ?_ | refine blk_alloc ?_ _)); refine blk_far ?_ NB202_205.out _; (with_reducible repeat (first | refine blk_drewN ?_ _ | refine blk_drew ?_ | refine blk_alloc ?_ _)); refine blk_far ?_ NB202_205.out _; (with_reducible repeat (first | refine blk_drewN ?_ _ | refine blk_drew ?_ | refine blk_alloc ?_ _)); exact BK202.out⟩
              have n1_ : Aside0 (((w40.setCell ⟨gb205, 0, none⟩ (.string ((rd_T102 l0_1 x18_2).f0))).setCell ⟨gb205, 1, none⟩ (.slice A204_1 ((rd_T102 l0_1 x18_2).f1).length c204_1)).heap[gb205]? = some (.cells #[.string ((rd_T102 l0_1 x18_2).f0), .slice A204_1 ((rd_T102 l0_1 x18_2).f1).length c204_1] 102 (0, 0))) := ⟨by (with_reducible repeat (first | refine blk_drewN ?_ _ | refine blk_drew ?_ | refine blk_alloc ?_ _)); refine blk_put (cs := #[.string ((rd_T102 l0_1 x18_2).f0), .slice none 0 0]) ?_ 1 _ rfl; (with_reducible repeat (first | refine blk_drewN ?_ _ | refine blk_drew ?_ | refine blk_alloc ?_ _)); refine blk_put (cs := #[.string (⟨#[]⟩ : ByteArray), .slice none 0 0]) ?_ 0 _ rfl; (with_reducible repeat (first | refine blk_drewN ?_ _ | refine blk_drew ?_ | refine blk_alloc ?_ _)); exact BK205.out⟩
              have n2_ : Aside0 (Below w.heap.size w ((w40.setCell ⟨gb205, 0, none⟩ (.string ((rd_T102 l0_1 x18_2).f0))).setCell ⟨gb205, 1, none⟩ (.slice A204_1 ((rd_T102 l0_1 x18_2).f1).length c204_1))) := ⟨by repeat (first | (with_reducible first | exact HB.out | apply below_alloc | apply pw_below_drewN | apply below_drew1 | refine below_set ?_ GE202.out | refine below_set ?_ GE205.out) | exact HB.out)⟩
              (try clear BK202)
              (try clear BK205)
              (try clear HB)
              generalize ((w40.setCell ⟨gb205, 0, none⟩ (.string ((rd_T102 l0_1 x18_2).f0))).setCell ⟨gb205, 1, none⟩ (.slice A204_1 ((rd_T102 l0_1 x18_2).f1).length c204_1)) = w43 at n0_ n1_ n2_ ⊢
              have BK202 := n0_
              have BK205 := n1_
              have HB := n2_
              clear n0_ n1_ n2_
              have n0_ := aM (blk_drew BK202.out)
              have n1_ := aM (blk_drew BK205.out)
              have n2_ := aM (below_drew1 HB.out)
              clear BK202
              clear BK205
              clear HB
              have BK202 := n0_
              have BK205 := n1_
              have HB := n2_
              clear n0_ n1_ n2_
              have p207 : 0 ≤ ((ji16) : Int) := dT
              have q207 : (ji16) < (l0_1.length : Int) := dT
              obtain ⟨ad207, A207_1, c207_1, e207, hx207_0, hx207_1, hl207_1, hi207_1⟩ := at_T102 HR0_1.out (ji16) p207 q207
              have hw207_1 := hx207_1
              have hw207_0 := hx207_0
              obtain rfl : ad204 = ad207 := (by injection e207)
              try have hz_hx207_0 := aM hx207_0
              try have hz_hx207_1 := aM hx207_1
              replace hx207_0 := (HB.out.cell (World.block_lt_of_cell? w _ hx207_0)).trans hx207_0
              replace hx207_1 := (HB.out.cell (World.block_lt_of_cell? w _ hx207_1)).trans hx207_1
              have HR207_1 := aM hi207_1
              have HC207_1 := aM hl207_1
              clear hi207_1 hl207_1
              replace p207 := eq_true p207
              replace q207 := eq_true q207
              refine start_ (n := 35) (S := fun w' => w'.cell? ⟨gb205, 0, none⟩ = some (.string ((rd_T102 l0_1 x18_2).f0)) ∧ w'.cell? ⟨gb205, 1, none⟩ = some (.slice A204_1 ((rd_T102 l0_1 x18_2).f1).length c204_1) ∧ w'.cell? ⟨gb202, 0, none⟩ = some (.int .i64 a0_0) ∧ w'.cell? ⟨gb202, 1, none⟩ = some (.slice (some ad204) l0_1.length c0_1) ∧ w'.cell? (ad204.add (((ji16)).toNat * 2)) = some (.string ((rd_T102 l0_1 (ji16)).f0)) ∧ w'.cell? ⟨(ad204.add (((ji16)).toNat * 2)).block, (ad204.add (((ji16)).toNat * 2)).off + 1, none⟩ = some (.slice A207_1 ((rd_T102 l0_1 (ji16)).f1).length c207_1)) (ds := []) (bq 35 0) (by kernel_rfl) rfl (by kernel_rfl) ⟨(blk_cell BK205.out 0).trans rfl, (blk_cell BK205.out 1).trans rfl, (blk_cell BK202.out 0).trans rfl, (blk_cell BK202.out 1).trans rfl, ((HB.out.cell (World.block_lt_of_cell? w _ hw207_0)).trans hw207_0), ((HB.out.cell (World.block_lt_of_cell? w _ hw207_1)).trans hw207_1)⟩ (fun hHeld => ?_); refine with_tabW impl_GoodWords.tab6 impl_GoodWords.bits6 (fun HT_ HW_ => ?_)
              generalize w43.drew = w44 at BK202 BK205 HB HR207_1 hx207_0 hx207_1 hHeld ⊢
              refine pZ 35 1 0 23 HT_ ?_
              refine tZ6 35 3 1 24 HT_ HW_ hHeld ?_
              refine one_ (i := 2) (N := some 25) (bq 35 7) rfl rfl (one_of HT_.out (by kernel_rfl)) (by decide) (fun K hK => ?_)
              refine gA Try.func89 #[.string ((rd_T102 l0_1 x18_2).f0)] ?_
              with_reducible refine (impl_isWord.calls k2 ((rd_T102 l0_1 x18_2).f0) true _ A13.out).mono ?_
              rintro e w' ⟨rfl, ⟨nd, rfl⟩⟩
              refine ⟨_, rfl, ?_⟩
              refine hK.out _ _ ⟨(blk_cell BK205.out 0).trans rfl, (blk_cell BK205.out 1).trans rfl, (blk_cell BK202.out 0).trans rfl, (blk_cell BK202.out 1).trans rfl, ((HB.out.cell (World.block_lt_of_cell? w _ hw207_0)).trans hw207_0), ((HB.out.cell (World.block_lt_of_cell? w _ hw207_1)).trans hw207_1)⟩ (fun hHeld => ?_)
              clear hK K
              refine nM 25 ?_
              refine pZ 35 15 3 26 HT_ ?_
              refine pZ 35 31 4 27 HT_ ?_
              refine pZ 35 63 5 28 HT_ ?_
              refine pZ 35 127 6 29 HT_ ?_
              refine pZ 35 255 7 30 HT_ ?_
              refine pZ 35 511 8 31 HT_ ?_
              refine pZ 35 1535 10 33 HT_ ?_
              refine pZ 35 3583 11 34 HT_ ?_
              refine pZ 35 36351 15 38 HT_ ?_
              refine tZ6 35 36863 9 32 HT_ HW_ hHeld ?_
              refine pZ 35 40959 12 35 HT_ ?_
              refine pZ 35 49151 13 36 HT_ ?_
              refine tZ6 35 65535 14 37 HT_ HW_ hHeld ?_
              refine tZ6 35 131071 16 39 HT_ HW_ hHeld ?_
              refine pZ 35 262143 17 40 HT_ ?_
              refine pZ 35 524287 18 41 HT_ ?_
              refine pZ 35 1048575 19 42 HT_ ?_
              refine pZ 35 2097151 20 43 HT_ ?_
              refine pY 35 4194303 21 44 HT_ ?_
              refine pY 35 8388607 22 45 HT_ ?_
              refine pY 35 16777215 23 46 HT_ ?_
              refine pY 35 33554431 24 47 HT_ ?_
              refine pZ 35 67108863 25 48 HT_ ?_
              refine pZ 35 134217727 26 49 HT_ ?_
              refine pY 35 268435455 27 50 HT_ ?_
              refine pY 35 536870911 28 51 HT_ ?_
              refine pY 35 1073741823 29 52 HT_ ?_
              refine pY 35 2147483647 30 53 HT_ ?_
              refine pY 35 4294967295 31 54 HT_ ?_
              refine pY 35 8589934591 32 55 HT_ ?_
              refine pY 35 17179869183 33 56 HT_ ?_
              refine pZ 35 34359738367 34 57 HT_ ?_
              refine done_ (done_of HT_.out (by kernel_rfl)) ?_
              try go_wp2
              go_ret
              exact ⟨by first | rfl | (simp [errW_none, errW_some] <;> rfl) | (simp only [← hji16]; first | rfl | (simp [errW_none, errW_some] <;> rfl)) | (simp [*, errW_none, errW_some] <;> rfl), by repeat (first | (with_reducible first | exact HB.out | apply below_alloc | apply pw_below_drewN | apply below_drew1 | refine below_set ?_ GE202.out | refine below_set ?_ GE205.out) | exact HB.out)⟩
            ·
             rw [if_neg c18] at H
             exact absurd H (by simp)
           ·
            rw [if_neg c17] at H
            exact absurd H (by simp)
          ·
           rw [if_neg c15] at H
           have c15b0 : decide (0 < x18_2) = false := decide_eq_false c15
           clear c15
           by_cases c45 : (((rd_T102 l0_1 x18_2).f1).length : Int) = 0
           ·
            rw [if_pos c45] at H
            have c45b0 : ((((rd_T102 l0_1 x18_2).f1).length : Int) == 0) = true := beq_iff_eq.mpr c45
            have c45b1 : ((((rd_T102 l0_1 x18_2).f1).length : Int) != 0) = false := bne_eq_false_iff_eq.mpr c45
            clear c45
            obtain rfl := Option.some.inj H
            have p204 : 0 ≤ (x18_2 : Int) := dT
            have q204 : x18_2 < (l0_1.length : Int) := dT
            obtain ⟨ad204, A204_1, c204_1, e204, hx204_0, hx204_1, hl204_1, hi204_1⟩ := at_T102 HR0_1.out x18_2 p204 q204
            cases e204
            try have hz_hx204_0 := aM hx204_0
            try have hz_hx204_1 := aM hx204_1
            replace hx204_0 := (HB.out.cell (World.block_lt_of_cell? w _ hx204_0)).trans hx204_0
            replace hx204_1 := (HB.out.cell (World.block_lt_of_cell? w _ hx204_1)).trans hx204_1
            have HR204_1 := aM hi204_1
            have HC204_1 := aM hl204_1
            clear hi204_1 hl204_1
            replace p204 := eq_true p204
            replace q204 := eq_true q204
            try go_wp2_with (first | ((with_reducible refine gate_dst (N := 4) rfl ?_); (try (refine gate_guard (by rfl) ?_; dsimp only)); refine box_event ?hg (N := 4) ?hd (cs := #[.string (⟨#[]⟩ : ByteArray), .slice none 0 0]) (t := 102) ?hr ?_; (case hd => rfl); (case hg => rfl); (case hr => first | (go_simp; done) | (go_simp; rfl)); intro gb205 hg w46 hbox hb; have n0_ := aM (blk_below (g := gb202) (o := .cells #[.int .i64 a0_0, .slice (some ad204) l0_1.length c0_1] 33 (0, 0)) (by (with_reducible repeat (first | refine blk_drewN ?_ _ | refine blk_drew ?_ | refine blk_alloc ?_ _)); exact BK202.out) hb); have n1_ := aM (below_step (by repeat (first | (with_reducible first | exact HB.out | apply below_alloc | apply pw_below_drewN | apply below_drew1 | refine below_set ?_ GE202.out) | exact HB.out)) hb); have n2_ := aM (hbox); have n3_ := aM ((by rw [hg]; exact (below_size (by repeat (first | (with_reducible first | exact HB.out | apply below_alloc | apply pw_below_drewN | apply below_drew1 | refine below_set ?_ GE202.out) | exact HB.out))) : w.heap.size ≤ gb205)); have n4_ := aM ((by rw [hg]; exact (below_size (by repeat (first | (with_reducible first | exact HB.out | apply below_alloc | apply pw_below_drewN | apply below_drew1 | refine below_set ?_ GE202.out) | exact HB.out))) : w.heap.size ≤ gb205)); have n5_ := aM ((by rw [hg]; exact Nat.ne_of_lt (blk_lt (g := gb202) (o := .cells #[.int .i64 a0_0, .slice (some ad204) l0_1.length c0_1] 33 (0, 0)) (by (with_reducible repeat (first | refine blk_drewN ?_ _ | refine blk_drew ?_ | refine blk_alloc ?_ _)); exact BK202.out)) : gb202 ≠ gb205)); have n6_ := aM ((by rw [hg]; exact Nat.ne_of_gt (blk_lt (g := gb202) (o := .cells #[.int .i64 a0_0, .slice (some ad204) l0_1.length c0_1] 33 (0, 0)) (by (with_reducible repeat (first | refine blk_drewN ?_ _ | refine blk_drew ?_ | refine blk_alloc ?_ _)); exact BK202.out)) : gb205 ≠ gb202)); clear BK202; clear HB; have BK202 := n0_; have HB := n1_; have BK205 := n2_; have GW205 := n3_; have GE205 := n4_; have NB202_205 := n5_; have NB205_202 := n6_; clear n0_ n1_ n2_ n3_ n4_ n5_ n6_; clear hb hbox hg; have hnb47 := NB205_202.out; have hnc47 := NB202_205.out; have hcz48_0 : w46.cell? ⟨gb205, 0, none⟩ = some (.string (⟨#[]⟩ : ByteArray)) := (blk_cell BK205.out 0).trans rfl; have hcz48_1 : w46.cell? ⟨gb205, 1, none⟩ = some (.slice none 0 0) := (blk_cell BK205.out 1).trans rfl; have hfz48_0 := blk_frozen BK205.out 0; have hfz48_1 := blk_frozen BK205.out 1))
            have n0_ : Aside0 (((w46.setCell ⟨gb205, 0, none⟩ (.string ((rd_T102 l0_1 x18_2).f0))).setCell ⟨gb205, 1, none⟩ (.slice A204_1 ((rd_T102 l0_1 x18_2).f1).length c204_1)).heap[gb202]? = some (.cells #[.int .i64 a0_0, .slice (some ad204) l0_1.length c0_1] 33 (0, 0))) := ⟨by (with_reducible repeat (first | refine blk_drewN ?_ _ | refine blk_drew ?_ | refine blk_alloc ?_ _)); refine blk_far ?_ NB202_205.out _; (with_reducible repeat (first | refine blk_drewN ?_ _ | refine blk_drew ?_ | refine blk_alloc ?_ _)); refine blk_far ?_ NB202_205.out _; (with_reducible repeat (first | refine blk_drewN ?_ _ | refine blk_drew ?_ | refine blk_alloc ?_ _)); exact BK202.out⟩
            have n1_ : Aside0 (((w46.setCell ⟨gb205, 0, none⟩ (.string ((rd_T102 l0_1 x18_2).f0))).setCell ⟨gb205, 1, none⟩ (.slice A204_1 ((rd_T102 l0_1 x18_2).f1).length c204_1)).heap[gb205]? = some (.cells #[.string ((rd_T102 l0_1 x18_2).f0), .slice A204_1 ((rd_T102 l0_1 x18_2).f1).length c204_1] 102 (0, 0))) := ⟨by (with_reducible repeat (first | refine blk_drewN ?_ _ | refine blk_drew ?_ | refine blk_alloc ?_ _)); refine blk_put (cs := #[.string ((rd_T102 l0_1 x18_2).f0), .slice none 0 0]) ?_ 1 _ rfl; (with_reducible repeat (first | refine blk_drewN ?_ _ | refine blk_drew ?_ | refine blk_alloc ?_ _)); refine blk_put (cs := #[.string (⟨#[]⟩ : ByteArray), .slice none 0 0]) ?_ 0 _ rfl; (with_reducible repeat (first | refine blk_drewN ?_ _ | refine blk_drew ?_ | refine blk_alloc ?_ _)); exact BK205.out⟩
            have n2_ : Aside0 (Below w.heap.size w ((w46.setCell ⟨gb205, 0, none⟩ (.string ((rd_T102 l0_1 x18_2).f0))).setCell ⟨gb205, 1, none⟩ (.slice A204_1 ((rd_T102 l0_1 x18_2).f1).length c204_1))) := ⟨by repeat (first | (with_reducible first | exact HB.out | apply below_alloc | apply pw_below_drewN | apply below_drew1 | refine below_set ?_ GE202.out | refine below_set ?_ GE205.out) | exact HB.out)⟩
            (try clear BK202)
            (try clear BK205)
            (try clear HB)
            generalize ((w46.setCell ⟨gb205, 0, none⟩ (.string ((rd_T102 l0_1 x18_2).f0))).setCell ⟨gb205, 1, none⟩ (.slice A204_1 ((rd_T102 l0_1 x18_2).f1).length c204_1)) = w49 at n0_ n1_ n2_ ⊢
            have BK202 := n0_
            have BK205 := n1_
            have HB := n2_
            clear n0_ n1_ n2_
            have n0_ := aM (blk_drew BK202.out)
            have n1_ := aM (blk_drew BK205.out)
            have n2_ := aM (below_drew1 HB.out)
            clear BK202
            clear BK205
            clear HB
            have BK202 := n0_
            have BK205 := n1_
            have HB := n2_
            clear n0_ n1_ n2_
            refine start_ (n := 35) (S := fun w' => w'.cell? ⟨gb205, 0, none⟩ = some (.string ((rd_T102 l0_1 x18_2).f0)) ∧ w'.cell? ⟨gb205, 1, none⟩ = some (.slice A204_1 ((rd_T102 l0_1 x18_2).f1).length c204_1)) (ds := []) (bq 35 0) (by kernel_rfl) rfl (by kernel_rfl) ⟨(blk_cell BK205.out 0).trans rfl, (blk_cell BK205.out 1).trans rfl⟩ (fun hHeld => ?_); refine with_tabW impl_GoodWords.tab6 impl_GoodWords.bits6 (fun HT_ HW_ => ?_)
            generalize w49.drew = w50 at BK202 BK205 HB hHeld ⊢
            refine pZ 35 1 0 23 HT_ ?_
            refine tZ2 35 3 1 24 HT_ HW_ hHeld ?_
            refine one_ (i := 2) (N := some 25) (bq 35 7) rfl rfl (one_of HT_.out (by kernel_rfl)) (by decide) (fun K hK => ?_)
            refine gA Try.func89 #[.string ((rd_T102 l0_1 x18_2).f0)] ?_
            with_reducible refine (impl_isWord.calls k2 ((rd_T102 l0_1 x18_2).f0) true _ A13.out).mono ?_
            rintro e w' ⟨rfl, ⟨nd, rfl⟩⟩
            refine ⟨_, rfl, ?_⟩
            refine hK.out _ _ ⟨(blk_cell BK205.out 0).trans rfl, (blk_cell BK205.out 1).trans rfl⟩ (fun hHeld => ?_)
            clear hK K
            refine nM 25 ?_
            refine pZ 35 15 3 26 HT_ ?_
            refine pZ 35 31 4 27 HT_ ?_
            refine pZ 35 63 5 28 HT_ ?_
            refine pZ 35 127 6 29 HT_ ?_
            refine pZ 35 255 7 30 HT_ ?_
            refine pY 35 511 8 31 HT_ ?_
            refine pY 35 1023 9 32 HT_ ?_
            refine pY 35 2047 10 33 HT_ ?_
            refine pY 35 4095 11 34 HT_ ?_
            refine pY 35 8191 12 35 HT_ ?_
            refine pY 35 16383 13 36 HT_ ?_
            refine pY 35 32767 14 37 HT_ ?_
            refine pY 35 65535 15 38 HT_ ?_
            refine pY 35 131071 16 39 HT_ ?_
            refine pY 35 262143 17 40 HT_ ?_
            refine pZ 35 524287 18 41 HT_ ?_
            refine pZ 35 1048575 19 42 HT_ ?_
            refine pZ 35 2097151 20 43 HT_ ?_
            refine pZ 35 4194303 21 44 HT_ ?_
            refine tZ2 35 8388607 22 45 HT_ HW_ hHeld ?_
            refine pZ 35 16777215 23 46 HT_ ?_
            refine pZ 35 33554431 24 47 HT_ ?_
            refine pZ 35 67108863 25 48 HT_ ?_
            refine pZ 35 134217727 26 49 HT_ ?_
            refine pY 35 268435455 27 50 HT_ ?_
            refine pY 35 536870911 28 51 HT_ ?_
            refine pY 35 1073741823 29 52 HT_ ?_
            refine pY 35 2147483647 30 53 HT_ ?_
            refine pY 35 4294967295 31 54 HT_ ?_
            refine pY 35 8589934591 32 55 HT_ ?_
            refine pY 35 17179869183 33 56 HT_ ?_
            refine pZ 35 34359738367 34 57 HT_ ?_
            refine done_ (done_of HT_.out (by kernel_rfl)) ?_
            try go_wp2
            go_ret
            exact ⟨eR, by repeat (first | (with_reducible first | exact HB.out | apply below_alloc | apply pw_below_drewN | apply below_drew1 | refine below_set ?_ GE202.out | refine below_set ?_ GE205.out) | exact HB.out)⟩
           ·
            rw [if_neg c45] at H
            have c45b0 : ((((rd_T102 l0_1 x18_2).f1).length : Int) == 0) = false := beq_eq_false_iff_ne.mpr c45
            have c45b1 : ((((rd_T102 l0_1 x18_2).f1).length : Int) != 0) = true := bne_iff_ne.mpr c45
            have c45b2 : ¬ (((rd_T102 l0_1 x18_2).f1) = []) := fun h_ => c45 (by rw [h_]; rfl)
            replace H := Option.bind_eq_some_iff.mp H
            obtain ⟨t209, A510, H⟩ := H
            replace H : (if t209 = true then (impl_GoodWords.l0 k2 l0_1 (l0_1.length : Int) (wrap64 (x18_2 + 1)) a0_0 l0_1) else (some false)) = some r := H
            have A51 := aM A510
            clear A510
            by_cases c52 : t209 = true
            ·
             subst c52
             have H1 : (impl_GoodWords.l0 k2 l0_1 (l0_1.length : Int) (wrap64 (x18_2 + 1)) a0_0 l0_1) = some r := by rw [if_pos rfl] at H; exact H
             clear H
             have H := H1
             clear H1
             have H' := aM H
             clear H
             have p204 : 0 ≤ (x18_2 : Int) := dT
             have q204 : x18_2 < (l0_1.length : Int) := dT
             obtain ⟨ad204, A204_1, c204_1, e204, hx204_0, hx204_1, hl204_1, hi204_1⟩ := at_T102 HR0_1.out x18_2 p204 q204
             cases e204
             try have hz_hx204_0 := aM hx204_0
             try have hz_hx204_1 := aM hx204_1
             replace hx204_0 := (HB.out.cell (World.block_lt_of_cell? w _ hx204_0)).trans hx204_0
             replace hx204_1 := (HB.out.cell (World.block_lt_of_cell? w _ hx204_1)).trans hx204_1
             have HR204_1 := aM hi204_1
             have HC204_1 := aM hl204_1
             clear hi204_1 hl204_1
             replace p204 := eq_true p204
             replace q204 := eq_true q204
             try go_wp2_with (first | ((with_reducible refine gate_dst (N := 4) rfl ?_); (try (refine gate_guard (by rfl) ?_; dsimp only)); refine box_event ?hg (N := 4) ?hd (cs := #[.string (⟨#[]⟩ : ByteArray), .slice none 0 0]) (t := 102) ?hr ?_; (case hd => rfl); (case hg => rfl); (case hr => first | (go_simp; done) | (go_simp; rfl)); intro gb205 hg w53 hbox hb; have n0_ := aM (blk_below (g := gb202) (o := .cells #[.int .i64 a0_0, .slice (some ad204) l0_1.length c0_1] 33 (0, 0)) (by (with_reducible repeat (first | refine blk_drewN ?_ _ | refine blk_drew ?_ | refine blk_alloc ?_ _)); exact BK202.out) hb); have n1_ := aM (below_step (by repeat (first | (with_reducible first | exact HB.out | apply below_alloc | apply pw_below_drewN | apply below_drew1 | refine below_set ?_ GE202.out) | exact HB.out)) hb); have n2_ := aM (hbox); have n3_ := aM ((by rw [hg]; exact (below_size (by repeat (first | (with_reducible first | exact HB.out | apply below_alloc | apply pw_below_drewN | apply below_drew1 | refine below_set ?_ GE202.out) | exact HB.out))) : w.heap.size ≤ gb205)); have n4_ := aM ((by rw [hg]; exact (below_size (by repeat (first | (with_reducible first | exact HB.out | apply below_alloc | apply pw_below_drewN | apply below_drew1 | refine below_set ?_ GE202.out) | exact HB.out))) : w.heap.size ≤ gb205)); have n5_ := aM ((by rw [hg]; exact Nat.ne_of_lt (blk_lt (g := gb202) (o := .cells #[.int .i64 a0_0, .slice (some ad204) l0_1.length c0_1] 33 (0, 0)) (by (with_reducible repeat (first | refine blk_drewN ?_ _ | refine blk_drew ?_ | refine blk_alloc ?_ _)); exact BK202.out)) : gb202 ≠ gb205)); have n6_ := aM ((by rw [hg]; exact Nat.ne_of_gt (blk_lt (g := gb202) (o := .cells #[.int .i64 a0_0, .slice (some ad204) l0_1.length c0_1] 33 (0, 0)) (by (with_reducible repeat (first | refine blk_drewN ?_ _ | refine blk_drew ?_ | refine blk_alloc ?_ _)); exact BK202.out)) : gb205 ≠ gb202)); clear BK202; clear HB; have BK202 := n0_; have HB := n1_; have BK205 := n2_; have GW205 := n3_; have GE205 := n4_; have NB202_205 := n5_; have NB205_202 := n6_; clear n0_ n1_ n2_ n3_ n4_ n5_ n6_; clear hb hbox hg; have hnb54 := NB205_202.out; have hnc54 := NB202_205.out; have hcz55_0 : w53.cell? ⟨gb205, 0, none⟩ = some (.string (⟨#[]⟩ : ByteArray)) := (blk_cell BK205.out 0).trans rfl; have hcz55_1 : w53.cell? ⟨gb205, 1, none⟩ = some (.slice none 0 0) := (blk_cell BK205.out 1).trans rfl; have hfz55_0 := blk_frozen BK205.out 0; have hfz55_1 := blk_frozen BK205.out 1))
             have n0_ : Aside0 (((w53.setCell ⟨gb205, 0, none⟩ (.string ((rd_T102 l0_1 x18_2).f0))).setCell ⟨gb205, 1, none⟩ (.slice A204_1 ((rd_T102 l0_1 x18_2).f1).length c204_1)).heap[gb202]? = some (.cells #[.int .i64 a0_0, .slice (some ad204) l0_1.length c0_1] 33 (0, 0))) := ⟨by (with_reducible repeat (first | refine blk_drewN ?_ _ | refine blk_drew ?_ | refine blk_alloc ?_ _)); refine blk_far ?_ NB202_205.out _; (with_reducible repeat (first | refine blk_drewN ?_ _ | refine blk_drew ?_ | refine blk_alloc ?_ _)); refine blk_far ?_ NB202_205.out _; (with_reducible repeat (first | refine blk_drewN ?_ _ | refine blk_drew ?_ | refine blk_alloc ?_ _)); exact BK202.out⟩
             have n1_ : Aside0 (((w53.setCell ⟨gb205, 0, none⟩ (.string ((rd_T102 l0_1 x18_2).f0))).setCell ⟨gb205, 1, none⟩ (.slice A204_1 ((rd_T102 l0_1 x18_2).f1).length c204_1)).heap[gb205]? = some (.cells #[.string ((rd_T102 l0_1 x18_2).f0), .slice A204_1 ((rd_T102 l0_1 x18_2).f1).length c204_1] 102 (0, 0))) := ⟨by (with_reducible repeat (first | refine blk_drewN ?_ _ | refine blk_drew ?_ | refine blk_alloc ?_ _)); refine blk_put (cs := #[.string ((rd_T102 l0_1 x18_2).f0), .slice none 0 0]) ?_ 1 _ rfl; (with_reducible repeat (first | refine blk_drewN ?_ _ | refine blk_drew ?_ | refine blk_alloc ?_ _)); refine blk_put (cs := #[.string (⟨#[]⟩ : ByteArray), .slice none 0 0]) ?_ 0 _ rfl; (with_reducible repeat (first | refine blk_drewN ?_ _ | refine blk_drew ?_ | refine blk_alloc ?_ _)); exact BK205.out⟩
             have n2_ : Aside0 (Below w.heap.size w ((w53.setCell ⟨gb205, 0, none⟩ (.string ((rd_T102 l0_1 x18_2).f0))).setCell ⟨gb205, 1, none⟩ (.slice A204_1 ((rd_T102 l0_1 x18_2).f1).length c204_1))) := ⟨by repeat (first | (with_reducible first | exact HB.out | apply below_alloc | apply pw_below_drewN | apply below_drew1 | refine below_set ?_ GE202.out | refine below_set ?_ GE205.out) | exact HB.out)⟩
             (try clear BK202)
             (try clear BK205)
             (try clear HB)
             generalize ((w53.setCell ⟨gb205, 0, none⟩ (.string ((rd_T102 l0_1 x18_2).f0))).setCell ⟨gb205, 1, none⟩ (.slice A204_1 ((rd_T102 l0_1 x18_2).f1).length c204_1)) = w56 at n0_ n1_ n2_ ⊢
             have BK202 := n0_
             have BK205 := n1_
             have HB := n2_
             clear n0_ n1_ n2_
             have n0_ := aM (blk_drew BK202.out)
             have n1_ := aM (blk_drew BK205.out)
             have n2_ := aM (below_drew1 HB.out)
             clear BK202
             clear BK205
             clear HB
             have BK202 := n0_
             have BK205 := n1_
             have HB := n2_
             clear n0_ n1_ n2_
             refine start_ (n := 35) (S := fun w' => w'.cell? ⟨gb205, 0, none⟩ = some (.string ((rd_T102 l0_1 x18_2).f0)) ∧ w'.cell? ⟨gb205, 1, none⟩ = some (.slice A204_1 ((rd_T102 l0_1 x18_2).f1).length c204_1) ∧ w'.cell? ⟨gb202, 0, none⟩ = some (.int .i64 a0_0) ∧ w'.cell? ⟨gb202, 1, none⟩ = some (.slice (some ad204) l0_1.length c0_1)) (ds := []) (bq 35 0) (by kernel_rfl) rfl (by kernel_rfl) ⟨(blk_cell BK205.out 0).trans rfl, (blk_cell BK205.out 1).trans rfl, (blk_cell BK202.out 0).trans rfl, (blk_cell BK202.out 1).trans rfl⟩ (fun hHeld => ?_); refine with_tabW impl_GoodWords.tab6 impl_GoodWords.bits6 (fun HT_ HW_ => ?_)
             generalize w56.drew = w57 at BK202 BK205 HB hHeld ⊢
             refine pZ 35 1 0 23 HT_ ?_
             refine tZ4 35 3 1 24 HT_ HW_ hHeld ?_
             refine one_ (i := 2) (N := some 25) (bq 35 7) rfl rfl (one_of HT_.out (by kernel_rfl)) (by decide) (fun K hK => ?_)
             refine gA Try.func89 #[.string ((rd_T102 l0_1 x18_2).f0)] ?_
             with_reducible refine (impl_isWord.calls k2 ((rd_T102 l0_1 x18_2).f0) true _ A13.out).mono ?_
             rintro e w' ⟨rfl, ⟨nd, rfl⟩⟩
             refine ⟨_, rfl, ?_⟩
             refine hK.out _ _ ⟨(blk_cell BK205.out 0).trans rfl, (blk_cell BK205.out 1).trans rfl, (blk_cell BK202.out 0).trans rfl, (blk_cell BK202.out 1).trans rfl⟩ (fun hHeld => ?_)
             clear hK K
             refine nM 25 ?_
             refine pZ 35 15 3 26 HT_ ?_
             refine pZ 35 31 4 27 HT_ ?_
             refine pZ 35 63 5 28 HT_ ?_
             refine pZ 35 127 6 29 HT_ ?_
             refine pZ 35 255 7 30 HT_ ?_
             refine pY 35 511 8 31 HT_ ?_
             refine pY 35 1023 9 32 HT_ ?_
             refine pY 35 2047 10 33 HT_ ?_
             refine pY 35 4095 11 34 HT_ ?_
             refine pY 35 8191 12 35 HT_ ?_
             refine pY 35 16383 13 36 HT_ ?_
             refine pY 35 32767 14 37 HT_ ?_
             refine pY 35 65535 15 38 HT_ ?_
             refine pY 35 131071 16 39 HT_ ?_
             refine pY 35 262143 17 40 HT_ ?_
             refine pZ 35 524287 18 41 HT_ ?_
             refine pZ 35 1048575 19 42 HT_ ?_
             refine pZ 35 2097151 20 43 HT_ ?_
             refine pZ 35 4194303 21 44 HT_ ?_
             refine tZ4 35 8388607 22 45 HT_ HW_ hHeld ?_
             refine pZ 35 16777215 23 46 HT_ ?_
             refine pZ 35 33554431 24 47 HT_ ?_
             refine pZ 35 67108863 25 48 HT_ ?_
             refine pZ 35 134217727 26 49 HT_ ?_
             refine pZ 35 268435455 27 50 HT_ ?_
             refine pZ 35 805306367 29 52 HT_ ?_
             refine tZ4 35 1073741823 28 51 HT_ HW_ hHeld ?_
             refine tZ4 35 2147483647 30 53 HT_ HW_ hHeld ?_
             refine pZ 35 4294967295 31 54 HT_ ?_
             refine one_ (i := 32) (N := some 55) (bq 35 8589934591) rfl rfl (one_of HT_.out (by kernel_rfl)) (by decide) (fun K hK => ?_)
             refine gA Try.func90 #[.slice A204_1 ((rd_T102 l0_1 x18_2).f1).length c204_1, .int .i64 (wrap64 (a0_0 - 1))] ?_
             with_reducible refine (impl_postingsOK.calls k2 _ _ ((rd_T102 l0_1 x18_2).f1) (wrap64 (a0_0 - 1)) true _ ?side1 ?side2 A51.out).mono ?_
             (case side1 => repeat (first | exact (Kd.C_below HR204_1.out (by repeat (first | (with_reducible first | exact HB.out | apply below_alloc | apply pw_below_drewN | apply below_drew1 | refine below_set ?_ GE202.out | refine below_set ?_ GE205.out) | exact HB.out))) | (with_reducible refine Kd.C_alloc ?_ _) | (with_reducible refine Kd.C_drewN ?_ _) | (with_reducible refine Kd.C_drew ?_)))
             (case side2 => exact HC204_1.out)
             rintro e w58 ⟨rfl, hb⟩
             refine ⟨_, rfl, ?_⟩
             have n0_ := aM (blk_below (g := gb202) (o := .cells #[.int .i64 a0_0, .slice (some ad204) l0_1.length c0_1] 33 (0, 0)) (by (with_reducible repeat (first | refine blk_drewN ?_ _ | refine blk_drew ?_ | refine blk_alloc ?_ _)); exact BK202.out) hb)
             have n1_ := aM (blk_below (g := gb205) (o := .cells #[.string ((rd_T102 l0_1 x18_2).f0), .slice A204_1 ((rd_T102 l0_1 x18_2).f1).length c204_1] 102 (0, 0)) (by (with_reducible repeat (first | refine blk_drewN ?_ _ | refine blk_drew ?_ | refine blk_alloc ?_ _)); exact BK205.out) hb)
             have n2_ := aM (below_step (by repeat (first | (with_reducible first | exact HB.out | apply below_alloc | apply pw_below_drewN | apply below_drew1 | refine below_set ?_ GE202.out | refine below_set ?_ GE205.out) | exact HB.out)) hb)
             clear BK202
             clear BK205
             clear HB
             have BK202 := n0_
             have BK205 := n1_
             have HB := n2_
             clear n0_ n1_ n2_
             (try clear hb)
             (try clear hb2)
             (try clear hk)
             (try clear hi)
             refine hK.out _ _ ⟨(blk_cell BK205.out 0).trans rfl, (blk_cell BK205.out 1).trans rfl, (blk_cell BK202.out 0).trans rfl, (blk_cell BK202.out 1).trans rfl⟩ (fun hHeld => ?_)
             clear hK K
             refine nM 55 ?_
             refine pZ 35 17179869183 33 56 HT_ ?_
             refine pZ 35 34359738367 34 57 HT_ ?_
             refine done_ (done_of HT_.out (by kernel_rfl)) ?_
             try go_wp2
             go_roundg k2
             case measure => have := HJ1.out; have := HK2.out; omega
             case rel => exact ⟨(wrap64 (x18_2 + 1)), (by first | rfl | (simp; done) | (simp [*]; done)), H', ⟨by have := HJ1.out; have := HK2.out; omega⟩, ⟨by (with_reducible repeat (first | refine blk_drewN ?_ _ | refine blk_drew ?_ | refine blk_alloc ?_ _)); exact BK202.out⟩, ⟨by repeat (first | (with_reducible first | exact HB.out | apply below_alloc | apply pw_below_drewN | apply below_drew1 | refine below_set ?_ GE202.out | refine below_set ?_ GE205.out) | exact HB.out)⟩⟩
            ·
             replace c52 := Bool.eq_false_iff.mpr c52
             subst c52
             have H1 : (some false) = some r := by rw [if_neg (show ¬ (false = true) by decide)] at H; exact H
             clear H
             have H := H1
             clear H1
             obtain rfl := Option.some.inj H
             have p204 : 0 ≤ (x18_2 : Int) := dT
             have q204 : x18_2 < (l0_1.length : Int) := dT
             obtain ⟨ad204, A204_1, c204_1, e204, hx204_0, hx204_1, hl204_1, hi204_1⟩ := at_T102 HR0_1.out x18_2 p204 q204
             cases e204
             try have hz_hx204_0 := aM hx204_0
             try have hz_hx204_1 := aM hx204_1
             replace hx204_0 := (HB.out.cell (World.block_lt_of_cell? w _ hx204_0)).trans hx204_0
             replace hx204_1 := (HB.out.cell (World.block_lt_of_cell? w _ hx204_1)).trans hx204_1
             have HR204_1 := aM hi204_1
             have HC204_1 := aM hl204_1
             clear hi204_1 hl204_1
             replace p204 := eq_true p204
             replace q204 := eq_true q204
             try go_wp2_with (first | ((with_reducible refine gate_dst (N := 4) rfl ?_); (try (refine gate_guard (by rfl) ?_; dsimp only)); refine box_event ?hg (N := 4) ?hd (cs := #[.string (⟨#[]⟩ : ByteArray), .slice none 0 0]) (t := 102) ?hr ?_; (case hd => rfl); (case hg => rfl); (case hr => first | (go_simp; done) | (go_simp; rfl)); intro gb205 hg w59 hbox hb; have n0_ := aM (blk_below (g := gb202) (o := .cells #[.int .i64 a0_0, .slice (some ad204) l0_1.length c0_1] 33 (0, 0)) (by (with_reducible repeat (first | refine blk_drewN ?_ _ | refine blk_drew ?_ | refine blk_alloc ?_ _)); exact BK202.out) hb); have n1_ := aM (below_step (by repeat (first | (with_reducible first | exact HB.out | apply below_alloc | apply pw_below_drewN | apply below_drew1 | refine below_set ?_ GE202.out) | exact HB.out)) hb); have n2_ := aM (hbox); have n3_ := aM ((by rw [hg]; exact (below_size (by repeat (first | (with_reducible first | exact HB.out | apply below_alloc | apply pw_below_drewN | apply below_drew1 | refine below_set ?_ GE202.out) | exact HB.out))) : w.heap.size ≤ gb205)); have n4_ := aM ((by rw [hg]; exact (below_size (by repeat (first | (with_reducible first | exact HB.out | apply below_alloc | apply pw_below_drewN | apply below_drew1 | refine below_set ?_ GE202.out) | exact HB.out))) : w.heap.size ≤ gb205)); have n5_ := aM ((by rw [hg]; exact Nat.ne_of_lt (blk_lt (g := gb202) (o := .cells #[.int .i64 a0_0, .slice (some ad204) l0_1.length c0_1] 33 (0, 0)) (by (with_reducible repeat (first | refine blk_drewN ?_ _ | refine blk_drew ?_ | refine blk_alloc ?_ _)); exact BK202.out)) : gb202 ≠ gb205)); have n6_ := aM ((by rw [hg]; exact Nat.ne_of_gt (blk_lt (g := gb202) (o := .cells #[.int .i64 a0_0, .slice (some ad204) l0_1.length c0_1] 33 (0, 0)) (by (with_reducible repeat (first | refine blk_drewN ?_ _ | refine blk_drew ?_ | refine blk_alloc ?_ _)); exact BK202.out)) : gb205 ≠ gb202)); clear BK202; clear HB; have BK202 := n0_; have HB := n1_; have BK205 := n2_; have GW205 := n3_; have GE205 := n4_; have NB202_205 := n5_; have NB205_202 := n6_; clear n0_ n1_ n2_ n3_ n4_ n5_ n6_; clear hb hbox hg; have hnb60 := NB205_202.out; have hnc60 := NB202_205.out; have hcz61_0 : w59.cell? ⟨gb205, 0, none⟩ = some (.string (⟨#[]⟩ : ByteArray)) := (blk_cell BK205.out 0).trans rfl; have hcz61_1 : w59.cell? ⟨gb205, 1, none⟩ = some (.slice none 0 0) := (blk_cell BK205.out 1).trans rfl; have hfz61_0 := blk_frozen BK205.out 0; have hfz61_1 := blk_frozen BK205.out 1))
             have n0_ : Aside0 (((w59.setCell ⟨gb205, 0, none⟩ (.string ((rd_T102 l0_1 x18_2).f0))).setCell ⟨gb205, 1, none⟩ (.slice A204_1 ((rd_T102 l0_1 x18_2).f1).length c204_1)).heap[gb202]? = some (.cells #[.int .i64 a0_0, .slice (some ad204) l0_1.length c0_1] 33 (0, 0))) := ⟨by (with_reducible repeat (first | refine blk_drewN ?_ _ | refine blk_drew ?_ | refine blk_alloc ?_ _)); refine blk_far ?_ NB202_205.out _; (with_reducible repeat (first | refine blk_drewN ?_ _ | refine blk_drew ?_ | refine blk_alloc ?_ _)); refine blk_far ?_ NB202_205.out _; (with_reducible repeat (first | refine blk_drewN ?_ _ | refine blk_drew ?_ | refine blk_alloc ?_ _)); exact BK202.out⟩
             have n1_ : Aside0 (((w59.setCell ⟨gb205, 0, none⟩ (.string ((rd_T102 l0_1 x18_2).f0))).setCell ⟨gb205, 1, none⟩ (.slice A204_1 ((rd_T102 l0_1 x18_2).f1).length c204_1)).heap[gb205]? = some (.cells #[.string ((rd_T102 l0_1 x18_2).f0), .slice A204_1 ((rd_T102 l0_1 x18_2).f1).length c204_1] 102 (0, 0))) := ⟨by (with_reducible repeat (first | refine blk_drewN ?_ _ | refine blk_drew ?_ | refine blk_alloc ?_ _)); refine blk_put (cs := #[.string ((rd_T102 l0_1 x18_2).f0), .slice none 0 0]) ?_ 1 _ rfl; (with_reducible repeat (first | refine blk_drewN ?_ _ | refine blk_drew ?_ | refine blk_alloc ?_ _)); refine blk_put (cs := #[.string (⟨#[]⟩ : ByteArray), .slice none 0 0]) ?_ 0 _ rfl; (with_reducible repeat (first | refine blk_drewN ?_ _ | refine blk_drew ?_ | refine blk_alloc ?_ _)); exact BK205.out⟩
             have n2_ : Aside0 (Below w.heap.size w ((w59.setCell ⟨gb205, 0, none⟩ (.string ((rd_T102 l0_1 x18_2).f0))).setCell ⟨gb205, 1, none⟩ (.slice A204_1 ((rd_T102 l0_1 x18_2).f1).length c204_1))) := ⟨by repeat (first | (with_reducible first | exact HB.out | apply below_alloc | apply pw_below_drewN | apply below_drew1 | refine below_set ?_ GE202.out | refine below_set ?_ GE205.out) | exact HB.out)⟩
             (try clear BK202)
             (try clear BK205)
             (try clear HB)
             generalize ((w59.setCell ⟨gb205, 0, none⟩ (.string ((rd_T102 l0_1 x18_2).f0))).setCell ⟨gb205, 1, none⟩ (.slice A204_1 ((rd_T102 l0_1 x18_2).f1).length c204_1)) = w62 at n0_ n1_ n2_ ⊢
             have BK202 := n0_
             have BK205 := n1_
             have HB := n2_
             clear n0_ n1_ n2_
             have n0_ := aM (blk_drew BK202.out)
             have n1_ := aM (blk_drew BK205.out)
             have n2_ := aM (below_drew1 HB.out)
             clear BK202
             clear BK205
             clear HB
             have BK202 := n0_
             have BK205 := n1_
             have HB := n2_
             clear n0_ n1_ n2_
             refine start_ (n := 35) (S := fun w' => w'.cell? ⟨gb205, 0, none⟩ = some (.string ((rd_T102 l0_1 x18_2).f0)) ∧ w'.cell? ⟨gb205, 1, none⟩ = some (.slice A204_1 ((rd_T102 l0_1 x18_2).f1).length c204_1) ∧ w'.cell? ⟨gb202, 0, none⟩ = some (.int .i64 a0_0) ∧ w'.cell? ⟨gb202, 1, none⟩ = some (.slice (some ad204) l0_1.length c0_1)) (ds := []) (bq 35 0) (by kernel_rfl) rfl (by kernel_rfl) ⟨(blk_cell BK205.out 0).trans rfl, (blk_cell BK205.out 1).trans rfl, (blk_cell BK202.out 0).trans rfl, (blk_cell BK202.out 1).trans rfl⟩ (fun hHeld => ?_); refine with_tabW impl_GoodWords.tab6 impl_GoodWords.bits6 (fun HT_ HW_ => ?_)
             generalize w62.drew = w63 at BK202 BK205 HB hHeld ⊢
             refine pZ 35 1 0 23 HT_ ?_
             refine tZ4 35 3 1 24 HT_ HW_ hHeld ?_
             refine one_ (i := 2) (N := some 25) (bq 35 7) rfl rfl (one_of HT_.out (by kernel_rfl)) (by decide) (fun K hK => ?_)
             refine gA Try.func89 #[.string ((rd_T102 l0_1 x18_2).f0)] ?_
             with_reducible refine (impl_isWord.calls k2 ((rd_T102 l0_1 x18_2).f0) true _ A13.out).mono ?_
             rintro e w' ⟨rfl, ⟨nd, rfl⟩⟩
             refine ⟨_, rfl, ?_⟩
             refine hK.out _ _ ⟨(blk_cell BK205.out 0).trans rfl, (blk_cell BK205.out 1).trans rfl, (blk_cell BK202.out 0).trans rfl, (blk_cell BK202.out 1).trans rfl⟩ (fun hHeld => ?_)
             clear hK K
             refine nM 25 ?_
             refine pZ 35 15 3 26 HT_ ?_
             refine pZ 35 31 4 27 HT_ ?_
             refine pZ 35 63 5 28 HT_ ?_
             refine pZ 35 127 6 29 HT_ ?_
             refine pZ 35 255 7 30 HT_ ?_
             refine pY 35 511 8 31 HT_ ?_
             refine pY 35 1023 9 32 HT_ ?_
             refine pY 35 2047 10 33 HT_ ?_
             refine pY 35 4095 11 34 HT_ ?_
             refine pY 35 8191 12 35 HT_ ?_
             refine pY 35 16383 13 36 HT_ ?_
             refine pY 35 32767 14 37 HT_ ?_
             refine pY 35 65535 15 38 HT_ ?_
             refine pY 35 131071 16 39 HT_ ?_
             refine pY 35 262143 17 40 HT_ ?_
             refine pZ 35 524287 18 41 HT_ ?_
             refine pZ 35 1048575 19 42 HT_ ?_
             refine pZ 35 2097151 20 43 HT_ ?_
             refine pZ 35 4194303 21 44 HT_ ?_
             refine tZ4 35 8388607 22 45 HT_ HW_ hHeld ?_
             refine pZ 35 16777215 23 46 HT_ ?_
             refine pZ 35 33554431 24 47 HT_ ?_
             refine pZ 35 67108863 25 48 HT_ ?_
             refine pZ 35 134217727 26 49 HT_ ?_
             refine pZ 35 268435455 27 50 HT_ ?_
             refine pZ 35 805306367 29 52 HT_ ?_
             refine tZ4 35 1073741823 28 51 HT_ HW_ hHeld ?_
             refine tZ4 35 2147483647 30 53 HT_ HW_ hHeld ?_
             refine pZ 35 4294967295 31 54 HT_ ?_
             refine one_ (i := 32) (N := some 55) (bq 35 8589934591) rfl rfl (one_of HT_.out (by kernel_rfl)) (by decide) (fun K hK => ?_)
             refine gA Try.func90 #[.slice A204_1 ((rd_T102 l0_1 x18_2).f1).length c204_1, .int .i64 (wrap64 (a0_0 - 1))] ?_
             with_reducible refine (impl_postingsOK.calls k2 _ _ ((rd_T102 l0_1 x18_2).f1) (wrap64 (a0_0 - 1)) false _ ?side1 ?side2 A51.out).mono ?_
             (case side1 => repeat (first | exact (Kd.C_below HR204_1.out (by repeat (first | (with_reducible first | exact HB.out | apply below_alloc | apply pw_below_drewN | apply below_drew1 | refine below_set ?_ GE202.out | refine below_set ?_ GE205.out) | exact HB.out))) | (with_reducible refine Kd.C_alloc ?_ _) | (with_reducible refine Kd.C_drewN ?_ _) | (with_reducible refine Kd.C_drew ?_)))
             (case side2 => exact HC204_1.out)
             rintro e w64 ⟨rfl, hb⟩
             refine ⟨_, rfl, ?_⟩
             have n0_ := aM (blk_below (g := gb202) (o := .cells #[.int .i64 a0_0, .slice (some ad204) l0_1.length c0_1] 33 (0, 0)) (by (with_reducible repeat (first | refine blk_drewN ?_ _ | refine blk_drew ?_ | refine blk_alloc ?_ _)); exact BK202.out) hb)
             have n1_ := aM (blk_below (g := gb205) (o := .cells #[.string ((rd_T102 l0_1 x18_2).f0), .slice A204_1 ((rd_T102 l0_1 x18_2).f1).length c204_1] 102 (0, 0)) (by (with_reducible repeat (first | refine blk_drewN ?_ _ | refine blk_drew ?_ | refine blk_alloc ?_ _)); exact BK205.out) hb)
             have n2_ := aM (below_step (by repeat (first | (with_reducible first | exact HB.out | apply below_alloc | apply pw_below_drewN | apply below_drew1 | refine below_set ?_ GE202.out | refine below_set ?_ GE205.out) | exact HB.out)) hb)
             clear BK202
             clear BK205
             clear HB
             have BK202 := n0_
             have BK205 := n1_
             have HB := n2_
             clear n0_ n1_ n2_
             (try clear hb)
             (try clear hb2)
             (try clear hk)
             (try clear hi)
             refine hK.out _ _ ⟨(blk_cell BK205.out 0).trans rfl, (blk_cell BK205.out 1).trans rfl, (blk_cell BK202.out 0).trans rfl, (blk_cell BK202.out 1).trans rfl⟩ (fun hHeld => ?_)
             clear hK K
             refine nM 55 ?_
             refine pZ 35 17179869183 33 56 HT_ ?_
             refine pZ 35 34359738367 34 57 HT_ ?_
             refine done_ (done_of HT_.out (by kernel_rfl)) ?_
             try go_wp2
             go_ret
             exact ⟨eR, by repeat (first | (with_reducible first | exact HB.out | apply below_alloc | apply pw_below_drewN | apply below_drew1 | refine below_set ?_ GE202.out | refine below_set ?_ GE205.out) | exact HB.out)⟩
         ·
          replace c14 := Bool.eq_false_iff.mpr c14
          subst c14
          have H1 : (some false) = some r := by rw [if_neg (show ¬ (false = true) by decide)] at H; exact H
          clear H
          have H := H1
          clear H1
          obtain rfl := Option.some.inj H
          have p204 : 0 ≤ (x18_2 : Int) := dT
          have q204 : x18_2 < (l0_1.length : Int) := dT
          obtain ⟨ad204, A204_1, c204_1, e204, hx204_0, hx204_1, hl204_1, hi204_1⟩ := at_T102 HR0_1.out x18_2 p204 q204
          cases e204
          try have hz_hx204_0 := aM hx204_0
          try have hz_hx204_1 := aM hx204_1
          replace hx204_0 := (HB.out.cell (World.block_lt_of_cell? w _ hx204_0)).trans hx204_0
          replace hx204_1 := (HB.out.cell (World.block_lt_of_cell? w _ hx204_1)).trans hx204_1
          have HR204_1 := aM hi204_1
          have HC204_1 := aM hl204_1
          clear hi204_1 hl204_1
          replace p204 := eq_true p204
          replace q204 := eq_true q204
          try go_wp2_with (first | ((with_reducible refine gate_dst (N := 4) rfl ?_); (try (refine gate_guard (by rfl) ?_; dsimp only)); refine box_event ?hg (N := 4) ?hd (cs := #[.string (⟨#[]⟩ : ByteArray), .slice none 0 0]) (t := 102) ?hr ?_; (case hd => rfl); (case hg => rfl); (case hr => first | (go_simp; done) | (go_simp; rfl)); intro gb205 hg w65 hbox hb; have n0_ := aM (blk_below (g := gb202) (o := .cells #[.int .i64 a0_0, .slice (some ad204) l0_1.length c0_1] 33 (0, 0)) (by (with_reducible repeat (first | refine blk_drewN ?_ _ | refine blk_drew ?_ | refine blk_alloc ?_ _)); exact BK202.out) hb); have n1_ := aM (below_step (by repeat (first | (with_reducible first | exact HB.out | apply below_alloc | apply pw_below_drewN | apply below_drew1 | refine below_set ?_ GE202.out) | exact HB.out)) hb); have n2_ := aM (hbox); have n3_ := aM ((by rw [hg]; exact (below_size (by repeat (first | (with_reducible first | exact HB.out | apply below_alloc | apply pw_below_drewN | apply below_drew1 | refine below_set ?_ GE202.out) | exact HB.out))) : w.heap.size ≤ gb205)); have n4_ := aM ((by rw [hg]; exact (below_size (by repeat (first | (with_reducible first | exact HB.out | apply below_alloc | apply pw_below_drewN | apply below_drew1 | refine below_set ?_ GE202.out) | exact HB.out))) : w.heap.size ≤ gb205)); have n5_ := aM ((by rw [hg]; exact Nat.ne_of_lt (blk_lt (g := gb202) (o := .cells #[.int .i64 a0_0, .slice (some ad204) l0_1.length c0_1] 33 (0, 0)) (by (with_reducible repeat (first | refine blk_drewN ?_ _ | refine blk_drew ?_ | refine blk_alloc ?_ _)); exact BK202.out)) : gb202 ≠ gb205)); have n6_ := aM ((by rw [hg]; exact Nat.ne_of_gt (blk_lt (g := gb202) (o := .cells #[.int .i64 a0_0, .slice (some ad204) l0_1.length c0_1] 33 (0, 0)) (by (with_reducible repeat (first | refine blk_drewN ?_ _ | refine blk_drew ?_ | refine blk_alloc ?_ _)); exact BK202.out)) : gb205 ≠ gb202)); clear BK202; clear HB; have BK202 := n0_; have HB := n1_; have BK205 := n2_; have GW205 := n3_; have GE205 := n4_; have NB202_205 := n5_; have NB205_202 := n6_; clear n0_ n1_ n2_ n3_ n4_ n5_ n6_; clear hb hbox hg; have hnb66 := NB205_202.out; have hnc66 := NB202_205.out; have hcz67_0 : w65.cell? ⟨gb205, 0, none⟩ = some (.string (⟨#[]⟩ : ByteArray)) := (blk_cell BK205.out 0).trans rfl; have hcz67_1 : w65.cell? ⟨gb205, 1, none⟩ = some (.slice none 0 0) := (blk_cell BK205.out 1).trans rfl; have hfz67_0 := blk_frozen BK205.out 0; have hfz67_1 := blk_frozen BK205.out 1))
          have n0_ : Aside0 (((w65.setCell ⟨gb205, 0, none⟩ (.string ((rd_T102 l0_1 x18_2).f0))).setCell ⟨gb205, 1, none⟩ (.slice A204_1 ((rd_T102 l0_1 x18_2).f1).length c204_1)).heap[gb202]? = some (.cells #[.int .i64 a0_0, .slice (some ad204) l0_1.length c0_1] 33 (0, 0))) := ⟨by (with_reducible repeat (first | refine blk_drewN ?_ _ | refine blk_drew ?_ | refine blk_alloc ?_ _)); refine blk_far ?_ NB202_205.out _; (with_reducible repeat (first | refine blk_drewN ?_ _ | refine blk_drew ?_ | refine blk_alloc ?_ _)); refine blk_far ?_ NB202_205.out _; (with_reducible repeat (first | refine blk_drewN ?_ _ | refine blk_drew ?_ | refine blk_alloc ?_ _)); exact BK202.out⟩
          have n1_ : Aside0 (((w65.setCell ⟨gb205, 0, none⟩ (.string ((rd_T102 l0_1 x18_2).f0))).setCell ⟨gb205, 1, none⟩ (.slice A204_1 ((rd_T102 l0_1 x18_2).f1).length c204_1)).heap[gb205]? = some (.cells #[.string ((rd_T102 l0_1 x18_2).f0), .slice A204_1 ((rd_T102 l0_1 x18_2).f1).length c204_1] 102 (0, 0))) := ⟨by (with_reducible repeat (first | refine blk_drewN ?_ _ | refine blk_drew ?_ | refine blk_alloc ?_ _)); refine blk_put (cs := #[.string ((rd_T102 l0_1 x18_2).f0), .slice none 0 0]) ?_ 1 _ rfl; (with_reducible repeat (first | refine blk_drewN ?_ _ | refine blk_drew ?_ | refine blk_alloc ?_ _)); refine blk_put (cs := #[.string (⟨#[]⟩ : ByteArray), .slice none 0 0]) ?_ 0 _ rfl; (with_reducible repeat (first | refine blk_drewN ?_ _ | refine blk_drew ?_ | refine blk_alloc ?_ _)); exact BK205.out⟩
          have n2_ : Aside0 (Below w.heap.size w ((w65.setCell ⟨gb205, 0, none⟩ (.string ((rd_T102 l0_1 x18_2).f0))).setCell ⟨gb205, 1, none⟩ (.slice A204_1 ((rd_T102 l0_1 x18_2).f1).length c204_1))) := ⟨by repeat (first | (with_reducible first | exact HB.out | apply below_alloc | apply pw_below_drewN | apply below_drew1 | refine below_set ?_ GE202.out | refine below_set ?_ GE205.out) | exact HB.out)⟩
          (try clear BK202)
          (try clear BK205)
          (try clear HB)
          generalize ((w65.setCell ⟨gb205, 0, none⟩ (.string ((rd_T102 l0_1 x18_2).f0))).setCell ⟨gb205, 1, none⟩ (.slice A204_1 ((rd_T102 l0_1 x18_2).f1).length c204_1)) = w68 at n0_ n1_ n2_ ⊢
          have BK202 := n0_
          have BK205 := n1_
          have HB := n2_
          clear n0_ n1_ n2_
          have n0_ := aM (blk_drew BK202.out)
          have n1_ := aM (blk_drew BK205.out)
          have n2_ := aM (below_drew1 HB.out)
          clear BK202
          clear BK205
          clear HB
          have BK202 := n0_
          have BK205 := n1_
          have HB := n2_
          clear n0_ n1_ n2_
          refine start_ (n := 35) (S := fun w' => w'.cell? ⟨gb205, 0, none⟩ = some (.string ((rd_T102 l0_1 x18_2).f0)) ∧ w'.cell? ⟨gb205, 1, none⟩ = some (.slice A204_1 ((rd_T102 l0_1 x18_2).f1).length c204_1)) (ds := []) (bq 35 0) (by kernel_rfl) rfl (by kernel_rfl) ⟨(blk_cell BK205.out 0).trans rfl, (blk_cell BK205.out 1).trans rfl⟩ (fun hHeld => ?_); refine with_tabW impl_GoodWords.tab6 impl_GoodWords.bits6 (fun HT_ HW_ => ?_)
          generalize w68.drew = w69 at BK202 BK205 HB hHeld ⊢
          refine pZ 35 1 0 23 HT_ ?_
          refine tZ2 35 3 1 24 HT_ HW_ hHeld ?_
          refine one_ (i := 2) (N := some 25) (bq 35 7) rfl rfl (one_of HT_.out (by kernel_rfl)) (by decide) (fun K hK => ?_)
          refine gA Try.func89 #[.string ((rd_T102 l0_1 x18_2).f0)] ?_
          with_reducible refine (impl_isWord.calls k2 ((rd_T102 l0_1 x18_2).f0) false _ A13.out).mono ?_
          rintro e w' ⟨rfl, ⟨nd, rfl⟩⟩
          refine ⟨_, rfl, ?_⟩
          refine hK.out _ _ ⟨(blk_cell BK205.out 0).trans rfl, (blk_cell BK205.out 1).trans rfl⟩ (fun hHeld => ?_)
          clear hK K
          refine nM 25 ?_
          refine pZ 35 15 3 26 HT_ ?_
          refine pZ 35 31 4 27 HT_ ?_
          refine pY 35 63 5 28 HT_ ?_
          refine pY 35 127 6 29 HT_ ?_
          refine pY 35 255 7 30 HT_ ?_
          refine pY 35 511 8 31 HT_ ?_
          refine pY 35 1023 9 32 HT_ ?_
          refine pY 35 2047 10 33 HT_ ?_
          refine pY 35 4095 11 34 HT_ ?_
          refine pY 35 8191 12 35 HT_ ?_
          refine pY 35 16383 13 36 HT_ ?_
          refine pY 35 32767 14 37 HT_ ?_
          refine pY 35 65535 15 38 HT_ ?_
          refine pY 35 131071 16 39 HT_ ?_
          refine pY 35 262143 17 40 HT_ ?_
          refine pY 35 524287 18 41 HT_ ?_
          refine pZ 35 1048575 19 42 HT_ ?_
          refine pZ 35 2097151 20 43 HT_ ?_
          refine pY 35 4194303 21 44 HT_ ?_
          refine pY 35 8388607 22 45 HT_ ?_
          refine pY 35 16777215 23 46 HT_ ?_
          refine pY 35 33554431 24 47 HT_ ?_
          refine pZ 35 67108863 25 48 HT_ ?_
          refine pZ 35 134217727 26 49 HT_ ?_
          refine pY 35 268435455 27 50 HT_ ?_
          refine pY 35 536870911 28 51 HT_ ?_
          refine pY 35 1073741823 29 52 HT_ ?_
          refine pY 35 2147483647 30 53 HT_ ?_
          refine pY 35 4294967295 31 54 HT_ ?_
          refine pY 35 8589934591 32 55 HT_ ?_
          refine pY 35 17179869183 33 56 HT_ ?_
          refine pZ 35 34359738367 34 57 HT_ ?_
          refine done_ (done_of HT_.out (by kernel_rfl)) ?_
          try go_wp2
          go_ret
          exact ⟨eR, by repeat (first | (with_reducible first | exact HB.out | apply below_alloc | apply pw_below_drewN | apply below_drew1 | refine below_set ?_ GE202.out | refine below_set ?_ GE205.out) | exact HB.out)⟩
        ·
         rw [if_neg c12] at H
         exact absurd H (by simp)
       ·
        rw [if_neg c11] at H
        exact absurd H (by simp)
      ·
       rw [if_neg c10] at H
       have c10b0 : decide (x18_2 < (l0_1.length : Int)) = false := decide_eq_false c10
       clear c10
       obtain rfl := Option.some.inj H
       go_wp2
       go_ret
       exact ⟨eR, by repeat (first | (with_reducible first | exact HB.out | apply below_alloc | apply pw_below_drewN | apply below_drew1 | refine below_set ?_ GE202.out) | exact HB.out)⟩

def spec_GoodWords.l0 : Nat → List (S102) → Int → Int → Int → List (S102) → Option (Bool)
 | 0, _, _, _, _, _ => none
 | k + 1, x6, x7, x8, x230000, x230001 => if x8 < x7 then (if 0 ≤ x8 then (if x8 < (x6.length : Int) then ((spec_l10Word.f k ((rd_T102 x6 x8).f0)).bind fun t233 => (if t233 = true then (if (((rd_T102 x6 x8).f1).length : Int) = 0 then (some false) else ((spec_l10List.f k ((rd_T102 x6 x8).f1) x230000).bind fun t234 => (if t234 = true then (if x8 > 0 then (if 0 ≤ (wrap64 (x8 - 1)) then (if (wrap64 (x8 - 1)) < (x230001.length : Int) then (if ((Op.bytesLess (((rd_T102 x230001 (wrap64 (x8 - 1))).f0).toList) (((rd_T102 x6 x8).f0).toList)) = true) then (spec_GoodWords.l0 k x6 x7 (wrap64 (x8 + 1)) x230000 x230001) else (some false)) else (none)) else (none)) else (spec_GoodWords.l0 k x6 x7 (wrap64 (x8 + 1)) x230000 x230001)) else (some false)))) else (some false))) else (none)) else (none)) else ((spec_l1In.f x230000 0 40).bind fun t230 => (if t230 = true then (some (decide ((x230001.length : Int) ≤ 200))) else (some false)))
def spec_GoodWords.f (k : Nat) (a0_0 : Int) (l0_1 : List (S102)) : Option (Bool) := spec_GoodWords.l0 k l0_1 (l0_1.length : Int) 0 a0_0 l0_1
def spec_GoodWords.T4 : Bool × List (List Nat × List Nat) := (true, [([], []), ([0], [0]), ([1], [1]), ([2], [2]), ([3, 2], [3]), ([4], [4]), ([5, 4], [4, 5]), ([6, 4], [4, 6]), ([7, 4], [4, 7]), ([4, 8], [4, 8]), ([9, 4], [9]), ([10], [10]), ([11, 10], [10, 11]), ([10], [10]), ([13, 10], [10, 13]), ([12, 14, 10, 10], [10, 12, 14]), ([15, 10], [10, 15]), ([10, 16], [10, 16]), ([17, 15], [17]), ([18], [18]), ([19, 18], [18, 19]), ([20, 18, 18], [18, 20]), ([21], [21]), ([22, 21], [21, 22]), ([21], [21]), ([24, 21], [21, 24]), ([23, 25, 21], [21, 23, 25]), ([26, 21], [21, 26]), ([27, 21], [21, 27]), ([21], [21]), ([29, 21], [21, 29]), ([28, 30, 21], [21, 28, 30]), ([21, 31, 18], [18, 21, 31]), ([18, 32], [18, 32])])
def spec_GoodWords.B4 : List Nat := [0, 1, 3, 7, 15, 31, 63, 127, 255, 511, 1023, 2047, 4095, 2047, 10239, 32767, 65535, 131071, 262143, 524287, 1048575, 2097151, 4194303, 8388607, 4194303, 20971519, 67108863, 134217727, 268435455, 4194303, 541065215, 2147483647, 4294967295, 8589934591]
theorem spec_GoodWords.tab4 : rtab .any (opsOf Try.f44 4) = spec_GoodWords.T4 := by kernel_rfl
theorem spec_GoodWords.bits4 : waitsOk spec_GoodWords.T4.2 spec_GoodWords.B4 = true := by kernel_rfl
set_option maxHeartbeats 8000000 in
set_option maxRecDepth 100000 in
theorem spec_GoodWords.calls (k : Nat) (a0_0 : Int) (A0_1 : Option Addr) (c0_1 : Nat) (l0_1 : List (S102)) (r : Bool) (w : World) (hr0_1 : Kd.C k102 w A0_1 l0_1.length l0_1) (hc0_1 : l0_1.length ≤ c0_1) (h : spec_GoodWords.f k a0_0 l0_1 = some r) :
  Calls Try.prog 44 #[.agg #[.int .i64 a0_0, .slice A0_1 l0_1.length c0_1]] w fun e w' => e = .returned (.bool r) ∧ Below w.heap.size w w' := by
 have hu33 := Try.underlying33
 have hu102 := Try.underlying102
 have HR0_1 := aM hr0_1
 have HC0_1 := aM hc0_1
 clear hr0_1 hc0_1
 have HB := aM (Below.refl w.heap.size w)
 have H : (spec_GoodWords.l0 k l0_1 (l0_1.length : Int) 0 a0_0 l0_1) = some r := h
 clear h
 have H' := aM H
 clear H
 go_enter Try.func44, Try.ntmps44
 go_wp2_with (first | ((with_reducible refine gate_dst (N := 1) rfl ?_); (try (refine gate_guard (by rfl) ?_; dsimp only)); refine box_event ?hg (N := 1) ?hd (cs := #[.int .i64 a0_0, .slice A0_1 l0_1.length c0_1]) (t := 33) ?hr ?_; (case hd => rfl); (case hg => rfl); (case hr => first | (go_simp; done) | (go_simp; rfl)); intro gb229 hg w2 hbox hb; have n0_ := aM (below_step (by repeat (first | (with_reducible first | exact HB.out | apply below_alloc | apply pw_below_drewN | apply below_drew1) | exact HB.out)) hb); have n1_ := aM (hbox); have n2_ := aM ((by rw [hg]; exact (below_size (by repeat (first | (with_reducible first | exact HB.out | apply below_alloc | apply pw_below_drewN | apply below_drew1) | exact HB.out))) : w.heap.size ≤ gb229)); have n3_ := aM ((by rw [hg]; exact (below_size (by repeat (first | (with_reducible first | exact HB.out | apply below_alloc | apply pw_below_drewN | apply below_drew1) | exact HB.out))) : w.heap.size ≤ gb229)); clear HB; have HB := n0_; have BK229 := n1_; have GW229 := n2_; have GE229 := n3_; clear n0_ n1_ n2_ n3_; clear hb hbox hg; have hcz3_0 : w2.cell? ⟨gb229, 0, none⟩ = some (.int .i64 a0_0) := (blk_cell BK229.out 0).trans rfl; have hcz3_1 : w2.cell? ⟨gb229, 1, none⟩ = some (.slice A0_1 l0_1.length c0_1) := (blk_cell BK229.out 1).trans rfl; have hfz3_0 := blk_frozen BK229.out 0; have hfz3_1 := blk_frozen BK229.out 1))
 go_loopg [8] k (fun kq v8 w' => ∃ (x8_1 : Int), v8 = .int .i64 x8_1 ∧ Aside0 (spec_GoodWords.l0 kq l0_1 (l0_1.length : Int) x8_1 a0_0 l0_1 = some r) ∧ Aside0 (kq ≤ k) ∧ Aside0 (w'.heap[gb229]? = some (.cells #[.int .i64 a0_0, (.slice A0_1 l0_1.length c0_1)] 33 (0, 0))) ∧ Aside0 (Below w.heap.size w w'))
 case atStart => exact ⟨(0), (by first | rfl | (simp; done) | (simp [*]; done)), H', ⟨Nat.le_refl _⟩, ⟨by (with_reducible repeat (first | refine blk_drewN ?_ _ | refine blk_drew ?_ | refine blk_alloc ?_ _)); exact BK229.out⟩, ⟨by repeat (first | (with_reducible first | exact HB.out | apply below_alloc | apply pw_below_drewN | apply below_drew1 | refine below_set ?_ GE229.out) | exact HB.out)⟩⟩
 case round =>
  clear H'
  try clear p2
  try clear hcz3_0
  try clear hcz3_1
  try clear hfz3_0
  try clear hfz3_1
  obtain ⟨x8_1, rfl, HA, HK1, BK229, HB⟩ := hrel
  cases gk with
  | zero => exact absurd HA.out (by simp [spec_GoodWords.l0])
  | succ k1 =>
   have H := HA.out
   clear HA
   simp only [spec_GoodWords.l0] at H
   by_cases c4 : x8_1 < (l0_1.length : Int)
   ·rw [if_pos c4] at H
    have c4b0 : decide (x8_1 < (l0_1.length : Int)) = true := decide_eq_true c4
    clear c4
    by_cases c5 : 0 ≤ x8_1
    ·rw [if_pos c5] at H
     have c5b0 : decide (0 ≤ x8_1) = true := decide_eq_true c5
     clear c5
     by_cases c6 : x8_1 < (l0_1.length : Int)
     ·rw [if_pos c6] at H
      have c6b0 : decide (x8_1 < (l0_1.length : Int)) = true := decide_eq_true c6
      clear c6
      replace H := Option.bind_eq_some_iff.mp H
      obtain ⟨t233, A70, H⟩ := H
      replace H : (if t233 = true then (if (((rd_T102 l0_1 x8_1).f1).length : Int) = 0 then (some false) else ((spec_l10List.f k1 ((rd_T102 l0_1 x8_1).f1) a0_0).bind fun t234 => (if t234 = true then (if x8_1 > 0 then (if 0 ≤ (wrap64 (x8_1 - 1)) then (if (wrap64 (x8_1 - 1)) < (l0_1.length : Int) then (if ((Op.bytesLess (((rd_T102 l0_1 (wrap64 (x8_1 - 1))).f0).toList) (((rd_T102 l0_1 x8_1).f0).toList)) = true) then (spec_GoodWords.l0 k1 l0_1 (l0_1.length : Int) (wrap64 (x8_1 + 1)) a0_0 l0_1) else (some false)) else (none)) else (none)) else (spec_GoodWords.l0 k1 l0_1 (l0_1.length : Int) (wrap64 (x8_1 + 1)) a0_0 l0_1)) else (some false)))) else (some false)) = some r := H
      have A7 := aM A70
      clear A70
      by_cases c8 : t233 = true
      ·subst c8
       have H1 : (if (((rd_T102 l0_1 x8_1).f1).length : Int) = 0 then (some false) else ((spec_l10List.f k1 ((rd_T102 l0_1 x8_1).f1) a0_0).bind fun t234 => (if t234 = true then (if x8_1 > 0 then (if 0 ≤ (wrap64 (x8_1 - 1)) then (if (wrap64 (x8_1 - 1)) < (l0_1.length : Int) then (if ((Op.bytesLess (((rd_T102 l0_1 (wrap64 (x8_1 - 1))).f0).toList) (((rd_T102 l0_1 x8_1).f0).toList)) = true) then (spec_GoodWords.l0 k1 l0_1 (l0_1.length : Int) (wrap64 (x8_1 + 1)) a0_0 l0_1) else (some false)) else (none)) else (none)) else (spec_GoodWords.l0 k1 l0_1 (l0_1.length : Int) (wrap64 (x8_1 + 1)) a0_0 l0_1)) else (some false)))) = some r := by rw [if_pos rfl] at H; exact H
       clear H
       have H := H1
       clear H1
       by_cases c9 : (((rd_T102 l0_1 x8_1).f1).length : Int) = 0
       ·rw [if_pos c9] at H
        have c9b0 : ((((rd_T102 l0_1 x8_1).f1).length : Int) == 0) = true := beq_iff_eq.mpr c9
        have c9b1 : ((((rd_T102 l0_1 x8_1).f1).length : Int) != 0) = false := bne_eq_false_iff_eq.mpr c9
        clear c9
        obtain rfl := Option.some.inj H
        have p231 : 0 ≤ (x8_1 : Int) := dT
        have q231 : x8_1 < (l0_1.length : Int) := dT
        obtain ⟨ad231, A231_1, c231_1, e231, hx231_0, hx231_1, hl231_1, hi231_1⟩ := at_T102 HR0_1.out x8_1 p231 q231
        cases e231
        try have hz_hx231_0 := aM hx231_0
        try have hz_hx231_1 := aM hx231_1
        replace hx231_0 := (HB.out.cell (World.block_lt_of_cell? w _ hx231_0)).trans hx231_0
        replace hx231_1 := (HB.out.cell (World.block_lt_of_cell? w _ hx231_1)).trans hx231_1
        have HR231_1 := aM hi231_1
        have HC231_1 := aM hl231_1
        clear hi231_1 hl231_1
        replace p231 := eq_true p231
        replace q231 := eq_true q231
        try go_wp2_with (first | ((with_reducible refine gate_dst (N := 4) rfl ?_); (try (refine gate_guard (by rfl) ?_; dsimp only)); refine box_event ?hg (N := 4) ?hd (cs := #[.string (⟨#[]⟩ : ByteArray), .slice none 0 0]) (t := 102) ?hr ?_; (case hd => rfl); (case hg => rfl); (case hr => first | (go_simp; done) | (go_simp; rfl)); intro gb232 hg w10 hbox hb; have n0_ := aM (blk_below (g := gb229) (o := .cells #[.int .i64 a0_0, .slice (some ad231) l0_1.length c0_1] 33 (0, 0)) (by (with_reducible repeat (first | refine blk_drewN ?_ _ | refine blk_drew ?_ | refine blk_alloc ?_ _)); exact BK229.out) hb); have n1_ := aM (below_step (by repeat (first | (with_reducible first | exact HB.out | apply below_alloc | apply pw_below_drewN | apply below_drew1 | refine below_set ?_ GE229.out) | exact HB.out)) hb); have n2_ := aM (hbox); have n3_ := aM ((by rw [hg]; exact (below_size (by repeat (first | (with_reducible first | exact HB.out | apply below_alloc | apply pw_below_drewN | apply below_drew1 | refine below_set ?_ GE229.out) | exact HB.out))) : w.heap.size ≤ gb232)); have n4_ := aM ((by rw [hg]; exact (below_size (by repeat (first | (with_reducible first | exact HB.out | apply below_alloc | apply pw_below_drewN | apply below_drew1 | refine below_set ?_ GE229.out) | exact HB.out))) : w.heap.size ≤ gb232)); have n5_ := aM ((by rw [hg]; exact Nat.ne_of_lt (blk_lt (g := gb229) (o := .cells #[.int .i64 a0_0, .slice (some ad231) l0_1.length c0_1] 33 (0, 0)) (by (with_reducible repeat (first | refine blk_drewN ?_ _ | refine blk_drew ?_ | refine blk_alloc ?_ _)); exact BK229.out)) : gb229 ≠ gb232)); have n6_ := aM ((by rw [hg]; exact Nat.ne_of_gt (blk_lt (g := gb229) (o := .cells #[.int .i64 a0_0, .slice (some ad231) l0_1.length c0_1] 33 (0, 0)) (by (with_reducible repeat (first | refine blk_drewN ?_ _ | refine blk_drew ?_ | refine blk_alloc ?_ _)); exact BK229.out)) : gb232 ≠ gb229)); clear BK229; clear HB; have BK229 := n0_; have HB := n1_; have BK232 := n2_; have GW232 := n3_; have GE232 := n4_; have NB229_232 := n5_; have NB232_229 := n6_; clear n0_ n1_ n2_ n3_ n4_ n5_ n6_; clear hb hbox hg; have hnb11 := NB232_229.out; have hnc11 := NB229_232.out; have hcz12_0 : w10.cell? ⟨gb232, 0, none⟩ = some (.string (⟨#[]⟩ : ByteArray)) := (blk_cell BK232.out 0).trans rfl; have hcz12_1 : w10.cell? ⟨gb232, 1, none⟩ = some (.slice none 0 0) := (blk_cell BK232.out 1).trans rfl; have hfz12_0 := blk_frozen BK232.out 0; have hfz12_1 := blk_frozen BK232.out 1))
        have n0_ : Aside0 (((w10.setCell ⟨gb232, 0, none⟩ (.string ((rd_T102 l0_1 x8_1).f0))).setCell ⟨gb232, 1, none⟩ (.slice A231_1 ((rd_T102 l0_1 x8_1).f1).length c231_1)).heap[gb229]? = some (.cells #[.int .i64 a0_0, .slice (some ad231) l0_1.length c0_1] 33 (0, 0))) := ⟨by (with_reducible repeat (first | refine blk_drewN ?_ _ | refine blk_drew ?_ | refine blk_alloc ?_ _)); refine blk_far ?_ NB229_232.out _; (with_reducible repeat (first | refine blk_drewN ?_ _ | refine blk_drew ?_ | refine blk_alloc ?_ _)); refine blk_far ?_ NB229_232.out _; (with_reducible repeat (first | refine blk_drewN ?_ _ | refine blk_drew ?_ | refine blk_alloc ?_ _)); exact BK229.out⟩
        have n1_ : Aside0 (((w10.setCell ⟨gb232, 0, none⟩ (.string ((rd_T102 l0_1 x8_1).f0))).setCell ⟨gb232, 1, none⟩ (.slice A231_1 ((rd_T102 l0_1 x8_1).f1).length c231_1)).heap[gb232]? = some (.cells #[.string ((rd_T102 l0_1 x8_1).f0), .slice A231_1 ((rd_T102 l0_1 x8_1).f1).length c231_1] 102 (0, 0))) := ⟨by (with_reducible repeat (first | refine blk_drewN ?_ _ | refine blk_drew ?_ | refine blk_alloc ?_ _)); refine blk_put (cs := #[.string ((rd_T102 l0_1 x8_1).f0), .slice none 0 0]) ?_ 1 _ rfl; (with_reducible repeat (first | refine blk_drewN ?_ _ | refine blk_drew ?_ | refine blk_alloc ?_ _)); refine blk_put (cs := #[.string (⟨#[]⟩ : ByteArray), .slice none 0 0]) ?_ 0 _ rfl; (with_reducible repeat (first | refine blk_drewN ?_ _ | refine blk_drew ?_ | refine blk_alloc ?_ _)); exact BK232.out⟩
        have n2_ : Aside0 (Below w.heap.size w ((w10.setCell ⟨gb232, 0, none⟩ (.string ((rd_T102 l0_1 x8_1).f0))).setCell ⟨gb232, 1, none⟩ (.slice A231_1 ((rd_T102 l0_1 x8_1).f1).length c231_1))) := ⟨by repeat (first | (with_reducible first | exact HB.out | apply below_alloc | apply pw_below_drewN | apply below_drew1 | refine below_set ?_ GE229.out | refine below_set ?_ GE232.out) | exact HB.out)⟩
        (try clear BK229)
        (try clear BK232)
        (try clear HB)
        generalize ((w10.setCell ⟨gb232, 0, none⟩ (.string ((rd_T102 l0_1 x8_1).f0))).setCell ⟨gb232, 1, none⟩ (.slice A231_1 ((rd_T102 l0_1 x8_1).f1).length c231_1)) = w13 at n0_ n1_ n2_ ⊢
        have BK229 := n0_
        have BK232 := n1_
        have HB := n2_
        clear n0_ n1_ n2_
        have n0_ := aM (blk_drew BK229.out)
        have n1_ := aM (blk_drew BK232.out)
        have n2_ := aM (below_drew1 HB.out)
        clear BK229
        clear BK232
        clear HB
        have BK229 := n0_
        have BK232 := n1_
        have HB := n2_
        clear n0_ n1_ n2_
        refine start_ (n := 34) (S := fun w' => w'.cell? ⟨gb232, 0, none⟩ = some (.string ((rd_T102 l0_1 x8_1).f0)) ∧ w'.cell? ⟨gb232, 1, none⟩ = some (.slice A231_1 ((rd_T102 l0_1 x8_1).f1).length c231_1)) (ds := []) (bq 34 0) (by kernel_rfl) rfl (by kernel_rfl) ⟨(blk_cell BK232.out 0).trans rfl, (blk_cell BK232.out 1).trans rfl⟩ (fun hHeld => ?_); refine with_tabW spec_GoodWords.tab4 spec_GoodWords.bits4 (fun HT_ HW_ => ?_)
        generalize w13.drew = w14 at BK229 BK232 HB hHeld ⊢
        refine pZ 34 1 0 13 HT_ ?_
        refine tZ2 34 3 1 14 HT_ HW_ hHeld ?_
        refine one_ (i := 2) (N := some 15) (bq 34 7) rfl rfl (one_of HT_.out (by kernel_rfl)) (by decide) (fun K hK => ?_)
        refine gA Try.func94 #[.string ((rd_T102 l0_1 x8_1).f0)] ?_
        with_reducible refine (spec_l10Word.calls k1 ((rd_T102 l0_1 x8_1).f0) true _ A7.out).mono ?_
        rintro e w15 ⟨rfl, hb⟩
        refine ⟨_, rfl, ?_⟩
        have n0_ := aM (blk_below (g := gb229) (o := .cells #[.int .i64 a0_0, .slice (some ad231) l0_1.length c0_1] 33 (0, 0)) (by (with_reducible repeat (first | refine blk_drewN ?_ _ | refine blk_drew ?_ | refine blk_alloc ?_ _)); exact BK229.out) hb)
        have n1_ := aM (blk_below (g := gb232) (o := .cells #[.string ((rd_T102 l0_1 x8_1).f0), .slice A231_1 ((rd_T102 l0_1 x8_1).f1).length c231_1] 102 (0, 0)) (by (with_reducible repeat (first | refine blk_drewN ?_ _ | refine blk_drew ?_ | refine blk_alloc ?_ _)); exact BK232.out) hb)
        have n2_ := aM (below_step (by repeat (first | (with_reducible first | exact HB.out | apply below_alloc | apply pw_below_drewN | apply below_drew1 | refine below_set ?_ GE229.out | refine below_set ?_ GE232.out) | exact HB.out)) hb)
        clear BK229
        clear BK232
        clear HB
        have BK229 := n0_
        have BK232 := n1_
        have HB := n2_
        clear n0_ n1_ n2_
        (try clear hb)
        (try clear hb2)
        (try clear hk)
        (try clear hi)
        refine hK.out _ _ ⟨(blk_cell BK232.out 0).trans rfl, (blk_cell BK232.out 1).trans rfl⟩ (fun hHeld => ?_)
        clear hK K
        refine nM 15 ?_
        refine pZ 34 15 3 16 HT_ ?_
        refine pZ 34 31 4 17 HT_ ?_
        refine pZ 34 63 5 18 HT_ ?_
        refine tZ2 34 127 6 19 HT_ HW_ hHeld ?_
        refine pZ 34 255 7 20 HT_ ?_
        refine pZ 34 511 8 21 HT_ ?_
        refine pZ 34 1023 9 22 HT_ ?_
        refine pZ 34 2047 10 23 HT_ ?_
        refine pY 34 4095 11 24 HT_ ?_
        refine pY 34 8191 12 25 HT_ ?_
        refine pY 34 16383 13 26 HT_ ?_
        refine pY 34 32767 14 27 HT_ ?_
        refine pY 34 65535 15 28 HT_ ?_
        refine pY 34 131071 16 29 HT_ ?_
        refine pZ 34 262143 17 30 HT_ ?_
        refine pZ 34 524287 18 31 HT_ ?_
        refine pY 34 1048575 19 32 HT_ ?_
        refine pY 34 2097151 20 33 HT_ ?_
        refine pY 34 4194303 21 34 HT_ ?_
        refine pY 34 8388607 22 35 HT_ ?_
        refine pY 34 16777215 23 36 HT_ ?_
        refine pY 34 33554431 24 37 HT_ ?_
        refine pY 34 67108863 25 38 HT_ ?_
        refine pY 34 134217727 26 39 HT_ ?_
        refine pY 34 268435455 27 40 HT_ ?_
        refine pY 34 536870911 28 41 HT_ ?_
        refine pY 34 1073741823 29 42 HT_ ?_
        refine pY 34 2147483647 30 43 HT_ ?_
        refine pY 34 4294967295 31 44 HT_ ?_
        refine pY 34 8589934591 32 45 HT_ ?_
        refine pZ 34 17179869183 33 46 HT_ ?_
        refine done_ (done_of HT_.out (by kernel_rfl)) ?_
        try go_wp2
        go_ret
        exact ⟨eR, by repeat (first | (with_reducible first | exact HB.out | apply below_alloc | apply pw_below_drewN | apply below_drew1 | refine below_set ?_ GE229.out | refine below_set ?_ GE232.out) | exact HB.out)⟩
       ·rw [if_neg c9] at H
        have c9b0 : ((((rd_T102 l0_1 x8_1).f1).length : Int) == 0) = false := beq_eq_false_iff_ne.mpr c9
        have c9b1 : ((((rd_T102 l0_1 x8_1).f1).length : Int) != 0) = true := bne_iff_ne.mpr c9
        have c9b2 : ¬ (((rd_T102 l0_1 x8_1).f1) = []) := fun h_ => c9 (by rw [h_]; rfl)
        replace H := Option.bind_eq_some_iff.mp H
        obtain ⟨t234, A160, H⟩ := H
        replace H : (if t234 = true then (if x8_1 > 0 then (if 0 ≤ (wrap64 (x8_1 - 1)) then (if (wrap64 (x8_1 - 1)) < (l0_1.length : Int) then (if ((Op.bytesLess (((rd_T102 l0_1 (wrap64 (x8_1 - 1))).f0).toList) (((rd_T102 l0_1 x8_1).f0).toList)) = true) then (spec_GoodWords.l0 k1 l0_1 (l0_1.length : Int) (wrap64 (x8_1 + 1)) a0_0 l0_1) else (some false)) else (none)) else (none)) else (spec_GoodWords.l0 k1 l0_1 (l0_1.length : Int) (wrap64 (x8_1 + 1)) a0_0 l0_1)) else (some false)) = some r := H
        have A16 := aM A160
        clear A160
        by_cases c17 : t234 = true
        ·subst c17
         have H1 : (if x8_1 > 0 then (if 0 ≤ (wrap64 (x8_1 - 1)) then (if (wrap64 (x8_1 - 1)) < (l0_1.length : Int) then (if ((Op.bytesLess (((rd_T102 l0_1 (wrap64 (x8_1 - 1))).f0).toList) (((rd_T102 l0_1 x8_1).f0).toList)) = true) then (spec_GoodWords.l0 k1 l0_1 (l0_1.length : Int) (wrap64 (x8_1 + 1)) a0_0 l0_1) else (some false)) else (none)) else (none)) else (spec_GoodWords.l0 k1 l0_1 (l0_1.length : Int) (wrap64 (x8_1 + 1)) a0_0 l0_1)) = some r := by rw [if_pos rfl] at H; exact H
         clear H
         have H := H1
         clear H1
         by_cases c18 : x8_1 > 0
         ·rw [if_pos c18] at H
          have c18b0 : decide (0 < x8_1) = true := decide_eq_true c18
          clear c18
          obtain ⟨ji19, hji19⟩ : ∃ j_ : Int, (wrap64 (x8_1 - 1)) = j_ := ⟨_, rfl⟩
          replace H : (if 0 ≤ (ji19) then (if (ji19) < (l0_1.length : Int) then (if ((Op.bytesLess (((rd_T102 l0_1 (ji19)).f0).toList) (((rd_T102 l0_1 x8_1).f0).toList)) = true) then (spec_GoodWords.l0 k1 l0_1 (l0_1.length : Int) (wrap64 (x8_1 + 1)) a0_0 l0_1) else (some false)) else (none)) else (none)) = some r := by first | (rw [hji19] at H; exact H) | (simp only [hji19] at H ⊢; exact H)
          (try rw [hji19] at A7)
          (try rw [hji19] at A16)
          have hji19w : (IntKind.i64.wrap (x8_1 - 1)) = ji19 := (i64_w _).trans hji19
          by_cases c20 : 0 ≤ (ji19)
          ·rw [if_pos c20] at H
           have c20b0 : decide (0 ≤ (ji19)) = true := decide_eq_true c20
           clear c20
           by_cases c21 : (ji19) < (l0_1.length : Int)
           ·rw [if_pos c21] at H
            have c21b0 : decide ((ji19) < (l0_1.length : Int)) = true := decide_eq_true c21
            clear c21
            by_cases c22 : ((Op.bytesLess (((rd_T102 l0_1 (ji19)).f0).toList) (((rd_T102 l0_1 x8_1).f0).toList)) = true)
            ·rw [if_pos c22] at H
             have c22b0 : (Op.bytesLess (((rd_T102 l0_1 (ji19)).f0).toList) (((rd_T102 l0_1 x8_1).f0).toList)) = true := c22
             clear c22
             have H' := aM H
             clear H
             have p231 : 0 ≤ (x8_1 : Int) := dT
             have q231 : x8_1 < (l0_1.length : Int) := dT
             obtain ⟨ad231, A231_1, c231_1, e231, hx231_0, hx231_1, hl231_1, hi231_1⟩ := at_T102 HR0_1.out x8_1 p231 q231
             cases e231
             try have hz_hx231_0 := aM hx231_0
             try have hz_hx231_1 := aM hx231_1
             replace hx231_0 := (HB.out.cell (World.block_lt_of_cell? w _ hx231_0)).trans hx231_0
             replace hx231_1 := (HB.out.cell (World.block_lt_of_cell? w _ hx231_1)).trans hx231_1
             have HR231_1 := aM hi231_1
             have HC231_1 := aM hl231_1
             clear hi231_1 hl231_1
             replace p231 := eq_true p231
             replace q231 := eq_true q231
             try go_wp2_with (first | ((with_reducible refine gate_dst (N := 4) rfl ?_); (try (refine gate_guard (by rfl) ?_; dsimp only)); refine box_event ?hg (N := 4) ?hd (cs := #[.string (⟨#[]⟩ : ByteArray), .slice none 0 0]) (t := 102) ?hr ?_; (case hd => rfl); (case hg => rfl); (case hr => first | (go_simp; done) | (go_simp; rfl)); intro gb232 hg w23 hbox hb; have n0_ := aM (blk_below (g := gb229) (o := .cells #[.int .i64 a0_0, .slice (some ad231) l0_1.length c0_1] 33 (0, 0)) (by (with_reducible repeat (first | refine blk_drewN ?_ _ | refine blk_drew ?_ | refine blk_alloc ?_ _)); exact BK229.out) hb); have n1_ := aM (below_step (by repeat (first | (with_reducible first | exact HB.out | apply below_alloc | apply pw_below_drewN | apply below_drew1 | refine below_set ?_ GE229.out) | exact HB.out)) hb); have n2_ := aM (hbox); have n3_ := aM ((by rw [hg]; exact (below_size (by repeat (first | (with_reducible first | exact HB.out | apply below_alloc | apply pw_below_drewN | apply below_drew1 | refine below_set ?_ GE229.out) | exact HB.out))) : w.heap.size ≤ gb232)); have n4_ := aM ((by rw [hg]; exact (below_size (by repeat (first | (with_reducible first | exact HB.out | apply below_alloc | apply pw_below_drewN | apply below_drew1 | refine below_set ?_ GE229.out) | exact HB.out))) : w.heap.size ≤ gb232)); have n5_ := aM ((by rw [hg]; exact Nat.ne_of_lt (blk_lt (g := gb229) (o := .cells #[.int .i64 a0_0, .slice (some ad231) l0_1.length c0_1] 33 (0, 0)) (by (with_reducible repeat (first | refine blk_drewN ?_ _ | refine blk_drew ?_ | refine blk_alloc ?_ _)); exact BK229.out)) : gb229 ≠ gb232)); have n6_ := aM ((by rw [hg]; exact Nat.ne_of_gt (blk_lt (g := gb229) (o := .cells #[.int .i64 a0_0, .slice (some ad231) l0_1.length c0_1] 33 (0, 0)) (by (with_reducible repeat (first | refine blk_drewN ?_ _ | refine blk_drew ?_ | refine blk_alloc ?_ _)); exact BK229.out)) : gb232 ≠ gb229)); clear BK229; clear HB; have BK229 := n0_; have HB := n1_; have BK232 := n2_; have GW232 := n3_; have GE232 := n4_; have NB229_232 := n5_; have NB232_229 := n6_; clear n0_ n1_ n2_ n3_ n4_ n5_ n6_; clear hb hbox hg; have hnb24 := NB232_229.out; have hnc24 := NB229_232.out; have hcz25_0 : w23.cell? ⟨gb232, 0, none⟩ = some (.string (⟨#[]⟩ : ByteArray)) := (blk_cell BK232.out 0).trans rfl; have hcz25_1 : w23.cell? ⟨gb232, 1, none⟩ = some (.slice none 0 0) := (blk_cell BK232.out 1).trans rfl; have hfz25_0 := blk_frozen BK232.out 0; have hfz25_1 := blk_frozen BK232.out 1))
             have n0_ : Aside0 (((w23.setCell ⟨gb232, 0, none⟩ (.string ((rd_T102 l0_1 x8_1).f0))).setCell ⟨gb232, 1, none⟩ (.slice A231_1 ((rd_T102 l0_1 x8_1).f1).length c231_1)).heap[gb229]? = some (.cells #[.int .i64 a0_0, .slice (some ad231) l0_1.length c0_1] 33 (0, 0))) := ⟨by (with_reducible repeat (first | refine blk_drewN ?_ _ | refine blk_drew ?_ | refine blk_alloc ?_ _)); refine blk_far ?_ NB229_232.out _; (with_reducible repeat (first | refine blk_drewN ?_ _ | refine blk_drew ?_ | refine blk_alloc ?_ _)); refine blk_far ?_ NB229_232.out _; (with_reducible repeat (first | refine blk_drewN ?_ _ | refine blk_drew ?_ | refine blk_alloc ?_ _)); exact BK229.out⟩
             have n1_ : Aside0 (((w23.setCell ⟨gb232, 0, none⟩ (.string ((rd_T102 l0_1 x8_1).f0))).setCell ⟨gb232, 1, none⟩ (.slice A231_1 ((rd_T102 l0_1 x8_1).f1).length c231_1)).heap[gb232]? = some (.cells #[.string ((rd_T102 l0_1 x8_1).f0), .slice A231_1 ((rd_T102 l0_1 x8_1).f1).length c231_1] 102 (0, 0))) := ⟨by (with_reducible repeat (first | refine blk_drewN ?_ _ | refine blk_drew ?_ | refine blk_alloc ?_ _)); refine blk_put (cs := #[.string ((rd_T102 l0_1 x8_1).f0), .slice none 0 0]) ?_ 1 _ rfl; (with_reducible repeat (first | refine blk_drewN ?_ _ | refine blk_drew ?_ | refine blk_alloc ?_ _)); refine blk_put (cs := #[.string (⟨#[]⟩ : ByteArray), .slice none 0 0]) ?_ 0 _ rfl; (with_reducible repeat (first | refine blk_drewN ?_ _ | refine blk_drew ?_ | refine blk_alloc ?_ _)); exact BK232.out⟩
             have n2_ : Aside0 (Below w.heap.size w ((w23.setCell ⟨gb232, 0, none⟩ (.string ((rd_T102 l0_1 x8_1).f0))).setCell ⟨gb232, 1, none⟩ (.slice A231_1 ((rd_T102 l0_1 x8_1).f1).length c231_1))) := ⟨by repeat (first | (with_reducible first | exact HB.out | apply below_alloc | apply pw_below_drewN | apply below_drew1 | refine below_set ?_ GE229.out | refine below_set ?_ GE232.out) | exact HB.out)⟩
             (try clear BK229)
             (try clear BK232)
             (try clear HB)
             generalize ((w23.setCell ⟨gb232, 0, none⟩ (.string ((rd_T102 l0_1 x8_1).f0))).setCell ⟨gb232, 1, none⟩ (.slice A231_1 ((rd_T102 l0_1 x8_1).f1).length c231_1)) = w26 at n0_ n1_ n2_ ⊢
             have BK229 := n0_
             have BK232 := n1_
             have HB := n2_
             clear n0_ n1_ n2_
             have n0_ := aM (blk_drew BK229.out)
             have n1_ := aM (blk_drew BK232.out)
             have n2_ := aM (below_drew1 HB.out)
             clear BK229
             clear BK232
             clear HB
             have BK229 := n0_
             have BK232 := n1_
             have HB := n2_
             clear n0_ n1_ n2_
             have p235 : 0 ≤ ((ji19) : Int) := dT
             have q235 : (ji19) < (l0_1.length : Int) := dT
             obtain ⟨ad235, A235_1, c235_1, e235, hx235_0, hx235_1, hl235_1, hi235_1⟩ := at_T102 HR0_1.out (ji19) p235 q235
             have hw235_1 := hx235_1
             have hw235_0 := hx235_0
             obtain rfl : ad231 = ad235 := (by injection e235)
             try have hz_hx235_0 := aM hx235_0
             try have hz_hx235_1 := aM hx235_1
             replace hx235_0 := (HB.out.cell (World.block_lt_of_cell? w _ hx235_0)).trans hx235_0
             replace hx235_1 := (HB.out.cell (World.block_lt_of_cell? w _ hx235_1)).trans hx235_1
             have HR235_1 := aM hi235_1
             have HC235_1 := aM hl235_1
             clear hi235_1 hl235_1
             replace p235 := eq_true p235
             replace q235 := eq_true q235
             refine start_ (n := 34) (S := fun w' => w'.cell? ⟨gb232, 0, none⟩ = some (.string ((rd_T102 l0_1 x8_1).f0)) ∧ w'.cell? ⟨gb232, 1, none⟩ = some (.slice A231_1 ((rd_T102 l0_1 x8_1).f1).length c231_1) ∧ w'.cell? ⟨gb229, 0, none⟩ = some (.int .i64 a0_0) ∧ w'.cell? ⟨gb229, 1, none⟩ = some (.slice (some ad231) l0_1.length c0_1) ∧ w'.cell? (ad231.add (((ji19)).toNat * 2)) = some (.string ((rd_T102 l0_1 (ji19)).f0)) ∧ w'.cell? ⟨(ad231.add (((ji19)).toNat * 2)).block, (ad231.add (((ji19)).toNat * 2)).off + 1, none⟩ = some (.slice A235_1 ((rd_T102 l0_1 (ji19)).f1).length c235_1)) (ds := []) (bq 34 0) (by kernel_rfl) rfl (by kernel_rfl) ⟨(blk_cell BK232.out 0).trans rfl, (blk_cell BK232.out 1).trans rfl, (blk_cell BK229.out 0).trans rfl, (blk_cell BK229.out 1).trans rfl, ((HB.out.cell (World.block_lt_of_cell? w _ hw235_0)).trans hw235_0), ((HB.out.cell (World.block_lt_of_cell? w _ hw235_1)).trans hw235_1)⟩ (fun hHeld => ?_); refine with_tabW spec_GoodWords.tab4 spec_GoodWords.bits4 (fun HT_ HW_ => ?_)
             generalize w26.drew = w27 at BK229 BK232 HB HR235_1 hx235_0 hx235_1 hHeld ⊢
             refine pZ 34 1 0 13 HT_ ?_
             refine tZ6 34 3 1 14 HT_ HW_ hHeld ?_
             refine one_ (i := 2) (N := some 15) (bq 34 7) rfl rfl (one_of HT_.out (by kernel_rfl)) (by decide) (fun K hK => ?_)
             refine gA Try.func94 #[.string ((rd_T102 l0_1 x8_1).f0)] ?_
             with_reducible refine (spec_l10Word.calls k1 ((rd_T102 l0_1 x8_1).f0) true _ A7.out).mono ?_
             rintro e w28 ⟨rfl, hb⟩
             refine ⟨_, rfl, ?_⟩
             have n0_ := aM (blk_below (g := gb229) (o := .cells #[.int .i64 a0_0, .slice (some ad231) l0_1.length c0_1] 33 (0, 0)) (by (with_reducible repeat (first | refine blk_drewN ?_ _ | refine blk_drew ?_ | refine blk_alloc ?_ _)); exact BK229.out) hb)
             have n1_ := aM (blk_below (g := gb232) (o := .cells #[.string ((rd_T102 l0_1 x8_1).f0), .slice A231_1 ((rd_T102 l0_1 x8_1).f1).length c231_1] 102 (0, 0)) (by (with_reducible repeat (first | refine blk_drewN ?_ _ | refine blk_drew ?_ | refine blk_alloc ?_ _)); exact BK232.out) hb)
             have n2_ := aM (below_step (by repeat (first | (with_reducible first | exact HB.out | apply below_alloc | apply pw_below_drewN | apply below_drew1 | refine below_set ?_ GE229.out | refine below_set ?_ GE232.out) | exact HB.out)) hb)
             clear BK229
             clear BK232
             clear HB
             have BK229 := n0_
             have BK232 := n1_
             have HB := n2_
             clear n0_ n1_ n2_
             (try clear hb)
             (try clear hb2)
             (try clear hk)
             (try clear hi)
             refine hK.out _ _ ⟨(blk_cell BK232.out 0).trans rfl, (blk_cell BK232.out 1).trans rfl, (blk_cell BK229.out 0).trans rfl, (blk_cell BK229.out 1).trans rfl, ((HB.out.cell (World.block_lt_of_cell? w _ hw235_0)).trans hw235_0), ((HB.out.cell (World.block_lt_of_cell? w _ hw235_1)).trans hw235_1)⟩ (fun hHeld => ?_)
             clear hK K
             refine nM 15 ?_
             refine pZ 34 15 3 16 HT_ ?_
             refine pZ 34 31 4 17 HT_ ?_
             refine pZ 34 63 5 18 HT_ ?_
             refine tZ6 34 127 6 19 HT_ HW_ hHeld ?_
             refine pZ 34 255 7 20 HT_ ?_
             refine pZ 34 511 8 21 HT_ ?_
             refine pZ 34 1023 9 22 HT_ ?_
             refine pZ 34 2047 10 23 HT_ ?_
             refine pZ 34 4095 11 24 HT_ ?_
             refine pZ 34 12287 13 26 HT_ ?_
             refine tZ6 34 16383 12 25 HT_ HW_ hHeld ?_
             refine tZ6 34 32767 14 27 HT_ HW_ hHeld ?_
             refine one_ (i := 15) (N := some 28) (bq 34 65535) rfl rfl (one_of HT_.out (by kernel_rfl)) (by decide) (fun K hK => ?_)
             refine gA Try.func95 #[.slice A231_1 ((rd_T102 l0_1 x8_1).f1).length c231_1, .int .i64 a0_0] ?_
             with_reducible refine (spec_l10List.calls k1 _ _ ((rd_T102 l0_1 x8_1).f1) a0_0 true _ ?side1 ?side2 A16.out).mono ?_
             (case side1 => repeat (first | exact (Kd.C_below HR231_1.out HB.out) | (with_reducible refine Kd.C_alloc ?_ _) | (with_reducible refine Kd.C_drewN ?_ _) | (with_reducible refine Kd.C_drew ?_)))
             (case side2 => exact HC231_1.out)
             rintro e w29 ⟨rfl, hb⟩
             refine ⟨_, rfl, ?_⟩
             have n0_ := aM (blk_below (g := gb229) (o := .cells #[.int .i64 a0_0, .slice (some ad231) l0_1.length c0_1] 33 (0, 0)) (by (with_reducible repeat (first | refine blk_drewN ?_ _ | refine blk_drew ?_ | refine blk_alloc ?_ _)); exact BK229.out) hb)
             have n1_ := aM (blk_below (g := gb232) (o := .cells #[.string ((rd_T102 l0_1 x8_1).f0), .slice A231_1 ((rd_T102 l0_1 x8_1).f1).length c231_1] 102 (0, 0)) (by (with_reducible repeat (first | refine blk_drewN ?_ _ | refine blk_drew ?_ | refine blk_alloc ?_ _)); exact BK232.out) hb)
             have n2_ := aM (below_step (by repeat (first | (with_reducible first | exact HB.out | apply below_alloc | apply pw_below_drewN | apply below_drew1 | refine below_set ?_ GE229.out | refine below_set ?_ GE232.out) | exact HB.out)) hb)
             clear BK229
             clear BK232
             clear HB
             have BK229 := n0_
             have BK232 := n1_
             have HB := n2_
             clear n0_ n1_ n2_
             (try clear hb)
             (try clear hb2)
             (try clear hk)
             (try clear hi)
             refine hK.out _ _ ⟨(blk_cell BK232.out 0).trans rfl, (blk_cell BK232.out 1).trans rfl, (blk_cell BK229.out 0).trans rfl, (blk_cell BK229.out 1).trans rfl, ((HB.out.cell (World.block_lt_of_cell? w _ hw235_0)).trans hw235_0), ((HB.out.cell (World.block_lt_of_cell? w _ hw235_1)).trans hw235_1)⟩ (fun hHeld => ?_)
             clear hK K
             refine nM 28 ?_
             refine pZ 34 131071 16 29 HT_ ?_
             refine pZ 34 262143 17 30 HT_ ?_
             refine pZ 34 524287 18 31 HT_ ?_
             refine pZ 34 1048575 19 32 HT_ ?_
             refine pZ 34 2097151 20 33 HT_ ?_
             refine pZ 34 4194303 21 34 HT_ ?_
             refine pZ 34 8388607 22 35 HT_ ?_
             refine pZ 34 25165823 24 37 HT_ ?_
             refine pZ 34 58720255 25 38 HT_ ?_
             refine pZ 34 595591167 29 42 HT_ ?_
             refine tZ6 34 603979775 23 36 HT_ HW_ hHeld ?_
             refine pZ 34 671088639 26 39 HT_ ?_
             refine pZ 34 805306367 27 40 HT_ ?_
             refine tZ6 34 1073741823 28 41 HT_ HW_ hHeld ?_
             refine tZ6 34 2147483647 30 43 HT_ HW_ hHeld ?_
             refine pZ 34 4294967295 31 44 HT_ ?_
             refine pZ 34 8589934591 32 45 HT_ ?_
             refine pZ 34 17179869183 33 46 HT_ ?_
             refine done_ (done_of HT_.out (by kernel_rfl)) ?_
             try go_wp2
             go_roundg k1
             case measure => have := HK1.out; omega
             case rel => exact ⟨(wrap64 (x8_1 + 1)), (by first | rfl | (simp; done) | (simp [*]; done)), H', ⟨by have := HK1.out; omega⟩, ⟨by (with_reducible repeat (first | refine blk_drewN ?_ _ | refine blk_drew ?_ | refine blk_alloc ?_ _)); exact BK229.out⟩, ⟨by repeat (first | (with_reducible first | exact HB.out | apply below_alloc | apply pw_below_drewN | apply below_drew1 | refine below_set ?_ GE229.out | refine below_set ?_ GE232.out) | exact HB.out)⟩⟩
            ·rw [if_neg c22] at H
             have c22b0 : (Op.bytesLess (((rd_T102 l0_1 (ji19)).f0).toList) (((rd_T102 l0_1 x8_1).f0).toList)) = false := by simpa using c22
             clear c22
             obtain rfl := Option.some.inj H
             have p231 : 0 ≤ (x8_1 : Int) := dT
             have q231 : x8_1 < (l0_1.length : Int) := dT
             obtain ⟨ad231, A231_1, c231_1, e231, hx231_0, hx231_1, hl231_1, hi231_1⟩ := at_T102 HR0_1.out x8_1 p231 q231
             cases e231
             try have hz_hx231_0 := aM hx231_0
             try have hz_hx231_1 := aM hx231_1
             replace hx231_0 := (HB.out.cell (World.block_lt_of_cell? w _ hx231_0)).trans hx231_0
             replace hx231_1 := (HB.out.cell (World.block_lt_of_cell? w _ hx231_1)).trans hx231_1
             have HR231_1 := aM hi231_1
             have HC231_1 := aM hl231_1
             clear hi231_1 hl231_1
             replace p231 := eq_true p231
             replace q231 := eq_true q231
             try go_wp2_with (first | ((with_reducible refine gate_dst (N := 4) rfl ?_); (try (refine gate_guard (by rfl) ?_; dsimp only)); refine box_event ?hg (N := 4) ?hd (cs := #[.string (⟨#[]⟩ : ByteArray), .slice none 0 0]) (t := 102) ?hr ?_; (case hd => rfl); (case hg => rfl); (case hr => first | (go_simp; done) | (go_simp; rfl)); intro gb232 hg w30 hbox hb; have n0_ := aM (blk_below (g := gb229) (o := .cells #[.int .i64 a0_0, .slice (some ad231) l0_1.length c0_1] 33 (0, 0)) (by (with_reducible repeat (first | refine blk_drewN ?_ _ | refine blk_drew ?_ | refine blk_alloc ?_ _)); exact BK229.out) hb); have n1_ := aM (below_step (by repeat (first | (with_reducible first | exact HB.out | apply below_alloc | apply pw_below_drewN | apply below_drew1 | refine below_set ?_ GE229.out) | exact HB.out)) hb); have n2_ := aM (hbox); have n3_ := aM ((by rw [hg]; exact (below_size (by repeat (first | (with_reducible first | exact HB.out | apply below_alloc | apply pw_below_drewN | apply below_drew1 | refine below_set ?_ GE229.out) | exact HB.out))) : w.heap.size ≤ gb232)); have n4_ := aM ((by rw [hg]; exact (below_size (by repeat (first | (with_reducible first | exact HB.out | apply below_alloc | apply pw_below_drewN | apply below_drew1 | refine below_set ?_ GE229.out) | exact HB.out))) : w.heap.size ≤ gb232)); have n5_ := aM ((by rw [hg]; exact Nat.ne_of_lt (blk_lt (g := gb229) (o := .cells #[.int .i64 a0_0, .slice (some ad231) l0_1.length c0_1] 33 (0, 0)) (by (with_reducible repeat (first | refine blk_drewN ?_ _ | refine blk_drew ?_ | refine blk_alloc ?_ _)); exact BK229.out)) : gb229 ≠ gb232)); have n6_ := aM ((by rw [hg]; exact Nat.ne_of_gt (blk_lt (g := gb229) (o := .cells #[.int .i64 a0_0, .slice (some ad231) l0_1.length c0_1] 33 (0, 0)) (by (with_reducible repeat (first | refine blk_drewN ?_ _ | refine blk_drew ?_ | refine blk_alloc ?_ _)); exact BK229.out)) : gb232 ≠ gb229)); clear BK229; clear HB; have BK229 := n0_; have HB := n1_; have BK232 := n2_; have GW232 := n3_; have GE232 := n4_; have NB229_232 := n5_; have NB232_229 := n6_; clear n0_ n1_ n2_ n3_ n4_ n5_ n6_; clear hb hbox hg; have hnb31 := NB232_229.out; have hnc31 := NB229_232.out; have hcz32_0 : w30.cell? ⟨gb232, 0, none⟩ = some (.string (⟨#[]⟩ : ByteArray)) := (blk_cell BK232.out 0).trans rfl; have hcz32_1 : w30.cell? ⟨gb232, 1, none⟩ = some (.slice none 0 0) := (blk_cell BK232.out 1).trans rfl; have hfz32_0 := blk_frozen BK232.out 0; have hfz32_1 := blk_frozen BK232.out 1))
             have n0_ : Aside0 (((w30.setCell ⟨gb232, 0, none⟩ (.string ((rd_T102 l0_1 x8_1).f0))).setCell ⟨gb232, 1, none⟩ (.slice A231_1 ((rd_T102 l0_1 x8_1).f1).length c231_1)).heap[gb229]? = some (.cells #[.int .i64 a0_0, .slice (some ad231) l0_1.length c0_1] 33 (0, 0))) := ⟨by (with_reducible repeat (first | refine blk_drewN ?_ _ | refine blk_drew ?_ | refine blk_alloc ?_ _)); refine blk_far ?_ NB229_232.out _; (with_reducible repeat (first | refine blk_drewN ?_ _ | refine blk_drew ?_ | refine blk_alloc ?_ _)); refine blk_far ?_ NB229_232.out _; (with_reducible repeat (first | refine blk_drewN ?_ _ | refine blk_drew ?_ | refine blk_alloc ?_ _)); exact BK229.out⟩
             have n1_ : Aside0 (((w30.setCell ⟨gb232, 0, none⟩ (.string ((rd_T102 l0_1 x8_1).f0))).setCell ⟨gb232, 1, none⟩ (.slice A231_1 ((rd_T102 l0_1 x8_1).f1).length c231_1)).heap[gb232]? = some (.cells #[.string ((rd_T102 l0_1 x8_1).f0), .slice A231_1 ((rd_T102 l0_1 x8_1).f1).length c231_1] 102 (0, 0))) := ⟨by (with_reducible repeat (first | refine blk_drewN ?_ _ | refine blk_drew ?_ | refine blk_alloc ?_ _)); refine blk_put (cs := #[.string ((rd_T102 l0_1 x8_1).f0), .slice none 0 0]) ?_ 1 _ rfl; (with_reducible repeat (first | refine blk_drewN ?_ _ | refine blk_drew ?_ | refine blk_alloc ?_ _)); refine blk_put (cs := #[.string (⟨#[]⟩ : ByteArray), .slice none 0 0]) ?_ 0 _ rfl; (with_reducible repeat (first | refine blk_drewN ?_ _ | refine blk_drew ?_ | refine blk_alloc ?_ _)); exact BK232.out⟩
             have n2_ : Aside0 (Below w.heap.size w ((w30.setCell ⟨gb232, 0, none⟩ (.string ((rd_T102 l0_1 x8_1).f0))).setCell ⟨gb232, 1, none⟩ (.slice A231_1 ((rd_T102 l0_1 x8_1).f1).length c231_1))) := ⟨by repeat (first | (with_reducible first | exact HB.out | apply below_alloc | apply pw_below_drewN | apply below_drew1 | refine below_set ?_ GE229.out | refine below_set ?_ GE232.out) | exact HB.out)⟩
             (try clear BK229)
             (try clear BK232)
             (try clear HB)
             generalize ((w30.setCell ⟨gb232, 0, none⟩ (.string ((rd_T102 l0_1 x8_1).f0))).setCell ⟨gb232, 1, none⟩ (.slice A231_1 ((rd_T102 l0_1 x8_1).f1).length c231_1)) = w33 at n0_ n1_ n2_ ⊢
             have BK229 := n0_
             have BK232 := n1_
             have HB := n2_
             clear n0_ n1_ n2_
             have n0_ := aM (blk_drew BK229.out)
             have n1_ := aM (blk_drew BK232.out)
             have n2_ := aM (below_drew1 HB.out)
             clear BK229
             clear BK232
             clear HB
             have BK229 := n0_
             have BK232 := n1_
             have HB := n2_
             clear n0_ n1_ n2_
             have p235 : 0 ≤ ((ji19) : Int) := dT
             have q235 : (ji19) < (l0_1.length : Int) := dT
             obtain ⟨ad235, A235_1, c235_1, e235, hx235_0, hx235_1, hl235_1, hi235_1⟩ := at_T102 HR0_1.out (ji19) p235 q235
             have hw235_1 := hx235_1
             have hw235_0 := hx235_0
             obtain rfl : ad231 = ad235 := (by injection e235)
             try have hz_hx235_0 := aM hx235_0
             try have hz_hx235_1 := aM hx235_1
             replace hx235_0 := (HB.out.cell (World.block_lt_of_cell? w _ hx235_0)).trans hx235_0
             replace hx235_1 := (HB.out.cell (World.block_lt_of_cell? w _ hx235_1)).trans hx235_1
             have HR235_1 := aM hi235_1
             have HC235_1 := aM hl235_1
             clear hi235_1 hl235_1
             replace p235 := eq_true p235
             replace q235 := eq_true q235
             refine start_ (n := 34) (S := fun w' => w'.cell? ⟨gb232, 0, none⟩ = some (.string ((rd_T102 l0_1 x8_1).f0)) ∧ w'.cell? ⟨gb232, 1, none⟩ = some (.slice A231_1 ((rd_T102 l0_1 x8_1).f1).length c231_1) ∧ w'.cell? ⟨gb229, 0, none⟩ = some (.int .i64 a0_0) ∧ w'.cell? ⟨gb229, 1, none⟩ = some (.slice (some ad231) l0_1.length c0_1) ∧ w'.cell? (ad231.add (((ji19)).toNat * 2)) = some (.string ((rd_T102 l0_1 (ji19)).f0)) ∧ w'.cell? ⟨(ad231.add (((ji19)).toNat * 2)).block, (ad231.add (((ji19)).toNat * 2)).off + 1, none⟩ = some (.slice A235_1 ((rd_T102 l0_1 (ji19)).f1).length c235_1)) (ds := []) (bq 34 0) (by kernel_rfl) rfl (by kernel_rfl) ⟨(blk_cell BK232.out 0).trans rfl, (blk_cell BK232.out 1).trans rfl, (blk_cell BK229.out 0).trans rfl, (blk_cell BK229.out 1).trans rfl, ((HB.out.cell (World.block_lt_of_cell? w _ hw235_0)).trans hw235_0), ((HB.out.cell (World.block_lt_of_cell? w _ hw235_1)).trans hw235_1)⟩ (fun hHeld => ?_); refine with_tabW spec_GoodWords.tab4 spec_GoodWords.bits4 (fun HT_ HW_ => ?_)
             generalize w33.drew = w34 at BK229 BK232 HB HR235_1 hx235_0 hx235_1 hHeld ⊢
             refine pZ 34 1 0 13 HT_ ?_
             refine tZ6 34 3 1 14 HT_ HW_ hHeld ?_
             refine one_ (i := 2) (N := some 15) (bq 34 7) rfl rfl (one_of HT_.out (by kernel_rfl)) (by decide) (fun K hK => ?_)
             refine gA Try.func94 #[.string ((rd_T102 l0_1 x8_1).f0)] ?_
             with_reducible refine (spec_l10Word.calls k1 ((rd_T102 l0_1 x8_1).f0) true _ A7.out).mono ?_
             rintro e w35 ⟨rfl, hb⟩
             refine ⟨_, rfl, ?_⟩
             have n0_ := aM (blk_below (g := gb229) (o := .cells #[.int .i64 a0_0, .slice (some ad231) l0_1.length c0_1] 33 (0, 0)) (by (with_reducible repeat (first | refine blk_drewN ?_ _ | refine blk_drew ?_ | refine blk_alloc ?_ _)); exact BK229.out) hb)
             have n1_ := aM (blk_below (g := gb232) (o := .cells #[.string ((rd_T102 l0_1 x8_1).f0), .slice A231_1 ((rd_T102 l0_1 x8_1).f1).length c231_1] 102 (0, 0)) (by (with_reducible repeat (first | refine blk_drewN ?_ _ | refine blk_drew ?_ | refine blk_alloc ?_ _)); exact BK232.out) hb)
             have n2_ := aM (below_step (by repeat (first | (with_reducible first | exact HB.out | apply below_alloc | apply pw_below_drewN | apply below_drew1 | refine below_set ?_ GE229.out | refine below_set ?_ GE232.out) | exact HB.out)) hb)
             clear BK229
             clear BK232
             clear HB
             have BK229 := n0_
             have BK232 := n1_
             have HB := n2_
             clear n0_ n1_ n2_
             (try clear hb)
             (try clear hb2)
             (try clear hk)
             (try clear hi)
             refine hK.out _ _ ⟨(blk_cell BK232.out 0).trans rfl, (blk_cell BK232.out 1).trans rfl, (blk_cell BK229.out 0).trans rfl, (blk_cell BK229.out 1).trans rfl, ((HB.out.cell (World.block_lt_of_cell? w _ hw235_0)).trans hw235_0), ((HB.out.cell (World.block_lt_of_cell? w _ hw235_1)).trans hw235_1)⟩ (fun hHeld => ?_)
             clear hK K
             refine nM 15 ?_
             refine pZ 34 15 3 16 HT_ ?_
             refine pZ 34 31 4 17 HT_ ?_
             refine pZ 34 63 5 18 HT_ ?_
             refine tZ6 34 127 6 19 HT_ HW_ hHeld ?_
             refine pZ 34 255 7 20 HT_ ?_
             refine pZ 34 511 8 21 HT_ ?_
             refine pZ 34 1023 9 22 HT_ ?_
             refine pZ 34 2047 10 23 HT_ ?_
             refine pZ 34 4095 11 24 HT_ ?_
             refine pZ 34 12287 13 26 HT_ ?_
             refine tZ6 34 16383 12 25 HT_ HW_ hHeld ?_
             refine tZ6 34 32767 14 27 HT_ HW_ hHeld ?_
             refine one_ (i := 15) (N := some 28) (bq 34 65535) rfl rfl (one_of HT_.out (by kernel_rfl)) (by decide) (fun K hK => ?_)
             refine gA Try.func95 #[.slice A231_1 ((rd_T102 l0_1 x8_1).f1).length c231_1, .int .i64 a0_0] ?_
             with_reducible refine (spec_l10List.calls k1 _ _ ((rd_T102 l0_1 x8_1).f1) a0_0 true _ ?side1 ?side2 A16.out).mono ?_
             (case side1 => repeat (first | exact (Kd.C_below HR231_1.out HB.out) | (with_reducible refine Kd.C_alloc ?_ _) | (with_reducible refine Kd.C_drewN ?_ _) | (with_reducible refine Kd.C_drew ?_)))
             (case side2 => exact HC231_1.out)
             rintro e w36 ⟨rfl, hb⟩
             refine ⟨_, rfl, ?_⟩
             have n0_ := aM (blk_below (g := gb229) (o := .cells #[.int .i64 a0_0, .slice (some ad231) l0_1.length c0_1] 33 (0, 0)) (by (with_reducible repeat (first | refine blk_drewN ?_ _ | refine blk_drew ?_ | refine blk_alloc ?_ _)); exact BK229.out) hb)
             have n1_ := aM (blk_below (g := gb232) (o := .cells #[.string ((rd_T102 l0_1 x8_1).f0), .slice A231_1 ((rd_T102 l0_1 x8_1).f1).length c231_1] 102 (0, 0)) (by (with_reducible repeat (first | refine blk_drewN ?_ _ | refine blk_drew ?_ | refine blk_alloc ?_ _)); exact BK232.out) hb)
             have n2_ := aM (below_step (by repeat (first | (with_reducible first | exact HB.out | apply below_alloc | apply pw_below_drewN | apply below_drew1 | refine below_set ?_ GE229.out | refine below_set ?_ GE232.out) | exact HB.out)) hb)
             clear BK229
             clear BK232
             clear HB
             have BK229 := n0_
             have BK232 := n1_
             have HB := n2_
             clear n0_ n1_ n2_
             (try clear hb)
             (try clear hb2)
             (try clear hk)
             (try clear hi)
             refine hK.out _ _ ⟨(blk_cell BK232.out 0).trans rfl, (blk_cell BK232.out 1).trans rfl, (blk_cell BK229.out 0).trans rfl, (blk_cell BK229.out 1).trans rfl, ((HB.out.cell (World.block_lt_of_cell? w _ hw235_0)).trans hw235_0), ((HB.out.cell (World.block_lt_of_cell? w _ hw235_1)).trans hw235_1)⟩ (fun hHeld => ?_)
             clear hK K
             refine nM 28 ?_
             refine pZ 34 131071 16 29 HT_ ?_
             refine pZ 34 262143 17 30 HT_ ?_
             refine pZ 34 524287 18 31 HT_ ?_
             refine pZ 34 1048575 19 32 HT_ ?_
             refine pZ 34 2097151 20 33 HT_ ?_
             refine pZ 34 4194303 21 34 HT_ ?_
             refine pZ 34 8388607 22 35 HT_ ?_
             refine pZ 34 25165823 24 37 HT_ ?_
             refine pZ 34 58720255 25 38 HT_ ?_
             refine pZ 34 595591167 29 42 HT_ ?_
             refine tZ6 34 603979775 23 36 HT_ HW_ hHeld ?_
             refine pZ 34 671088639 26 39 HT_ ?_
             refine pZ 34 805306367 27 40 HT_ ?_
             refine tZ6 34 1073741823 28 41 HT_ HW_ hHeld ?_
             refine tZ6 34 2147483647 30 43 HT_ HW_ hHeld ?_
             refine pZ 34 4294967295 31 44 HT_ ?_
             refine pZ 34 8589934591 32 45 HT_ ?_
             refine pZ 34 17179869183 33 46 HT_ ?_
             refine done_ (done_of HT_.out (by kernel_rfl)) ?_
             try go_wp2
             go_ret
             exact ⟨by first | rfl | (simp [errW_none, errW_some] <;> rfl) | (simp only [← hji19]; first | rfl | (simp [errW_none, errW_some] <;> rfl)) | (simp [*, errW_none, errW_some] <;> rfl), by repeat (first | (with_reducible first | exact HB.out | apply below_alloc | apply pw_below_drewN | apply below_drew1 | refine below_set ?_ GE229.out | refine below_set ?_ GE232.out) | exact HB.out)⟩
           ·rw [if_neg c21] at H
            exact absurd H (by simp)
          ·rw [if_neg c20] at H
           exact absurd H (by simp)
         ·rw [if_neg c18] at H
          have c18b0 : decide (0 < x8_1) = false := decide_eq_false c18
          clear c18
          have H' := aM H
          clear H
          have p231 : 0 ≤ (x8_1 : Int) := dT
          have q231 : x8_1 < (l0_1.length : Int) := dT
          obtain ⟨ad231, A231_1, c231_1, e231, hx231_0, hx231_1, hl231_1, hi231_1⟩ := at_T102 HR0_1.out x8_1 p231 q231
          cases e231
          try have hz_hx231_0 := aM hx231_0
          try have hz_hx231_1 := aM hx231_1
          replace hx231_0 := (HB.out.cell (World.block_lt_of_cell? w _ hx231_0)).trans hx231_0
          replace hx231_1 := (HB.out.cell (World.block_lt_of_cell? w _ hx231_1)).trans hx231_1
          have HR231_1 := aM hi231_1
          have HC231_1 := aM hl231_1
          clear hi231_1 hl231_1
          replace p231 := eq_true p231
          replace q231 := eq_true q231
          try go_wp2_with (first | ((with_reducible refine gate_dst (N := 4) rfl ?_); (try (refine gate_guard (by rfl) ?_; dsimp only)); refine box_event ?hg (N := 4) ?hd (cs := #[.string (⟨#[]⟩ : ByteArray), .slice none 0 0]) (t := 102) ?hr ?_; (case hd => rfl); (case hg => rfl); (case hr => first | (go_simp; done) | (go_simp; rfl)); intro gb232 hg w37 hbox hb; have n0_ := aM (blk_below (g := gb229) (o := .cells #[.int .i64 a0_0, .slice (some ad231) l0_1.length c0_1] 33 (0, 0)) (by (with_reducible repeat (first | refine blk_drewN ?_ _ | refine blk_drew ?_ | refine blk_alloc ?_ _)); exact BK229.out) hb); have n1_ := aM (below_step (by repeat (first | (with_reducible first | exact HB.out | apply below_alloc | apply pw_below_drewN | apply below_drew1 | refine below_set ?_ GE229.out) | exact HB.out)) hb); have n2_ := aM (hbox); have n3_ := aM ((by rw [hg]; exact (below_size (by repeat (first | (with_reducible first | exact HB.out | apply below_alloc | apply pw_below_drewN | apply below_drew1 | refine below_set ?_ GE229.out) | exact HB.out))) : w.heap.size ≤ gb232)); have n4_ := aM ((by rw [hg]; exact (below_size (by repeat (first | (with_reducible first | exact HB.out | apply below_alloc | apply pw_below_drewN | apply below_drew1 | refine below_set ?_ GE229.out) | exact HB.out))) : w.heap.size ≤ gb232)); have n5_ := aM ((by rw [hg]; exact Nat.ne_of_lt (blk_lt (g := gb229) (o := .cells #[.int .i64 a0_0, .slice (some ad231) l0_1.length c0_1] 33 (0, 0)) (by (with_reducible repeat (first | refine blk_drewN ?_ _ | refine blk_drew ?_ | refine blk_alloc ?_ _)); exact BK229.out)) : gb229 ≠ gb232)); have n6_ := aM ((by rw [hg]; exact Nat.ne_of_gt (blk_lt (g := gb229) (o := .cells #[.int .i64 a0_0, .slice (some ad231) l0_1.length c0_1] 33 (0, 0)) (by (with_reducible repeat (first | refine blk_drewN ?_ _ | refine blk_drew ?_ | refine blk_alloc ?_ _)); exact BK229.out)) : gb232 ≠ gb229)); clear BK229; clear HB; have BK229 := n0_; have HB := n1_; have BK232 := n2_; have GW232 := n3_; have GE232 := n4_; have NB229_232 := n5_; have NB232_229 := n6_; clear n0_ n1_ n2_ n3_ n4_ n5_ n6_; clear hb hbox hg; have hnb38 := NB232_229.out; have hnc38 := NB229_232.out; have hcz39_0 : w37.cell? ⟨gb232, 0, none⟩ = some (.string (⟨#[]⟩ : ByteArray)) := (blk_cell BK232.out 0).trans rfl; have hcz39_1 : w37.cell? ⟨gb232, 1, none⟩ = some (.slice none 0 0) := (blk_cell BK232.out 1).trans rfl; have hfz39_0 := blk_frozen BK232.out 0; have hfz39_1 := blk_frozen BK232.out 1))
          have n0_ : Aside0 (((w37.setCell ⟨gb232, 0, none⟩ (.string ((rd_T102 l0_1 x8_1).f0))).setCell ⟨gb232, 1, none⟩ (.slice A231_1 ((rd_T102 l0_1 x8_1).f1).length c231_1)).heap[gb229]? = some (.cells #[.int .i64 a0_0, .slice (some ad231) l0_1.length c0_1] 33 (0, 0))) := ⟨by (with_reducible repeat (first | refine blk_drewN ?_ _ | refine blk_drew ?_ | refine blk_alloc ?_ _)); refine blk_far ?_ NB229_232.out _; (with_reducible repeat (first | refine blk_drewN ?_ _ | refine blk_drew ?_ | refine blk_alloc ?_ _)); refine blk_far ?_ NB229_232.out _; (with_reducible repeat (first | refine blk_drewN ?_ _ | refine blk_drew ?_ | refine blk_alloc ?_ _)); exact BK229.out⟩
          have n1_ : Aside0 (((w37.setCell ⟨gb232, 0, none⟩ (.string ((rd_T102 l0_1 x8_1).f0))).setCell ⟨gb232, 1, none⟩ (.slice A231_1 ((rd_T102 l0_1 x8_1).f1).length c231_1)).heap[gb232]? = some (.cells #[.string ((rd_T102 l0_1 x8_1).f0), .slice A231_1 ((rd_T102 l0_1 x8_1).f1).length c231_1] 102 (0, 0))) := ⟨by (with_reducible repeat (first | refine blk_drewN ?_ _ | refine blk_drew ?_ | refine blk_alloc ?_ _)); refine blk_put (cs := #[.string ((rd_T102 l0_1 x8_1).f0), .slice none 0 0]) ?_ 1 _ rfl; (with_reducible repeat (first | refine blk_drewN ?_ _ | refine blk_drew ?_ | refine blk_alloc ?_ _)); refine blk_put (cs := #[.string (⟨#[]⟩ : ByteArray), .slice none 0 0]) ?_ 0 _ rfl; (with_reducible repeat (first | refine blk_drewN ?_ _ | refine blk_drew ?_ | refine blk_alloc ?_ _)); exact BK232.out⟩
          have n2_ : Aside0 (Below w.heap.size w ((w37.setCell ⟨gb232, 0, none⟩ (.string ((rd_T102 l0_1 x8_1).f0))).setCell ⟨gb232, 1, none⟩ (.slice A231_1 ((rd_T102 l0_1 x8_1).f1).length c231_1))) := ⟨by repeat (first | (with_reducible first | exact HB.out | apply below_alloc | apply pw_below_drewN | apply below_drew1 | refine below_set ?_ GE229.out | refine below_set ?_ GE232.out) | exact HB.out)⟩
          (try clear BK229)
          (try clear BK232)
          (try clear HB)
          generalize ((w37.setCell ⟨gb232, 0, none⟩ (.string ((rd_T102 l0_1 x8_1).f0))).setCell ⟨gb232, 1, none⟩ (.slice A231_1 ((rd_T102 l0_1 x8_1).f1).length c231_1)) = w40 at n0_ n1_ n2_ ⊢
          have BK229 := n0_
          have BK232 := n1_
          have HB := n2_
          clear n0_ n1_ n2_
          have n0_ := aM (blk_drew BK229.out)
          have n1_ := aM (blk_drew BK232.out)
          have n2_ := aM (below_drew1 HB.out)
          clear BK229
          clear BK232
          clear HB
          have BK229 := n0_
          have BK232 := n1_
          have HB := n2_
          clear n0_ n1_ n2_
          refine start_ (n := 34) (S := fun w' => w'.cell? ⟨gb232, 0, none⟩ = some (.string ((rd_T102 l0_1 x8_1).f0)) ∧ w'.cell? ⟨gb232, 1, none⟩ = some (.slice A231_1 ((rd_T102 l0_1 x8_1).f1).length c231_1) ∧ w'.cell? ⟨gb229, 0, none⟩ = some (.int .i64 a0_0) ∧ w'.cell? ⟨gb229, 1, none⟩ = some (.slice (some ad231) l0_1.length c0_1)) (ds := []) (bq 34 0) (by kernel_rfl) rfl (by kernel_rfl) ⟨(blk_cell BK232.out 0).trans rfl, (blk_cell BK232.out 1).trans rfl, (blk_cell BK229.out 0).trans rfl, (blk_cell BK229.out 1).trans rfl⟩ (fun hHeld => ?_); refine with_tabW spec_GoodWords.tab4 spec_GoodWords.bits4 (fun HT_ HW_ => ?_)
          generalize w40.drew = w41 at BK229 BK232 HB hHeld ⊢
          refine pZ 34 1 0 13 HT_ ?_
          refine tZ4 34 3 1 14 HT_ HW_ hHeld ?_
          refine one_ (i := 2) (N := some 15) (bq 34 7) rfl rfl (one_of HT_.out (by kernel_rfl)) (by decide) (fun K hK => ?_)
          refine gA Try.func94 #[.string ((rd_T102 l0_1 x8_1).f0)] ?_
          with_reducible refine (spec_l10Word.calls k1 ((rd_T102 l0_1 x8_1).f0) true _ A7.out).mono ?_
          rintro e w42 ⟨rfl, hb⟩
          refine ⟨_, rfl, ?_⟩
          have n0_ := aM (blk_below (g := gb229) (o := .cells #[.int .i64 a0_0, .slice (some ad231) l0_1.length c0_1] 33 (0, 0)) (by (with_reducible repeat (first | refine blk_drewN ?_ _ | refine blk_drew ?_ | refine blk_alloc ?_ _)); exact BK229.out) hb)
          have n1_ := aM (blk_below (g := gb232) (o := .cells #[.string ((rd_T102 l0_1 x8_1).f0), .slice A231_1 ((rd_T102 l0_1 x8_1).f1).length c231_1] 102 (0, 0)) (by (with_reducible repeat (first | refine blk_drewN ?_ _ | refine blk_drew ?_ | refine blk_alloc ?_ _)); exact BK232.out) hb)
          have n2_ := aM (below_step (by repeat (first | (with_reducible first | exact HB.out | apply below_alloc | apply pw_below_drewN | apply below_drew1 | refine below_set ?_ GE229.out | refine below_set ?_ GE232.out) | exact HB.out)) hb)
          clear BK229
          clear BK232
          clear HB
          have BK229 := n0_
          have BK232 := n1_
          have HB := n2_
          clear n0_ n1_ n2_
          (try clear hb)
          (try clear hb2)
          (try clear hk)
          (try clear hi)
          refine hK.out _ _ ⟨(blk_cell BK232.out 0).trans rfl, (blk_cell BK232.out 1).trans rfl, (blk_cell BK229.out 0).trans rfl, (blk_cell BK229.out 1).trans rfl⟩ (fun hHeld => ?_)
          clear hK K
          refine nM 15 ?_
          refine pZ 34 15 3 16 HT_ ?_
          refine pZ 34 31 4 17 HT_ ?_
          refine pZ 34 63 5 18 HT_ ?_
          refine tZ4 34 127 6 19 HT_ HW_ hHeld ?_
          refine pZ 34 255 7 20 HT_ ?_
          refine pZ 34 511 8 21 HT_ ?_
          refine pZ 34 1023 9 22 HT_ ?_
          refine pZ 34 2047 10 23 HT_ ?_
          refine pZ 34 4095 11 24 HT_ ?_
          refine pZ 34 12287 13 26 HT_ ?_
          refine tZ4 34 16383 12 25 HT_ HW_ hHeld ?_
          refine tZ4 34 32767 14 27 HT_ HW_ hHeld ?_
          refine one_ (i := 15) (N := some 28) (bq 34 65535) rfl rfl (one_of HT_.out (by kernel_rfl)) (by decide) (fun K hK => ?_)
          refine gA Try.func95 #[.slice A231_1 ((rd_T102 l0_1 x8_1).f1).length c231_1, .int .i64 a0_0] ?_
          with_reducible refine (spec_l10List.calls k1 _ _ ((rd_T102 l0_1 x8_1).f1) a0_0 true _ ?side1 ?side2 A16.out).mono ?_
          (case side1 => repeat (first | exact (Kd.C_below HR231_1.out HB.out) | (with_reducible refine Kd.C_alloc ?_ _) | (with_reducible refine Kd.C_drewN ?_ _) | (with_reducible refine Kd.C_drew ?_)))
          (case side2 => exact HC231_1.out)
          rintro e w43 ⟨rfl, hb⟩
          refine ⟨_, rfl, ?_⟩
          have n0_ := aM (blk_below (g := gb229) (o := .cells #[.int .i64 a0_0, .slice (some ad231) l0_1.length c0_1] 33 (0, 0)) (by (with_reducible repeat (first | refine blk_drewN ?_ _ | refine blk_drew ?_ | refine blk_alloc ?_ _)); exact BK229.out) hb)
          have n1_ := aM (blk_below (g := gb232) (o := .cells #[.string ((rd_T102 l0_1 x8_1).f0), .slice A231_1 ((rd_T102 l0_1 x8_1).f1).length c231_1] 102 (0, 0)) (by (with_reducible repeat (first | refine blk_drewN ?_ _ | refine blk_drew ?_ | refine blk_alloc ?_ _)); exact BK232.out) hb)
          have n2_ := aM (below_step (by repeat (first | (with_reducible first | exact HB.out | apply below_alloc | apply pw_below_drewN | apply below_drew1 | refine below_set ?_ GE229.out | refine below_set ?_ GE232.out) | exact HB.out)) hb)
          clear BK229
          clear BK232
          clear HB
          have BK229 := n0_
          have BK232 := n1_
          have HB := n2_
          clear n0_ n1_ n2_
          (try clear hb)
          (try clear hb2)
          (try clear hk)
          (try clear hi)
          refine hK.out _ _ ⟨(blk_cell BK232.out 0).trans rfl, (blk_cell BK232.out 1).trans rfl, (blk_cell BK229.out 0).trans rfl, (blk_cell BK229.out 1).trans rfl⟩ (fun hHeld => ?_)
          clear hK K
          refine nM 28 ?_
          refine pZ 34 131071 16 29 HT_ ?_
          refine pZ 34 262143 17 30 HT_ ?_
          refine pZ 34 524287 18 31 HT_ ?_
          refine pZ 34 1048575 19 32 HT_ ?_
          refine pZ 34 2097151 20 33 HT_ ?_
          refine pZ 34 4194303 21 34 HT_ ?_
          refine pY 34 8388607 22 35 HT_ ?_
          refine pY 34 16777215 23 36 HT_ ?_
          refine pY 34 33554431 24 37 HT_ ?_
          refine pY 34 67108863 25 38 HT_ ?_
          refine pY 34 134217727 26 39 HT_ ?_
          refine pY 34 268435455 27 40 HT_ ?_
          refine pY 34 536870911 28 41 HT_ ?_
          refine pY 34 1073741823 29 42 HT_ ?_
          refine pY 34 2147483647 30 43 HT_ ?_
          refine pY 34 4294967295 31 44 HT_ ?_
          refine pZ 34 8589934591 32 45 HT_ ?_
          refine pZ 34 17179869183 33 46 HT_ ?_
          refine done_ (done_of HT_.out (by kernel_rfl)) ?_
          try go_wp2
          go_roundg k1
          case measure => have := HK1.out; omega
          case rel => exact ⟨(wrap64 (x8_1 + 1)), (by first | rfl | (simp; done) | (simp [*]; done)), H', ⟨by have := HK1.out; omega⟩, ⟨by (with_reducible repeat (first | refine blk_drewN ?_ _ | refine blk_drew ?_ | refine blk_alloc ?_ _)); exact BK229.out⟩, ⟨by repeat (first | (with_reducible first | exact HB.out | apply below_alloc | apply pw_below_drewN | apply below_drew1 | refine below_set ?_ GE229.out | refine below_set ?_ GE232.out) | exact HB.out)⟩⟩
        ·replace c17 := Bool.eq_false_iff.mpr c17
         subst c17
         have H1 : (some false) = some r := by rw [if_neg (show ¬ (false = true) by decide)] at H; exact H
         clear H
         have H := H1
         clear H1
         obtain rfl := Option.some.inj H
         have p231 : 0 ≤ (x8_1 : Int) := dT
         have q231 : x8_1 < (l0_1.length : Int) := dT
         obtain ⟨ad231, A231_1, c231_1, e231, hx231_0, hx231_1, hl231_1, hi231_1⟩ := at_T102 HR0_1.out x8_1 p231 q231
         cases e231
         try have hz_hx231_0 := aM hx231_0
         try have hz_hx231_1 := aM hx231_1
         replace hx231_0 := (HB.out.cell (World.block_lt_of_cell? w _ hx231_0)).trans hx231_0
         replace hx231_1 := (HB.out.cell (World.block_lt_of_cell? w _ hx231_1)).trans hx231_1
         have HR231_1 := aM hi231_1
         have HC231_1 := aM hl231_1
         clear hi231_1 hl231_1
         replace p231 := eq_true p231
         replace q231 := eq_true q231
         try go_wp2_with (first | ((with_reducible refine gate_dst (N := 4) rfl ?_); (try (refine gate_guard (by rfl) ?_; dsimp only)); refine box_event ?hg (N := 4) ?hd (cs := #[.string (⟨#[]⟩ : ByteArray), .slice none 0 0]) (t := 102) ?hr ?_; (case hd => rfl); (case hg => rfl); (case hr => first | (go_simp; done) | (go_simp; rfl)); intro gb232 hg w44 hbox hb; have n0_ := aM (blk_below (g := gb229) (o := .cells #[.int .i64 a0_0, .slice (some ad231) l0_1.length c0_1] 33 (0, 0)) (by (with_reducible repeat (first | refine blk_drewN ?_ _ | refine blk_drew ?_ | refine blk_alloc ?_ _)); exact BK229.out) hb); have n1_ := aM (below_step (by repeat (first | (with_reducible first | exact HB.out | apply below_alloc | apply pw_below_drewN | apply below_drew1 | refine below_set ?_ GE229.out) | exact HB.out)) hb); have n2_ := aM (hbox); have n3_ := aM ((by rw [hg]; exact (below_size (by repeat (first | (with_reducible first | exact HB.out | apply below_alloc | apply pw_below_drewN | apply below_drew1 | refine below_set ?_ GE229.out) | exact HB.out))) : w.heap.size ≤ gb232)); have n4_ := aM ((by rw [hg]; exact (below_size (by repeat (first | (with_reducible first | exact HB.out | apply below_alloc | apply pw_below_drewN | apply below_drew1 | refine below_set ?_ GE229.out) | exact HB.out))) : w.heap.size ≤ gb232)); have n5_ := aM ((by rw [hg]; exact Nat.ne_of_lt (blk_lt (g := gb229) (o := .cells #[.int .i64 a0_0, .slice (some ad231) l0_1.length c0_1] 33 (0, 0)) (by (with_reducible repeat (first | refine blk_drewN ?_ _ | refine blk_drew ?_ | refine blk_alloc ?_ _)); exact BK229.out)) : gb229 ≠ gb232)); have n6_ := aM ((by rw [hg]; exact Nat.ne_of_gt (blk_lt (g := gb229) (o := .cells #[.int .i64 a0_0, .slice (some ad231) l0_1.length c0_1] 33 (0, 0)) (by (with_reducible repeat (first | refine blk_drewN ?_ _ | refine blk_drew ?_ | refine blk_alloc ?_ _)); exact BK229.out)) : gb232 ≠ gb229)); clear BK229; clear HB; have BK229 := n0_; have HB := n1_; have BK232 := n2_; have GW232 := n3_; have GE232 := n4_; have NB229_232 := n5_; have NB232_229 := n6_; clear n0_ n1_ n2_ n3_ n4_ n5_ n6_; clear hb hbox hg; have hnb45 := NB232_229.out; have hnc45 := NB229_232.out; have hcz46_0 : w44.cell? ⟨gb232, 0, none⟩ = some (.string (⟨#[]⟩ : ByteArray)) := (blk_cell BK232.out 0).trans rfl; have hcz46_1 : w44.cell? ⟨gb232, 1, none⟩ = some (.slice none 0 0) := (blk_cell BK232.out 1).trans rfl; have hfz46_0 := blk_frozen BK232.out 0; have hfz46_1 := blk_frozen BK232.out 1))
         have n0_ : Aside0 (((w44.setCell ⟨gb232, 0, none⟩ (.string ((rd_T102 l0_1 x8_1).f0))).setCell ⟨gb232, 1, none⟩ (.slice A231_1 ((rd_T102 l0_1 x8_1).f1).length c231_1)).heap[gb229]? = some (.cells #[.int .i64 a0_0, .slice (some ad231) l0_1.length c0_1] 33 (0, 0))) := ⟨by (with_reducible repeat (first | refine blk_drewN ?_ _ | refine blk_drew ?_ | refine blk_alloc ?_ _)); refine blk_far ?_ NB229_232.out _; (with_reducible repeat (first | refine blk_drewN ?_ _ | refine blk_drew ?_ | refine blk_alloc ?_ _)); refine blk_far ?_ NB229_232.out _; (with_reducible repeat (first | refine blk_drewN ?_ _ | refine blk_drew ?_ | refine blk_alloc ?_ _)); exact BK229.out⟩
         have n1_ : Aside0 (((w44.setCell ⟨gb232, 0, none⟩ (.string ((rd_T102 l0_1 x8_1).f0))).setCell ⟨gb232, 1, none⟩ (.slice A231_1 ((rd_T102 l0_1 x8_1).f1).length c231_1)).heap[gb232]? = some (.cells #[.string ((rd_T102 l0_1 x8_1).f0), .slice A231_1 ((rd_T102 l0_1 x8_1).f1).length c231_1] 102 (0, 0))) := ⟨by (with_reducible repeat (first | refine blk_drewN ?_ _ | refine blk_drew ?_ | refine blk_alloc ?_ _)); refine blk_put (cs := #[.string ((rd_T102 l0_1 x8_1).f0), .slice none 0 0]) ?_ 1 _ rfl; (with_reducible repeat (first | refine blk_drewN ?_ _ | refine blk_drew ?_ | refine blk_alloc ?_ _)); refine blk_put (cs := #[.string (⟨#[]⟩ : ByteArray), .slice none 0 0]) ?_ 0 _ rfl; (with_reducible repeat (first | refine blk_drewN ?_ _ | refine blk_drew ?_ | refine blk_alloc ?_ _)); exact BK232.out⟩
         have n2_ : Aside0 (Below w.heap.size w ((w44.setCell ⟨gb232, 0, none⟩ (.string ((rd_T102 l0_1 x8_1).f0))).setCell ⟨gb232, 1, none⟩ (.slice A231_1 ((rd_T102 l0_1 x8_1).f1).length c231_1))) := ⟨by repeat (first | (with_reducible first | exact HB.out | apply below_alloc | apply pw_below_drewN | apply below_drew1 | refine below_set ?_ GE229.out | refine below_set ?_ GE232.out) | exact HB.out)⟩
         (try clear BK229)
         (try clear BK232)
         (try clear HB)
         generalize ((w44.setCell ⟨gb232, 0, none⟩ (.string ((rd_T102 l0_1 x8_1).f0))).setCell ⟨gb232, 1, none⟩ (.slice A231_1 ((rd_T102 l0_1 x8_1).f1).length c231_1)) = w47 at n0_ n1_ n2_ ⊢
         have BK229 := n0_
         have BK232 := n1_
         have HB := n2_
         clear n0_ n1_ n2_
         have n0_ := aM (blk_drew BK229.out)
         have n1_ := aM (blk_drew BK232.out)
         have n2_ := aM (below_drew1 HB.out)
         clear BK229
         clear BK232
         clear HB
         have BK229 := n0_
         have BK232 := n1_
         have HB := n2_
         clear n0_ n1_ n2_
         refine start_ (n := 34) (S := fun w' => w'.cell? ⟨gb232, 0, none⟩ = some (.string ((rd_T102 l0_1 x8_1).f0)) ∧ w'.cell? ⟨gb232, 1, none⟩ = some (.slice A231_1 ((rd_T102 l0_1 x8_1).f1).length c231_1) ∧ w'.cell? ⟨gb229, 0, none⟩ = some (.int .i64 a0_0) ∧ w'.cell? ⟨gb229, 1, none⟩ = some (.slice (some ad231) l0_1.length c0_1)) (ds := []) (bq 34 0) (by kernel_rfl) rfl (by kernel_rfl) ⟨(blk_cell BK232.out 0).trans rfl, (blk_cell BK232.out 1).trans rfl, (blk_cell BK229.out 0).trans rfl, (blk_cell BK229.out 1).trans rfl⟩ (fun hHeld => ?_); refine with_tabW spec_GoodWords.tab4 spec_GoodWords.bits4 (fun HT_ HW_ => ?_)
         generalize w47.drew = w48 at BK229 BK232 HB hHeld ⊢
         refine pZ 34 1 0 13 HT_ ?_
         refine tZ4 34 3 1 14 HT_ HW_ hHeld ?_
         refine one_ (i := 2) (N := some 15) (bq 34 7) rfl rfl (one_of HT_.out (by kernel_rfl)) (by decide) (fun K hK => ?_)
         refine gA Try.func94 #[.string ((rd_T102 l0_1 x8_1).f0)] ?_
         with_reducible refine (spec_l10Word.calls k1 ((rd_T102 l0_1 x8_1).f0) true _ A7.out).mono ?_
         rintro e w49 ⟨rfl, hb⟩
         refine ⟨_, rfl, ?_⟩
         have n0_ := aM (blk_below (g := gb229) (o := .cells #[.int .i64 a0_0, .slice (some ad231) l0_1.length c0_1] 33 (0, 0)) (by (with_reducible repeat (first | refine blk_drewN ?_ _ | refine blk_drew ?_ | refine blk_alloc ?_ _)); exact BK229.out) hb)
         have n1_ := aM (blk_below (g := gb232) (o := .cells #[.string ((rd_T102 l0_1 x8_1).f0), .slice A231_1 ((rd_T102 l0_1 x8_1).f1).length c231_1] 102 (0, 0)) (by (with_reducible repeat (first | refine blk_drewN ?_ _ | refine blk_drew ?_ | refine blk_alloc ?_ _)); exact BK232.out) hb)
         have n2_ := aM (below_step (by repeat (first | (with_reducible first | exact HB.out | apply below_alloc | apply pw_below_drewN | apply below_drew1 | refine below_set ?_ GE229.out | refine below_set ?_ GE232.out) | exact HB.out)) hb)
         clear BK229
         clear BK232
         clear HB
         have BK229 := n0_
         have BK232 := n1_
         have HB := n2_
         clear n0_ n1_ n2_
         (try clear hb)
         (try clear hb2)
         (try clear hk)
         (try clear hi)
         refine hK.out _ _ ⟨(blk_cell BK232.out 0).trans rfl, (blk_cell BK232.out 1).trans rfl, (blk_cell BK229.out 0).trans rfl, (blk_cell BK229.out 1).trans rfl⟩ (fun hHeld => ?_)
         clear hK K
         refine nM 15 ?_
         refine pZ 34 15 3 16 HT_ ?_
         refine pZ 34 31 4 17 HT_ ?_
         refine pZ 34 63 5 18 HT_ ?_
         refine tZ4 34 127 6 19 HT_ HW_ hHeld ?_
         refine pZ 34 255 7 20 HT_ ?_
         refine pZ 34 511 8 21 HT_ ?_
         refine pZ 34 1023 9 22 HT_ ?_
         refine pZ 34 2047 10 23 HT_ ?_
         refine pZ 34 4095 11 24 HT_ ?_
         refine pZ 34 12287 13 26 HT_ ?_
         refine tZ4 34 16383 12 25 HT_ HW_ hHeld ?_
         refine tZ4 34 32767 14 27 HT_ HW_ hHeld ?_
         refine one_ (i := 15) (N := some 28) (bq 34 65535) rfl rfl (one_of HT_.out (by kernel_rfl)) (by decide) (fun K hK => ?_)
         refine gA Try.func95 #[.slice A231_1 ((rd_T102 l0_1 x8_1).f1).length c231_1, .int .i64 a0_0] ?_
         with_reducible refine (spec_l10List.calls k1 _ _ ((rd_T102 l0_1 x8_1).f1) a0_0 false _ ?side1 ?side2 A16.out).mono ?_
         (case side1 => repeat (first | exact (Kd.C_below HR231_1.out HB.out) | (with_reducible refine Kd.C_alloc ?_ _) | (with_reducible refine Kd.C_drewN ?_ _) | (with_reducible refine Kd.C_drew ?_)))
         (case side2 => exact HC231_1.out)
         rintro e w50 ⟨rfl, hb⟩
         refine ⟨_, rfl, ?_⟩
         have n0_ := aM (blk_below (g := gb229) (o := .cells #[.int .i64 a0_0, .slice (some ad231) l0_1.length c0_1] 33 (0, 0)) (by (with_reducible repeat (first | refine blk_drewN ?_ _ | refine blk_drew ?_ | refine blk_alloc ?_ _)); exact BK229.out) hb)
         have n1_ := aM (blk_below (g := gb232) (o := .cells #[.string ((rd_T102 l0_1 x8_1).f0), .slice A231_1 ((rd_T102 l0_1 x8_1).f1).length c231_1] 102 (0, 0)) (by (with_reducible repeat (first | refine blk_drewN ?_ _ | refine blk_drew ?_ | refine blk_alloc ?_ _)); exact BK232.out) hb)
         have n2_ := aM (below_step (by repeat (first | (with_reducible first | exact HB.out | apply below_alloc | apply pw_below_drewN | apply below_drew1 | refine below_set ?_ GE229.out | refine below_set ?_ GE232.out) | exact HB.out)) hb)
         clear BK229
         clear BK232
         clear HB
         have BK229 := n0_
         have BK232 := n1_
         have HB := n2_
         clear n0_ n1_ n2_
         (try clear hb)
         (try clear hb2)
         (try clear hk)
         (try clear hi)
         refine hK.out _ _ ⟨(blk_cell BK232.out 0).trans rfl, (blk_cell BK232.out 1).trans rfl, (blk_cell BK229.out 0).trans rfl, (blk_cell BK229.out 1).trans rfl⟩ (fun hHeld => ?_)
         clear hK K
         refine nM 28 ?_
         refine pZ 34 131071 16 29 HT_ ?_
         refine pZ 34 262143 17 30 HT_ ?_
         refine pZ 34 524287 18 31 HT_ ?_
         refine pY 34 1048575 19 32 HT_ ?_
         refine pY 34 2097151 20 33 HT_ ?_
         refine pY 34 4194303 21 34 HT_ ?_
         refine pY 34 8388607 22 35 HT_ ?_
         refine pY 34 16777215 23 36 HT_ ?_
         refine pY 34 33554431 24 37 HT_ ?_
         refine pY 34 67108863 25 38 HT_ ?_
         refine pY 34 134217727 26 39 HT_ ?_
         refine pY 34 268435455 27 40 HT_ ?_
         refine pY 34 536870911 28 41 HT_ ?_
         refine pY 34 1073741823 29 42 HT_ ?_
         refine pY 34 2147483647 30 43 HT_ ?_
         refine pY 34 4294967295 31 44 HT_ ?_
         refine pY 34 8589934591 32 45 HT_ ?_
         refine pZ 34 17179869183 33 46 HT_ ?_
         refine done_ (done_of HT_.out (by kernel_rfl)) ?_
         try go_wp2
         go_ret
         exact ⟨eR, by repeat (first | (with_reducible first | exact HB.out | apply below_alloc | apply pw_below_drewN | apply below_drew1 | refine below_set ?_ GE229.out | refine below_set ?_ GE232.out) | exact HB.out)⟩
      ·replace c8 := Bool.eq_false_iff.mpr c8
       subst c8
       have H1 : (some false) = some r := by rw [if_neg (show ¬ (false = true) by decide)] at H; exact H
       clear H
       have H := H1
       clear H1
       obtain rfl := Option.some.inj H
       have p231 : 0 ≤ (x8_1 : Int) := dT
       have q231 : x8_1 < (l0_1.length : Int) := dT
       obtain ⟨ad231, A231_1, c231_1, e231, hx231_0, hx231_1, hl231_1, hi231_1⟩ := at_T102 HR0_1.out x8_1 p231 q231
       cases e231
       try have hz_hx231_0 := aM hx231_0
       try have hz_hx231_1 := aM hx231_1
       replace hx231_0 := (HB.out.cell (World.block_lt_of_cell? w _ hx231_0)).trans hx231_0
       replace hx231_1 := (HB.out.cell (World.block_lt_of_cell? w _ hx231_1)).trans hx231_1
       have HR231_1 := aM hi231_1
       have HC231_1 := aM hl231_1
       clear hi231_1 hl231_1
       replace p231 := eq_true p231
       replace q231 := eq_true q231
       try go_wp2_with (first | ((with_reducible refine gate_dst (N := 4) rfl ?_); (try (refine gate_guard (by rfl) ?_; dsimp only)); refine box_event ?hg (N := 4) ?hd (cs := #[.string (⟨#[]⟩ : ByteArray), .slice none 0 0]) (t := 102) ?hr ?_; (case hd => rfl); (case hg => rfl); (case hr => first | (go_simp; done) | (go_simp; rfl)); intro gb232 hg w51 hbox hb; have n0_ := aM (blk_below (g := gb229) (o := .cells #[.int .i64 a0_0, .slice (some ad231) l0_1.length c0_1] 33 (0, 0)) (by (with_reducible repeat (first | refine blk_drewN ?_ _ | refine blk_drew ?_ | refine blk_alloc ?_ _)); exact BK229.out) hb); have n1_ := aM (below_step (by repeat (first | (with_reducible first | exact HB.out | apply below_alloc | apply pw_below_drewN | apply below_drew1 | refine below_set ?_ GE229.out) | exact HB.out)) hb); have n2_ := aM (hbox); have n3_ := aM ((by rw [hg]; exact (below_size (by repeat (first | (with_reducible first | exact HB.out | apply below_alloc | apply pw_below_drewN | apply below_drew1 | refine below_set ?_ GE229.out) | exact HB.out))) : w.heap.size ≤ gb232)); have n4_ := aM ((by rw [hg]; exact (below_size (by repeat (first | (with_reducible first | exact HB.out | apply below_alloc | apply pw_below_drewN | apply below_drew1 | refine below_set ?_ GE229.out) | exact HB.out))) : w.heap.size ≤ gb232)); have n5_ := aM ((by rw [hg]; exact Nat.ne_of_lt (blk_lt (g := gb229) (o := .cells #[.int .i64 a0_0, .slice (some ad231) l0_1.length c0_1] 33 (0, 0)) (by (with_reducible repeat (first | refine blk_drewN ?_ _ | refine blk_drew ?_ | refine blk_alloc ?_ _)); exact BK229.out)) : gb229 ≠ gb232)); have n6_ := aM ((by rw [hg]; exact Nat.ne_of_gt (blk_lt (g := gb229) (o := .cells #[.int .i64 a0_0, .slice (some ad231) l0_1.length c0_1] 33 (0, 0)) (by (with_reducible repeat (first | refine blk_drewN ?_ _ | refine blk_drew ?_ | refine blk_alloc ?_ _)); exact BK229.out)) : gb232 ≠ gb229)); clear BK229; clear HB; have BK229 := n0_; have HB := n1_; have BK232 := n2_; have GW232 := n3_; have GE232 := n4_; have NB229_232 := n5_; have NB232_229 := n6_; clear n0_ n1_ n2_ n3_ n4_ n5_ n6_; clear hb hbox hg; have hnb52 := NB232_229.out; have hnc52 := NB229_232.out; have hcz53_0 : w51.cell? ⟨gb232, 0, none⟩ = some (.string (⟨#[]⟩ : ByteArray)) := (blk_cell BK232.out 0).trans rfl; have hcz53_1 : w51.cell? ⟨gb232, 1, none⟩ = some (.slice none 0 0) := (blk_cell BK232.out 1).trans rfl; have hfz53_0 := blk_frozen BK232.out 0; have hfz53_1 := blk_frozen BK232.out 1))
       have n0_ : Aside0 (((w51.setCell ⟨gb232, 0, none⟩ (.string ((rd_T102 l0_1 x8_1).f0))).setCell ⟨gb232, 1, none⟩ (.slice A231_1 ((rd_T102 l0_1 x8_1).f1).length c231_1)).heap[gb229]? = some (.cells #[.int .i64 a0_0, .slice (some ad231) l0_1.length c0_1] 33 (0, 0))) := ⟨by (with_reducible repeat (first | refine blk_drewN ?_ _ | refine blk_drew ?_ | refine blk_alloc ?_ _)); refine blk_far ?_ NB229_232.out _; (with_reducible repeat (first | refine blk_drewN ?_ _ | refine blk_drew ?_ | refine blk_alloc ?_ _)); refine blk_far ?_ NB229_232.out _; (with_reducible repeat (first | refine blk_drewN ?_ _ | refine blk_drew ?_ | refine blk_alloc ?_ _)); exact BK229.out⟩
       have n1_ : Aside0 (((w51.setCell ⟨gb232, 0, none⟩ (.string ((rd_T102 l0_1 x8_1).f0))).setCell ⟨gb232, 1, none⟩ (.slice A231_1 ((rd_T102 l0_1 x8_1).f1).length c231_1)).heap[gb232]? = some (.cells #[.string ((rd_T102 l0_1 x8_1).f0), .slice A231_1 ((rd_T102 l0_1 x8_1).f1).length c231_1] 102 (0, 0))) := ⟨by (with_reducible repeat (first | refine blk_drewN ?_ _ | refine blk_drew ?_ | refine blk_alloc ?_ _)); refine blk_put (cs := #[.string ((rd_T102 l0_1 x8_1).f0), .slice none 0 0]) ?_ 1 _ rfl; (with_reducible repeat (first | refine blk_drewN ?_ _ | refine blk_drew ?_ | refine blk_alloc ?_ _)); refine blk_put (cs := #[.string (⟨#[]⟩ : ByteArray), .slice none 0 0]) ?_ 0 _ rfl; (with_reducible repeat (first | refine blk_drewN ?_ _ | refine blk_drew ?_ | refine blk_alloc ?_ _)); exact BK232.out⟩
       have n2_ : Aside0 (Below w.heap.size w ((w51.setCell ⟨gb232, 0, none⟩ (.string ((rd_T102 l0_1 x8_1).f0))).setCell ⟨gb232, 1, none⟩ (.slice A231_1 ((rd_T102 l0_1 x8_1).f1).length c231_1))) := ⟨by repeat (first | (with_reducible first | exact HB.out | apply below_alloc | apply pw_below_drewN | apply below_drew1 | refine below_set ?_ GE229.out | refine below_set ?_ GE232.out) | exact HB.out)⟩
       (try clear BK229)
       (try clear BK232)
       (try clear HB)
       generalize ((w51.setCell ⟨gb232, 0, none⟩ (.string ((rd_T102 l0_1 x8_1).f0))).setCell ⟨gb232, 1, none⟩ (.slice A231_1 ((rd_T102 l0_1 x8_1).f1).length c231_1)) = w54 at n0_ n1_ n2_ ⊢
       have BK229 := n0_
       have BK232 := n1_
       have HB := n2_
       clear n0_ n1_ n2_
       have n0_ := aM (blk_drew BK229.out)
       have n1_ := aM (blk_drew BK232.out)
       have n2_ := aM (below_drew1 HB.out)
       clear BK229
       clear BK232
       clear HB
       have BK229 := n0_
       have BK232 := n1_
       have HB := n2_
       clear n0_ n1_ n2_
       refine start_ (n := 34) (S := fun w' => w'.cell? ⟨gb232, 0, none⟩ = some (.string ((rd_T102 l0_1 x8_1).f0)) ∧ w'.cell? ⟨gb232, 1, none⟩ = some (.slice A231_1 ((rd_T102 l0_1 x8_1).f1).length c231_1)) (ds := []) (bq 34 0) (by kernel_rfl) rfl (by kernel_rfl) ⟨(blk_cell BK232.out 0).trans rfl, (blk_cell BK232.out 1).trans rfl⟩ (fun hHeld => ?_); refine with_tabW spec_GoodWords.tab4 spec_GoodWords.bits4 (fun HT_ HW_ => ?_)
       generalize w54.drew = w55 at BK229 BK232 HB hHeld ⊢
       refine pZ 34 1 0 13 HT_ ?_
       refine tZ2 34 3 1 14 HT_ HW_ hHeld ?_
       refine one_ (i := 2) (N := some 15) (bq 34 7) rfl rfl (one_of HT_.out (by kernel_rfl)) (by decide) (fun K hK => ?_)
       refine gA Try.func94 #[.string ((rd_T102 l0_1 x8_1).f0)] ?_
       with_reducible refine (spec_l10Word.calls k1 ((rd_T102 l0_1 x8_1).f0) false _ A7.out).mono ?_
       rintro e w56 ⟨rfl, hb⟩
       refine ⟨_, rfl, ?_⟩
       have n0_ := aM (blk_below (g := gb229) (o := .cells #[.int .i64 a0_0, .slice (some ad231) l0_1.length c0_1] 33 (0, 0)) (by (with_reducible repeat (first | refine blk_drewN ?_ _ | refine blk_drew ?_ | refine blk_alloc ?_ _)); exact BK229.out) hb)
       have n1_ := aM (blk_below (g := gb232) (o := .cells #[.string ((rd_T102 l0_1 x8_1).f0), .slice A231_1 ((rd_T102 l0_1 x8_1).f1).length c231_1] 102 (0, 0)) (by (with_reducible repeat (first | refine blk_drewN ?_ _ | refine blk_drew ?_ | refine blk_alloc ?_ _)); exact BK232.out) hb)
       have n2_ := aM (below_step (by repeat (first | (with_reducible first | exact HB.out | apply below_alloc | apply pw_below_drewN | apply below_drew1 | refine below_set ?_ GE229.out | refine below_set ?_ GE232.out) | exact HB.out)) hb)
       clear BK229
       clear BK232
       clear HB
       have BK229 := n0_
       have BK232 := n1_
       have HB := n2_
       clear n0_ n1_ n2_
       (try clear hb)
       (try clear hb2)
       (try clear hk)
       (try clear hi)
       refine hK.out _ _ ⟨(blk_cell BK232.out 0).trans rfl, (blk_cell BK232.out 1).trans rfl⟩ (fun hHeld => ?_)
       clear hK K
       refine nM 15 ?_
       refine pZ 34 15 3 16 HT_ ?_
       refine pZ 34 31 4 17 HT_ ?_
       refine pY 34 63 5 18 HT_ ?_
       refine pY 34 127 6 19 HT_ ?_
       refine pY 34 255 7 20 HT_ ?_
       refine pY 34 511 8 21 HT_ ?_
       refine pZ 34 1023 9 22 HT_ ?_
       refine pZ 34 2047 10 23 HT_ ?_
       refine pY 34 4095 11 24 HT_ ?_
       refine pY 34 8191 12 25 HT_ ?_
       refine pY 34 16383 13 26 HT_ ?_
       refine pY 34 32767 14 27 HT_ ?_
       refine pY 34 65535 15 28 HT_ ?_
       refine pY 34 131071 16 29 HT_ ?_
       refine pZ 34 262143 17 30 HT_ ?_
       refine pZ 34 524287 18 31 HT_ ?_
       refine pY 34 1048575 19 32 HT_ ?_
       refine pY 34 2097151 20 33 HT_ ?_
       refine pY 34 4194303 21 34 HT_ ?_
       refine pY 34 8388607 22 35 HT_ ?_
       refine pY 34 16777215 23 36 HT_ ?_
       refine pY 34 33554431 24 37 HT_ ?_
       refine pY 34 67108863 25 38 HT_ ?_
       refine pY 34 134217727 26 39 HT_ ?_
       refine pY 34 268435455 27 40 HT_ ?_
       refine pY 34 536870911 28 41 HT_ ?_
       refine pY 34 1073741823 29 42 HT_ ?_
       refine pY 34 2147483647 30 43 HT_ ?_
       refine pY 34 4294967295 31 44 HT_ ?_
       refine pY 34 8589934591 32 45 HT_ ?_
       refine pZ 34 17179869183 33 46 HT_ ?_
       refine done_ (done_of HT_.out (by kernel_rfl)) ?_
       try go_wp2
       go_ret
       exact ⟨eR, by repeat (first | (with_reducible first | exact HB.out | apply below_alloc | apply pw_below_drewN | apply below_drew1 | refine below_set ?_ GE229.out | refine below_set ?_ GE232.out) | exact HB.out)⟩
     ·rw [if_neg c6] at H
      exact absurd H (by simp)
    ·rw [if_neg c5] at H
     exact absurd H (by simp)
   ·rw [if_neg c4] at H
    have c4b0 : decide (x8_1 < (l0_1.length : Int)) = false := decide_eq_false c4
    clear c4
    replace H := Option.bind_eq_some_iff.mp H
    obtain ⟨t230, A570, H⟩ := H
    replace H : (if t230 = true then (some (decide ((l0_1.length : Int) ≤ 200))) else (some false)) = some r := H
    have A57 := aM A570
    clear A570
    by_cases c58 : t230 = true
    ·subst c58
     have H1 : (some (decide ((l0_1.length : Int) ≤ 200))) = some r := by rw [if_pos rfl] at H; exact H
     clear H
     have H := H1
     clear H1
     obtain rfl := Option.some.inj H
     have hcz59_0 : wr.cell? ⟨gb229, 0, none⟩ = some (.int .i64 a0_0) := (blk_cell BK229.out 0).trans rfl
     have hcz59_1 : wr.cell? ⟨gb229, 1, none⟩ = some (.slice A0_1 l0_1.length c0_1) := (blk_cell BK229.out 1).trans rfl
     have hfz59_0 := blk_frozen BK229.out 0
     have hfz59_1 := blk_frozen BK229.out 1
     go_wp2_with (first | ((with_reducible refine gate_callee (f := 96) rfl ?_); refine gL 50 Try.func96 #[.int .i64 a0_0, .int .i64 0, .int .i64 40] ?_; (with_reducible refine (spec_l1In.calls a0_0 0 40 true _ A57.out).mono ?_); rintro e w' ⟨rfl, ⟨nd, rfl⟩⟩; refine ⟨_, rfl, ?_⟩))
     go_ret
     exact ⟨eR, by repeat (first | (with_reducible first | exact HB.out | apply below_alloc | apply pw_below_drewN | apply below_drew1 | refine below_set ?_ GE229.out) | exact HB.out)⟩
    ·replace c58 := Bool.eq_false_iff.mpr c58
     subst c58
     have H1 : (some false) = some r := by rw [if_neg (show ¬ (false = true) by decide)] at H; exact H
     clear H
     have H := H1
     clear H1
     obtain rfl := Option.some.inj H
     have hcz60_0 : wr.cell? ⟨gb229, 0, none⟩ = some (.int .i64 a0_0) := (blk_cell BK229.out 0).trans rfl
     have hcz60_1 : wr.cell? ⟨gb229, 1, none⟩ = some (.slice A0_1 l0_1.length c0_1) := (blk_cell BK229.out 1).trans rfl
     have hfz60_0 := blk_frozen BK229.out 0
     have hfz60_1 := blk_frozen BK229.out 1
     go_wp2_with (first | ((with_reducible refine gate_callee (f := 96) rfl ?_); refine gL 50 Try.func96 #[.int .i64 a0_0, .int .i64 0, .int .i64 40] ?_; (with_reducible refine (spec_l1In.calls a0_0 0 40 false _ A57.out).mono ?_); rintro e w' ⟨rfl, ⟨nd, rfl⟩⟩; refine ⟨_, rfl, ?_⟩))
     go_ret
     exact ⟨eR, by repeat (first | (with_reducible first | exact HB.out | apply below_alloc | apply pw_below_drewN | apply below_drew1 | refine below_set ?_ GE229.out) | exact HB.out)⟩

end Go.Proofs.Ytaomjndfjmfelaa.PQ
end
