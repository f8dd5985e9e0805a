/- Several texts in one: what the claim's last text rests on. No conditions. -/
import Derived.Test.YtaomjndfjmfelaaMRt6
import Derived.Test.YtaomjndfjmfelaaMRt9
import Derived.Test.YtaomjndfjmfelaaMRt4
section
namespace Go.Proofs.Ytaomjndfjmfelaa.PQ
open Go.RowKit Go.Proofs.YtaomjndfjmfelaaW.PrintWords Go.Proofs.YtaomjndfjmfelaaW.PrintLast Go.Proofs.YtaomjndfjmfelaaW.PrintMore
attribute [local go_sem] max2_int min2_int max_two min_two max_three min_three max_four min_four
set_option linter.unusedVariables false
set_option linter.unusedSimpArgs false
attribute [local go_sem] Go.Proofs.Ytaomjndfjmfelaa.StrO.leq_s Go.Proofs.Ytaomjndfjmfelaa.StrO.gtr_s Go.Proofs.Ytaomjndfjmfelaa.StrO.geq_s
mutual
def impl_GoodWords.j0 : Nat → Bool → Int → List (S102) → Option (Bool)
 | 0, _, _, _ => none
 | k + 1, x14, x275000, x275001 => if x14 = true then (some false) else (impl_GoodWords.l0 k x275001 (x275001.length : Int) 0 x275000 x275001)
def impl_GoodWords.l0 : Nat → List (S102) → Int → Int → Int → List (S102) → Option (Bool)
 | 0, _, _, _, _, _ => none
 | k + 1, x16, x17, x18, x275000, x275001 => if x18 < x17 then (if 0 ≤ x18 then (if x18 < (x16.length : Int) then ((impl_isWord.f k ((rd_T102 x16 x18).f0)).bind fun t278 => (if t278 = true then (if x18 > 0 then (if 0 ≤ (wrap64 (x18 - 1)) then (if (wrap64 (x18 - 1)) < (x275001.length : Int) then (if ((Op.bytesLess (((rd_T102 x275001 (wrap64 (x18 - 1))).f0).toList) (((rd_T102 x16 x18).f0).toList)) = true) then (if (((rd_T102 x16 x18).f1).length : Int) = 0 then (some false) else ((impl_postingsOK.f k ((rd_T102 x16 x18).f1) (wrap64 (x275000 - 1))).bind fun t280 => (if t280 = true then (impl_GoodWords.l0 k x16 x17 (wrap64 (x18 + 1)) x275000 x275001) else (some false)))) else (some false)) else (none)) else (none)) else (if (((rd_T102 x16 x18).f1).length : Int) = 0 then (some false) else ((impl_postingsOK.f k ((rd_T102 x16 x18).f1) (wrap64 (x275000 - 1))).bind fun t281 => (if t281 = true then (impl_GoodWords.l0 k x16 x17 (wrap64 (x18 + 1)) x275000 x275001) else (some false))))) else (some false))) else (none)) else (none)) else (some true)
end
def impl_GoodWords.f (k : Nat) (a0_0 : Int) (l0_1 : List (S102)) : Option (Bool) := (impl_within.f a0_0 0 40).bind fun t275 => (if t275 = true then (impl_GoodWords.j0 k (decide ((l0_1.length : Int) > 200)) a0_0 l0_1) else (impl_GoodWords.j0 k true a0_0 l0_1))
def impl_GoodWords.T6 : Bool × List (List Nat × List Nat) := (true, [([], []), ([0], [0]), ([1], [1]), ([2], [2]), ([3, 2], [3]), ([4], [4]), ([5, 4], [4, 5]), ([6, 4, 4], [4, 6]), ([7], [7]), ([8, 7], [7, 8]), ([7], [7]), ([10, 7], [7, 10]), ([9, 11, 7], [7, 9, 11]), ([12, 7], [7, 12]), ([13, 7], [7, 13]), ([7], [7]), ([15, 7], [7, 15]), ([14, 16, 7], [7, 14, 16]), ([7, 17, 4], [4, 7, 17]), ([4, 18], [4, 18]), ([19, 7], [19]), ([20], [20]), ([21, 20], [20, 21]), ([22, 20], [20, 22]), ([23, 20], [20, 23]), ([20, 24], [20, 24]), ([25, 20], [25]), ([26], [26]), ([27, 26], [26, 27]), ([26], [26]), ([29, 26], [26, 29]), ([30, 26], [26, 30]), ([28, 31, 26, 26], [26, 28, 31]), ([32, 26], [26, 32]), ([26, 33], [26, 33])])
def impl_GoodWords.B6 : List Nat := [0, 1, 3, 7, 15, 31, 63, 127, 255, 511, 255, 1279, 4095, 8191, 16383, 255, 33023, 131071, 262143, 524287, 1048575, 2097151, 4194303, 8388607, 16777215, 33554431, 67108863, 134217727, 268435455, 134217727, 671088639, 1744830463, 4294967295, 8589934591, 17179869183]
theorem impl_GoodWords.tab6 : rtab .any (opsOf Try.f38 6) = impl_GoodWords.T6 := by kernel_rfl
theorem impl_GoodWords.bits6 : waitsOk impl_GoodWords.T6.2 impl_GoodWords.B6 = true := by kernel_rfl
set_option maxHeartbeats 8000000 in
set_option maxRecDepth 100000 in
theorem impl_GoodWords.calls (k : Nat) (a0_0 : Int) (A0_1 : Option Addr) (c0_1 : Nat) (l0_1 : List (S102)) (r : Bool) (w : World) (hr0_1 : Kd.C k102 w A0_1 l0_1.length l0_1) (hc0_1 : l0_1.length ≤ c0_1) (h : impl_GoodWords.f k a0_0 l0_1 = some r) :
  Calls Try.prog 38 #[.agg #[.int .i64 a0_0, .slice A0_1 l0_1.length c0_1]] w fun e w' => e = .returned (.bool r) ∧ Below w.heap.size w w' := by
 have hu33 := Try.underlying33
 have hu102 := Try.underlying102
 have HR0_1 := aM hr0_1
 have HC0_1 := aM hc0_1
 clear hr0_1 hc0_1
 have HB := aM (Below.refl w.heap.size w)
 have H : ((impl_within.f a0_0 0 40).bind fun t275 => (if t275 = true then (impl_GoodWords.j0 k (decide ((l0_1.length : Int) > 200)) a0_0 l0_1) else (impl_GoodWords.j0 k true a0_0 l0_1))) = some r := h
 clear h
 have HC2 := aM H
 clear H
 go_enter Try.func38, Try.ntmps38
 go_upto_region 1 with (((with_reducible refine gate_dst (N := 1) rfl ?_); (try (refine gate_guard (by rfl) ?_; dsimp only)); refine box_event ?hg (N := 1) ?hd (cs := #[.int .i64 a0_0, .slice A0_1 l0_1.length c0_1]) (t := 33) ?hr ?_; (case hd => rfl); (case hg => rfl); (case hr => first | (go_simp; done) | (go_simp; rfl)); intro gb274 hg w3 hbox hb; have n0_ := aM (below_step (gB HB.out) hb); have n1_ := aM (hbox); have n2_ := aM ((by rw [hg]; exact (below_size (gB HB.out)) : w.heap.size ≤ gb274)); have n3_ := aM ((by rw [hg]; exact (below_size (gB HB.out)) : w.heap.size ≤ gb274)); clear HB; have HB := n0_; have BK274 := n1_; have GW274 := n2_; have GE274 := n3_; clear n0_ n1_ n2_ n3_; clear hb hbox hg))
 (try simp only [Act.put, zSA, zSB, zSC])
 go_cut [14] (fun v14 wc => ∃ (kq : Nat) (x14_1 : Bool), v14 = .bool x14_1 ∧ Aside0 (impl_GoodWords.j0 kq x14_1 a0_0 l0_1 = some r) ∧ Aside0 (kq ≤ k) ∧ Aside0 (wc.heap[gb274]? = some (.cells #[.int .i64 a0_0, (.slice A0_1 l0_1.length c0_1)] 33 (0, 0))) ∧ Aside0 (Below w.heap.size w wc))
 case first =>
  have H := HC2.out
  clear HC2
  replace H := Option.bind_eq_some_iff.mp H
  obtain ⟨t275, A40, H⟩ := H
  replace H : (if t275 = true then (impl_GoodWords.j0 k (decide ((l0_1.length : Int) > 200)) a0_0 l0_1) else (impl_GoodWords.j0 k true a0_0 l0_1)) = some r := H
  have A4 := aM A40
  clear A40
  by_cases c5 : t275 = true
  ·
   subst c5
   have H1 : (impl_GoodWords.j0 k (decide ((l0_1.length : Int) > 200)) a0_0 l0_1) = some r := by rw [if_pos rfl] at H; exact H
   clear H
   have H := H1
   clear H1
   have H' := aM H
   clear H
   have hcz6_0 : w3.cell? ⟨gb274, 0, none⟩ = some (.int .i64 a0_0) := (blk_cell BK274.out 0).trans rfl
   have hcz6_1 : w3.cell? ⟨gb274, 1, none⟩ = some (.slice A0_1 l0_1.length c0_1) := (blk_cell BK274.out 1).trans rfl
   have hfz6_0 := blk_frozen BK274.out 0
   have hfz6_1 := blk_frozen BK274.out 1
   go_wp2_with (((with_reducible refine gate_callee (f := 88) rfl ?_); refine goesL_ (some 7) rfl rfl Try.func88 (by kernel_rfl) rfl #[.int .i64 a0_0, .int .i64 0, .int .i64 40] rfl (by (try simp only [List.map_toArray, List.map_cons, List.map_nil]); first | done | rfl | (simp only [List.length_drop, List.length_take]; rfl)) ?_; (with_reducible refine (impl_within.calls a0_0 0 40 true _ A4.out).mono ?_); rintro e w' ⟨rfl, ⟨nd, rfl⟩⟩; refine ⟨_, rfl, ?_⟩))
   go_meet
   case rel => exact ⟨_, (decide ((l0_1.length : Int) > 200)), (by first | rfl | (simp; done) | (simp [*]; done)), H', ⟨by first | omega | exact Nat.le_refl _⟩, ⟨gK BK274.out⟩, ⟨by repeat (first | (with_reducible first | exact HB.out | apply below_alloc | apply pw_below_drewN | apply below_drew1 | refine below_set ?_ GE274.out) | exact HB.out)⟩⟩
  ·
   replace c5 := Bool.eq_false_iff.mpr c5
   subst c5
   have H1 : (impl_GoodWords.j0 k true a0_0 l0_1) = some r := by rw [if_neg (show ¬ (false = true) by decide)] at H; exact H
   clear H
   have H := H1
   clear H1
   have H' := aM H
   clear H
   have hcz7_0 : w3.cell? ⟨gb274, 0, none⟩ = some (.int .i64 a0_0) := (blk_cell BK274.out 0).trans rfl
   have hcz7_1 : w3.cell? ⟨gb274, 1, none⟩ = some (.slice A0_1 l0_1.length c0_1) := (blk_cell BK274.out 1).trans rfl
   have hfz7_0 := blk_frozen BK274.out 0
   have hfz7_1 := blk_frozen BK274.out 1
   go_wp2_with (((with_reducible refine gate_callee (f := 88) rfl ?_); refine goesL_ (some 7) rfl rfl Try.func88 (by kernel_rfl) rfl #[.int .i64 a0_0, .int .i64 0, .int .i64 40] rfl (by (try simp only [List.map_toArray, List.map_cons, List.map_nil]); first | done | rfl | (simp only [List.length_drop, List.length_take]; rfl)) ?_; (with_reducible refine (impl_within.calls a0_0 0 40 false _ A4.out).mono ?_); rintro e w' ⟨rfl, ⟨nd, rfl⟩⟩; refine ⟨_, rfl, ?_⟩))
   go_meet
   case rel => exact ⟨_, (true), (by first | rfl | (simp; done) | (simp [*]; done)), H', ⟨by first | omega | exact Nat.le_refl _⟩, ⟨gK BK274.out⟩, ⟨by repeat (first | (with_reducible first | exact HB.out | apply below_alloc | apply pw_below_drewN | apply below_drew1 | refine below_set ?_ GE274.out) | exact HB.out)⟩⟩
 case rest =>
  clear HC2
  try clear p2
  try clear c3
  try clear c5
  try clear hcz6_0
  try clear hcz6_1
  try clear hcz7_0
  try clear hcz7_1
  try clear hfz6_0
  try clear hfz6_1
  try clear hfz7_0
  try clear hfz7_1
  obtain ⟨kq, x14_1, rfl, HA, HJ1, BK274, HB⟩ := hcut
  cases kq with
  | zero => exact absurd HA.out (by simp [impl_GoodWords.j0])
  | succ kj1 =>
   have H := HA.out
   clear HA
   simp only [impl_GoodWords.j0] at H
   by_cases c8 : x14_1 = true
   ·
    subst c8
    have H1 : (some false) = some r := by rw [if_pos rfl] at H; exact H
    clear H
    have H := H1
    clear H1
    obtain rfl := Option.some.inj H
    go_wp2
    go_ret
    exact ⟨by first | rfl | (simp [errW_none, errW_some] <;> rfl) | (simp [*, errW_none, errW_some] <;> rfl), by repeat (first | (with_reducible first | exact HB.out | apply below_alloc | apply pw_below_drewN | apply below_drew1 | refine below_set ?_ GE274.out) | exact HB.out)⟩
   ·
    replace c8 := Bool.eq_false_iff.mpr c8
    subst c8
    have H1 : (impl_GoodWords.l0 kj1 l0_1 (l0_1.length : Int) 0 a0_0 l0_1) = some r := by rw [if_neg (show ¬ (false = true) by decide)] at H; exact H
    clear H
    have H := H1
    clear H1
    have H' := aM H
    clear H
    have hcz9_0 : wc.cell? ⟨gb274, 0, none⟩ = some (.int .i64 a0_0) := (blk_cell BK274.out 0).trans rfl
    have hcz9_1 : wc.cell? ⟨gb274, 1, none⟩ = some (.slice A0_1 l0_1.length c0_1) := (blk_cell BK274.out 1).trans rfl
    have hfz9_0 := blk_frozen BK274.out 0
    have hfz9_1 := blk_frozen BK274.out 1
    go_wp2
    go_loopg [18] kj1 (fun kq v18 w' => ∃ (x18_2 : Int), v18 = .int .i64 x18_2 ∧ Aside0 (impl_GoodWords.l0 kq l0_1 (l0_1.length : Int) x18_2 a0_0 l0_1 = some r) ∧ Aside0 (kq ≤ kj1) ∧ Aside0 (w'.heap[gb274]? = some (.cells #[.int .i64 a0_0, (.slice A0_1 l0_1.length c0_1)] 33 (0, 0))) ∧ Aside0 (Below w.heap.size w w'))
    case atStart => exact ⟨(0), (by first | rfl | (simp; done) | (simp [*]; done)), H', ⟨Nat.le_refl _⟩, ⟨gK BK274.out⟩, ⟨by repeat (first | (with_reducible first | exact HB.out | apply below_alloc | apply pw_below_drewN | apply below_drew1 | refine below_set ?_ GE274.out) | exact HB.out)⟩⟩
    case round =>
     clear H'
     try clear p2
     try clear c3
     try clear c5
     try clear c8
     try clear hcz6_0
     try clear hcz6_1
     try clear hcz7_0
     try clear hcz7_1
     try clear hcz9_0
     try clear hcz9_1
     try clear hfz6_0
     try clear hfz6_1
     try clear hfz7_0
     try clear hfz7_1
     try clear hfz9_0
     try clear hfz9_1
     try clear p2
     obtain ⟨x18_2, rfl, HA, HK2, BK274, HB⟩ := hrel
     cases gk with
     | zero => exact absurd HA.out (by simp [impl_GoodWords.l0])
     | succ k2 =>
      have H := HA.out
      clear HA
      simp only [impl_GoodWords.l0] at H
      by_cases c10 : x18_2 < (l0_1.length : Int)
      ·
       rw [if_pos c10] at H
       have c10b0 : decide (x18_2 < (l0_1.length : Int)) = true := decide_eq_true c10
       clear c10
       by_cases c11 : 0 ≤ x18_2
       ·
        rw [if_pos c11] at H
        have c11b0 : decide (0 ≤ x18_2) = true := decide_eq_true c11
        clear c11
        by_cases c12 : x18_2 < (l0_1.length : Int)
        ·
         rw [if_pos c12] at H
         have c12b0 : decide (x18_2 < (l0_1.length : Int)) = true := decide_eq_true c12
         clear c12
         replace H := Option.bind_eq_some_iff.mp H
         obtain ⟨t278, A130, H⟩ := H
         replace H : (if t278 = true then (if x18_2 > 0 then (if 0 ≤ (wrap64 (x18_2 - 1)) then (if (wrap64 (x18_2 - 1)) < (l0_1.length : Int) then (if ((Op.bytesLess (((rd_T102 l0_1 (wrap64 (x18_2 - 1))).f0).toList) (((rd_T102 l0_1 x18_2).f0).toList)) = true) then (if (((rd_T102 l0_1 x18_2).f1).length : Int) = 0 then (some false) else ((impl_postingsOK.f k2 ((rd_T102 l0_1 x18_2).f1) (wrap64 (a0_0 - 1))).bind fun t280 => (if t280 = true then (impl_GoodWords.l0 k2 l0_1 (l0_1.length : Int) (wrap64 (x18_2 + 1)) a0_0 l0_1) else (some false)))) else (some false)) else (none)) else (none)) else (if (((rd_T102 l0_1 x18_2).f1).length : Int) = 0 then (some false) else ((impl_postingsOK.f k2 ((rd_T102 l0_1 x18_2).f1) (wrap64 (a0_0 - 1))).bind fun t281 => (if t281 = true then (impl_GoodWords.l0 k2 l0_1 (l0_1.length : Int) (wrap64 (x18_2 + 1)) a0_0 l0_1) else (some false))))) else (some false)) = some r := H
         have A13 := aM A130
         clear A130
         by_cases c14 : t278 = true
         ·
          subst c14
          have H1 : (if x18_2 > 0 then (if 0 ≤ (wrap64 (x18_2 - 1)) then (if (wrap64 (x18_2 - 1)) < (l0_1.length : Int) then (if ((Op.bytesLess (((rd_T102 l0_1 (wrap64 (x18_2 - 1))).f0).toList) (((rd_T102 l0_1 x18_2).f0).toList)) = true) then (if (((rd_T102 l0_1 x18_2).f1).length : Int) = 0 then (some false) else ((impl_postingsOK.f k2 ((rd_T102 l0_1 x18_2).f1) (wrap64 (a0_0 - 1))).bind fun t280 => (if t280 = true then (impl_GoodWords.l0 k2 l0_1 (l0_1.length : Int) (wrap64 (x18_2 + 1)) a0_0 l0_1) else (some false)))) else (some false)) else (none)) else (none)) else (if (((rd_T102 l0_1 x18_2).f1).length : Int) = 0 then (some false) else ((impl_postingsOK.f k2 ((rd_T102 l0_1 x18_2).f1) (wrap64 (a0_0 - 1))).bind fun t281 => (if t281 = true then (impl_GoodWords.l0 k2 l0_1 (l0_1.length : Int) (wrap64 (x18_2 + 1)) a0_0 l0_1) else (some false))))) = some r := by rw [if_pos rfl] at H; exact H
          clear H
          have H := H1
          clear H1
          by_cases c15 : x18_2 > 0
          ·
           rw [if_pos c15] at H
           have c15b0 : decide (0 < x18_2) = true := decide_eq_true c15
           clear c15
           obtain ⟨ji16, hji16⟩ : ∃ j_ : Int, (wrap64 (x18_2 - 1)) = j_ := ⟨_, rfl⟩
           replace H : (if 0 ≤ (ji16) then (if (ji16) < (l0_1.length : Int) then (if ((Op.bytesLess (((rd_T102 l0_1 (ji16)).f0).toList) (((rd_T102 l0_1 x18_2).f0).toList)) = true) then (if (((rd_T102 l0_1 x18_2).f1).length : Int) = 0 then (some false) else ((impl_postingsOK.f k2 ((rd_T102 l0_1 x18_2).f1) (wrap64 (a0_0 - 1))).bind fun t280 => (if t280 = true then (impl_GoodWords.l0 k2 l0_1 (l0_1.length : Int) (wrap64 (x18_2 + 1)) a0_0 l0_1) else (some false)))) else (some false)) else (none)) else (none)) = some r := by first | (rw [hji16] at H; exact H) | (simp only [hji16] at H ⊢; exact H)
           (try rw [hji16] at A13)
           have hji16w : (IntKind.i64.wrap (x18_2 - 1)) = ji16 := (i64_w _).trans hji16
           by_cases c17 : 0 ≤ (ji16)
           ·
            rw [if_pos c17] at H
            have c17b0 : decide (0 ≤ (ji16)) = true := decide_eq_true c17
            clear c17
            by_cases c18 : (ji16) < (l0_1.length : Int)
            ·
             rw [if_pos c18] at H
             have c18b0 : decide ((ji16) < (l0_1.length : Int)) = true := decide_eq_true c18
             clear c18
             by_cases c19 : ((Op.bytesLess (((rd_T102 l0_1 (ji16)).f0).toList) (((rd_T102 l0_1 x18_2).f0).toList)) = true)
             ·
              rw [if_pos c19] at H
              have c19b0 : (Op.bytesLess (((rd_T102 l0_1 (ji16)).f0).toList) (((rd_T102 l0_1 x18_2).f0).toList)) = true := c19
              clear c19
              by_cases c20 : (((rd_T102 l0_1 x18_2).f1).length : Int) = 0
              ·
               rw [if_pos c20] at H
               have c20b0 : ((((rd_T102 l0_1 x18_2).f1).length : Int) == 0) = true := beq_iff_eq.mpr c20
               have c20b1 : ((((rd_T102 l0_1 x18_2).f1).length : Int) != 0) = false := bne_eq_false_iff_eq.mpr c20
               clear c20
               obtain rfl := Option.some.inj H
               have p276 : 0 ≤ (x18_2 : Int) := of_decide_eq_true (by first | (with_reducible assumption) | assumption)
               have q276 : x18_2 < (l0_1.length : Int) := of_decide_eq_true (by first | (with_reducible assumption) | assumption)
               obtain ⟨ad276, A276_1, c276_1, e276, hx276_0, hx276_1, hl276_1, hi276_1⟩ := at_T102 HR0_1.out x18_2 p276 q276
               cases e276
               try have hz_hx276_0 := aM hx276_0
               try have hz_hx276_1 := aM hx276_1
               replace hx276_0 := (HB.out.cell (World.block_lt_of_cell? w _ hx276_0)).trans hx276_0
               replace hx276_1 := (HB.out.cell (World.block_lt_of_cell? w _ hx276_1)).trans hx276_1
               have HR276_1 := aM hi276_1
               have HC276_1 := aM hl276_1
               clear hi276_1 hl276_1
               replace p276 := eq_true p276
               replace q276 := eq_true q276
               try go_wp2_with (((with_reducible refine gate_dst (N := 4) rfl ?_); (try (refine gate_guard (by rfl) ?_; dsimp only)); refine box_event ?hg (N := 4) ?hd (cs := #[.string (⟨#[]⟩ : ByteArray), .slice none 0 0]) (t := 102) ?hr ?_; (case hd => rfl); (case hg => rfl); (case hr => first | (go_simp; done) | (go_simp; rfl)); intro gb277 hg w21 hbox hb; have n0_ := aM (blk_below (g := gb274) (o := .cells #[.int .i64 a0_0, .slice (some ad276) l0_1.length c0_1] 33 (0, 0)) (gK BK274.out) hb); have n1_ := aM (below_step (gB HB.out) hb); have n2_ := aM (hbox); have n3_ := aM ((by rw [hg]; exact (below_size (gB HB.out)) : w.heap.size ≤ gb277)); have n4_ := aM ((by rw [hg]; exact (below_size (gB HB.out)) : w.heap.size ≤ gb277)); have n5_ := aM ((by rw [hg]; exact Nat.ne_of_lt (blk_lt (g := gb274) (o := .cells #[.int .i64 a0_0, .slice (some ad276) l0_1.length c0_1] 33 (0, 0)) (gK BK274.out)) : gb274 ≠ gb277)); have n6_ := aM ((by rw [hg]; exact Nat.ne_of_gt (blk_lt (g := gb274) (o := .cells #[.int .i64 a0_0, .slice (some ad276) l0_1.length c0_1] 33 (0, 0)) (gK BK274.out)) : gb277 ≠ gb274)); clear BK274; clear HB; have BK274 := n0_; have HB := n1_; have BK277 := n2_; have GW277 := n3_; have GE277 := n4_; have NB274_277 := n5_; have NB277_274 := n6_; clear n0_ n1_ n2_ n3_ n4_ n5_ n6_; clear hb hbox hg; have hnb22 := NB277_274.out; have hnc22 := NB274_277.out; have hcz23_0 : w21.cell? ⟨gb277, 0, none⟩ = some (.string (⟨#[]⟩ : ByteArray)) := (blk_cell BK277.out 0).trans rfl; have hcz23_1 : w21.cell? ⟨gb277, 1, none⟩ = some (.slice none 0 0) := (blk_cell BK277.out 1).trans rfl; have hfz23_0 := blk_frozen BK277.out 0; have hfz23_1 := blk_frozen BK277.out 1))
               have n0_ : Aside0 (((w21.setCell ⟨gb277, 0, none⟩ (.string ((rd_T102 l0_1 x18_2).f0))).setCell ⟨gb277, 1, none⟩ (.slice A276_1 ((rd_T102 l0_1 x18_2).f1).length c276_1)).heap[gb274]? = some (.cells #[.int .i64 a0_0, .slice (some ad276) l0_1.length c0_1] 33 (0, 0))) := ⟨by (with_reducible repeat (first | refine blk_drewN ?_ _ | refine blk_drew ?_ | refine blk_alloc ?_ _)); refine blk_far ?_ NB274_277.out _; (with_reducible repeat (first | refine blk_drewN ?_ _ | refine blk_drew ?_ | refine blk_alloc ?_ _)); refine blk_far ?_ NB274_277.out _; (with_reducible repeat (first | refine blk_drewN ?_ _ | refine blk_drew ?_ | refine blk_alloc ?_ _)); exact BK274.out⟩
               have n1_ : Aside0 (((w21.setCell ⟨gb277, 0, none⟩ (.string ((rd_T102 l0_1 x18_2).f0))).setCell ⟨gb277, 1, none⟩ (.slice A276_1 ((rd_T102 l0_1 x18_2).f1).length c276_1)).heap[gb277]? = some (.cells #[.string ((rd_T102 l0_1 x18_2).f0), .slice A276_1 ((rd_T102 l0_1 x18_2).f1).length c276_1] 102 (0, 0))) := ⟨by (with_reducible repeat (first | refine blk_drewN ?_ _ | refine blk_drew ?_ | refine blk_alloc ?_ _)); refine blk_put (cs := #[.string ((rd_T102 l0_1 x18_2).f0), .slice none 0 0]) ?_ 1 _ rfl; (with_reducible repeat (first | refine blk_drewN ?_ _ | refine blk_drew ?_ | refine blk_alloc ?_ _)); refine blk_put (cs := #[.string (⟨#[]⟩ : ByteArray), .slice none 0 0]) ?_ 0 _ rfl; (with_reducible repeat (first | refine blk_drewN ?_ _ | refine blk_drew ?_ | refine blk_alloc ?_ _)); exact BK277.out⟩
               have n2_ : Aside0 (Below w.heap.size w ((w21.setCell ⟨gb277, 0, none⟩ (.string ((rd_T102 l0_1 x18_2).f0))).setCell ⟨gb277, 1, none⟩ (.slice A276_1 ((rd_T102 l0_1 x18_2).f1).length c276_1))) := ⟨by repeat (first | (with_reducible first | exact HB.out | apply below_alloc | apply pw_below_drewN | apply below_drew1 | refine below_set ?_ GE274.out | refine below_set ?_ GE277.out) | exact HB.out)⟩
               (try clear BK274)
               (try clear BK277)
               (try clear HB)
               generalize ((w21.setCell ⟨gb277, 0, none⟩ (.string ((rd_T102 l0_1 x18_2).f0))).setCell ⟨gb277, 1, none⟩ (.slice A276_1 ((rd_T102 l0_1 x18_2).f1).length c276_1)) = w24 at n0_ n1_ n2_ ⊢
               have BK274 := n0_
               have BK277 := n1_
               have HB := n2_
               clear n0_ n1_ n2_
               have n0_ := aM (blk_drew BK274.out)
               have n1_ := aM (blk_drew BK277.out)
               have n2_ := aM (below_drew1 HB.out)
               clear BK274
               clear BK277
               clear HB
               have BK274 := n0_
               have BK277 := n1_
               have HB := n2_
               clear n0_ n1_ n2_
               have p279 : 0 ≤ ((ji16) : Int) := of_decide_eq_true (by first | (with_reducible assumption) | assumption)
               have q279 : (ji16) < (l0_1.length : Int) := of_decide_eq_true (by first | (with_reducible assumption) | assumption)
               obtain ⟨ad279, A279_1, c279_1, e279, hx279_0, hx279_1, hl279_1, hi279_1⟩ := at_T102 HR0_1.out (ji16) p279 q279
               have hw279_1 := hx279_1
               have hw279_0 := hx279_0
               obtain rfl : ad276 = ad279 := (by injection e279)
               try have hz_hx279_0 := aM hx279_0
               try have hz_hx279_1 := aM hx279_1
               replace hx279_0 := (HB.out.cell (World.block_lt_of_cell? w _ hx279_0)).trans hx279_0
               replace hx279_1 := (HB.out.cell (World.block_lt_of_cell? w _ hx279_1)).trans hx279_1
               have HR279_1 := aM hi279_1
               have HC279_1 := aM hl279_1
               clear hi279_1 hl279_1
               replace p279 := eq_true p279
               replace q279 := eq_true q279
               refine start_ (n := 35) (S := fun w' => w'.cell? ⟨gb277, 0, none⟩ = some (.string ((rd_T102 l0_1 x18_2).f0)) ∧ w'.cell? ⟨gb277, 1, none⟩ = some (.slice A276_1 ((rd_T102 l0_1 x18_2).f1).length c276_1) ∧ w'.cell? ⟨gb274, 0, none⟩ = some (.int .i64 a0_0) ∧ w'.cell? ⟨gb274, 1, none⟩ = some (.slice (some ad276) l0_1.length c0_1) ∧ w'.cell? (ad276.add (((ji16)).toNat * 2)) = some (.string ((rd_T102 l0_1 (ji16)).f0)) ∧ w'.cell? ⟨(ad276.add (((ji16)).toNat * 2)).block, (ad276.add (((ji16)).toNat * 2)).off + 1, none⟩ = some (.slice A279_1 ((rd_T102 l0_1 (ji16)).f1).length c279_1)) (ds := []) (bq 35 0) (by kernel_rfl) rfl (by kernel_rfl) ⟨(blk_cell BK277.out 0).trans rfl, (blk_cell BK277.out 1).trans rfl, (blk_cell BK274.out 0).trans rfl, (blk_cell BK274.out 1).trans rfl, ((HB.out.cell (World.block_lt_of_cell? w _ hw279_0)).trans hw279_0), ((HB.out.cell (World.block_lt_of_cell? w _ hw279_1)).trans hw279_1)⟩ (fun hHeld => ?_); refine with_tabW impl_GoodWords.tab6 impl_GoodWords.bits6 (fun HT_ HW_ => ?_)
               generalize w24.drew = w25 at BK274 BK277 HB HR279_1 hx279_0 hx279_1 hHeld ⊢
               refine pure_ (i := 0) (N := some 23) (v := ?_) (a' := ?_) (bq 35 1) rfl rfl (any_of HT_.out (by kernel_rfl)) (fun _ _ _ h => h) (Or.inl ⟨by rfl, ?_⟩) ?_ ?_; rotate_left; (intro w'; go_simp; (with_reducible rfl)); rotate_left; (simp only [Act.put, zSA, zSB, zSC, i64_w, i32_w]; rfl)
               refine take_ (i := 1) (N := some 24) (v := ?_) (a' := ?_) (bq 35 3) rfl rfl (take_ofW HT_.out HW_.out (by kernel_rfl)) (fun _ _ _ h => h) (Or.inl ⟨by rfl, ?_⟩) hHeld ?_ ?_; rotate_left; (rintro w' ⟨s0, s1, s2, s3, s4, s5⟩; go_simp; (with_reducible rfl)); rotate_left; (simp only [Act.put, zSA, zSB, zSC, i64_w, i32_w]; rfl)
               refine one_ (i := 2) (N := some 25) (bq 35 7) rfl rfl (one_of HT_.out (by kernel_rfl)) (by decide) (fun K hK => ?_)
               refine goes_ Try.func89 (by kernel_rfl) rfl #[.string ((rd_T102 l0_1 x18_2).f0)] (by rfl) rfl rfl (by (try simp only [List.map_toArray, List.map_cons, List.map_nil]); first | done | rfl | (simp only [List.length_drop, List.length_take]; rfl)) ?_
               with_reducible refine (impl_isWord.calls k2 ((rd_T102 l0_1 x18_2).f0) true _ A13.out).mono ?_
               rintro e w' ⟨rfl, ⟨nd, rfl⟩⟩
               refine ⟨_, rfl, ?_⟩
               refine hK.out _ _ ⟨(blk_cell BK277.out 0).trans rfl, (blk_cell BK277.out 1).trans rfl, (blk_cell BK274.out 0).trans rfl, (blk_cell BK274.out 1).trans rfl, ((HB.out.cell (World.block_lt_of_cell? w _ hw279_0)).trans hw279_0), ((HB.out.cell (World.block_lt_of_cell? w _ hw279_1)).trans hw279_1)⟩ (fun hHeld => ?_)
               clear hK K
               refine norm_ (a' := ?_) ?_ ?_
               rotate_left
               ·
                show Act.put _ (some 25) _ = _
                simp only [Act.put, zSA, zSB, zSC, i64_w, i32_w]
                rfl
               refine pure_ (i := 3) (N := some 26) (v := ?_) (a' := ?_) (bq 35 15) rfl rfl (any_of HT_.out (by kernel_rfl)) (fun _ _ _ h => h) (Or.inl ⟨by rfl, ?_⟩) ?_ ?_; rotate_left; (intro w'; go_simp; (with_reducible rfl)); rotate_left; (simp only [Act.put, zSA, zSB, zSC, i64_w, i32_w]; rfl)
               refine pure_ (i := 4) (N := some 27) (v := ?_) (a' := ?_) (bq 35 31) rfl rfl (any_of HT_.out (by kernel_rfl)) (fun _ _ _ h => h) (Or.inl ⟨by rfl, ?_⟩) ?_ ?_; rotate_left; (intro w'; go_simp; (with_reducible rfl)); rotate_left; (simp only [Act.put, zSA, zSB, zSC, i64_w, i32_w]; rfl)
               refine pure_ (i := 5) (N := some 28) (v := ?_) (a' := ?_) (bq 35 63) rfl rfl (any_of HT_.out (by kernel_rfl)) (fun _ _ _ h => h) (Or.inl ⟨by rfl, ?_⟩) ?_ ?_; rotate_left; (intro w'; go_simp; (with_reducible rfl)); rotate_left; (simp only [Act.put, zSA, zSB, zSC, i64_w, i32_w]; rfl)
               refine pure_ (i := 6) (N := some 29) (v := ?_) (a' := ?_) (bq 35 127) rfl rfl (any_of HT_.out (by kernel_rfl)) (fun _ _ _ h => h) (Or.inl ⟨by rfl, ?_⟩) ?_ ?_; rotate_left; (intro w'; go_simp; (with_reducible rfl)); rotate_left; (simp only [Act.put, zSA, zSB, zSC, i64_w, i32_w]; rfl)
               refine pure_ (i := 7) (N := some 30) (v := ?_) (a' := ?_) (bq 35 255) rfl rfl (any_of HT_.out (by kernel_rfl)) (fun _ _ _ h => h) (Or.inl ⟨by rfl, ?_⟩) ?_ ?_; rotate_left; (intro w'; go_simp; (with_reducible rfl)); rotate_left; (simp only [Act.put, zSA, zSB, zSC, i64_w, i32_w]; rfl)
               refine pure_ (i := 8) (N := some 31) (v := ?_) (a' := ?_) (bq 35 511) rfl rfl (any_of HT_.out (by kernel_rfl)) (fun _ _ _ h => h) (Or.inl ⟨by rfl, ?_⟩) ?_ ?_; rotate_left; (intro w'; go_simp; (with_reducible rfl)); rotate_left; (simp only [Act.put, zSA, zSB, zSC, i64_w, i32_w]; rfl)
               refine pure_ (i := 10) (N := some 33) (v := ?_) (a' := ?_) (bq 35 1535) rfl rfl (any_of HT_.out (by kernel_rfl)) (fun _ _ _ h => h) (Or.inl ⟨by rfl, ?_⟩) ?_ ?_; rotate_left; (intro w'; go_simp; (with_reducible rfl)); rotate_left; (simp only [Act.put, zSA, zSB, zSC, i64_w, i32_w]; rfl)
               refine pure_ (i := 11) (N := some 34) (v := ?_) (a' := ?_) (bq 35 3583) rfl rfl (any_of HT_.out (by kernel_rfl)) (fun _ _ _ h => h) (Or.inl ⟨by rfl, ?_⟩) ?_ ?_; rotate_left; (intro w'; go_simp; (with_reducible rfl)); rotate_left; (simp only [Act.put, zSA, zSB, zSC, i64_w, i32_w]; rfl)
               refine pure_ (i := 15) (N := some 38) (v := ?_) (a' := ?_) (bq 35 36351) rfl rfl (any_of HT_.out (by kernel_rfl)) (fun _ _ _ h => h) (Or.inl ⟨by rfl, ?_⟩) ?_ ?_; rotate_left; (intro w'; go_simp; (with_reducible rfl)); rotate_left; (simp only [Act.put, zSA, zSB, zSC, i64_w, i32_w]; rfl)
               refine take_ (i := 9) (N := some 32) (v := ?_) (a' := ?_) (bq 35 36863) rfl rfl (take_ofW HT_.out HW_.out (by kernel_rfl)) (fun _ _ _ h => h) (Or.inl ⟨by rfl, ?_⟩) hHeld ?_ ?_; rotate_left; (rintro w' ⟨s0, s1, s2, s3, s4, s5⟩; go_simp; (with_reducible rfl)); rotate_left; (simp only [Act.put, zSA, zSB, zSC, i64_w, i32_w]; rfl)
               refine pure_ (i := 12) (N := some 35) (v := ?_) (a' := ?_) (bq 35 40959) rfl rfl (any_of HT_.out (by kernel_rfl)) (fun _ _ _ h => h) (Or.inl ⟨by rfl, ?_⟩) ?_ ?_; rotate_left; (intro w'; go_simp; (with_reducible rfl)); rotate_left; (simp only [Act.put, zSA, zSB, zSC, i64_w, i32_w]; rfl)
               refine pure_ (i := 13) (N := some 36) (v := ?_) (a' := ?_) (bq 35 49151) rfl rfl (any_of HT_.out (by kernel_rfl)) (fun _ _ _ h => h) (Or.inl ⟨by rfl, ?_⟩) ?_ ?_; rotate_left; (intro w'; go_simp; (with_reducible rfl)); rotate_left; (simp only [Act.put, zSA, zSB, zSC, i64_w, i32_w]; rfl)
               refine take_ (i := 14) (N := some 37) (v := ?_) (a' := ?_) (bq 35 65535) rfl rfl (take_ofW HT_.out HW_.out (by kernel_rfl)) (fun _ _ _ h => h) (Or.inl ⟨by rfl, ?_⟩) hHeld ?_ ?_; rotate_left; (rintro w' ⟨s0, s1, s2, s3, s4, s5⟩; go_simp; (with_reducible rfl)); rotate_left; (simp only [Act.put, zSA, zSB, zSC, i64_w, i32_w]; rfl)
               refine take_ (i := 16) (N := some 39) (v := ?_) (a' := ?_) (bq 35 131071) rfl rfl (take_ofW HT_.out HW_.out (by kernel_rfl)) (fun _ _ _ h => h) (Or.inl ⟨by rfl, ?_⟩) hHeld ?_ ?_; rotate_left; (rintro w' ⟨s0, s1, s2, s3, s4, s5⟩; go_simp; (with_reducible rfl)); rotate_left; (simp only [Act.put, zSA, zSB, zSC, i64_w, i32_w]; rfl)
               refine pure_ (i := 17) (N := some 40) (v := ?_) (a' := ?_) (bq 35 262143) rfl rfl (any_of HT_.out (by kernel_rfl)) (fun _ _ _ h => h) (Or.inl ⟨by rfl, ?_⟩) ?_ ?_; rotate_left; (intro w'; go_simp; (with_reducible rfl)); rotate_left; (simp only [Act.put, zSA, zSB, zSC, i64_w, i32_w]; rfl)
               refine pure_ (i := 18) (N := some 41) (v := ?_) (a' := ?_) (bq 35 524287) rfl rfl (any_of HT_.out (by kernel_rfl)) (fun _ _ _ h => h) (Or.inl ⟨by rfl, ?_⟩) ?_ ?_; rotate_left; (intro w'; go_simp; (with_reducible rfl)); rotate_left; (simp only [Act.put, zSA, zSB, zSC, i64_w, i32_w]; rfl)
               refine pure_ (i := 19) (N := some 42) (v := ?_) (a' := ?_) (bq 35 1048575) rfl rfl (any_of HT_.out (by kernel_rfl)) (fun _ _ _ h => h) (Or.inl ⟨by rfl, ?_⟩) ?_ ?_; rotate_left; (intro w'; go_simp; (with_reducible rfl)); rotate_left; (simp only [Act.put, zSA, zSB, zSC, i64_w, i32_w]; rfl)
               refine pure_ (i := 20) (N := some 43) (v := ?_) (a' := ?_) (bq 35 2097151) rfl rfl (any_of HT_.out (by kernel_rfl)) (fun _ _ _ h => h) (Or.inl ⟨by rfl, ?_⟩) ?_ ?_; rotate_left; (intro w'; go_simp; (with_reducible rfl)); rotate_left; (simp only [Act.put, zSA, zSB, zSC, i64_w, i32_w]; rfl)
               refine pure_ (i := 21) (N := some 44) (v := ?_) (a' := ?_) (bq 35 4194303) rfl rfl (any_of HT_.out (by kernel_rfl)) (fun _ _ _ h => h) (Or.inl ⟨by rfl, ?_⟩) ?_ ?_; rotate_left; (intro w'; go_simp; (with_reducible rfl)); rotate_left; (simp only [Act.put, zSA, zSB, zSC, i64_w, i32_w]; rfl)
               refine take_ (i := 22) (N := some 45) (v := ?_) (a' := ?_) (bq 35 8388607) rfl rfl (take_ofW HT_.out HW_.out (by kernel_rfl)) (fun _ _ _ h => h) (Or.inl ⟨by rfl, ?_⟩) hHeld ?_ ?_; rotate_left; (rintro w' ⟨s0, s1, s2, s3, s4, s5⟩; go_simp; (with_reducible rfl)); rotate_left; (simp only [Act.put, zSA, zSB, zSC, i64_w, i32_w]; rfl)
               refine pure_ (i := 23) (N := some 46) (v := ?_) (a' := ?_) (bq 35 16777215) rfl rfl (any_of HT_.out (by kernel_rfl)) (fun _ _ _ h => h) (Or.inl ⟨by rfl, ?_⟩) ?_ ?_; rotate_left; (intro w'; go_simp; (with_reducible rfl)); rotate_left; (simp only [Act.put, zSA, zSB, zSC, i64_w, i32_w]; rfl)
               refine pure_ (i := 24) (N := some 47) (v := ?_) (a' := ?_) (bq 35 33554431) rfl rfl (any_of HT_.out (by kernel_rfl)) (fun _ _ _ h => h) (Or.inl ⟨by rfl, ?_⟩) ?_ ?_; rotate_left; (intro w'; go_simp; (with_reducible rfl)); rotate_left; (simp only [Act.put, zSA, zSB, zSC, i64_w, i32_w]; rfl)
               refine pure_ (i := 25) (N := some 48) (v := ?_) (a' := ?_) (bq 35 67108863) rfl rfl (any_of HT_.out (by kernel_rfl)) (fun _ _ _ h => h) (Or.inl ⟨by rfl, ?_⟩) ?_ ?_; rotate_left; (intro w'; go_simp; (with_reducible rfl)); rotate_left; (simp only [Act.put, zSA, zSB, zSC, i64_w, i32_w]; rfl)
               refine pure_ (i := 26) (N := some 49) (v := ?_) (a' := ?_) (bq 35 134217727) rfl rfl (any_of HT_.out (by kernel_rfl)) (fun _ _ _ h => h) (Or.inl ⟨by rfl, ?_⟩) ?_ ?_; rotate_left; (intro w'; go_simp; (with_reducible rfl)); rotate_left; (simp only [Act.put, zSA, zSB, zSC, i64_w, i32_w]; rfl)
               refine pure_ (i := 27) (N := some 50) (v := undef) (a' := ?_) (bq 35 268435455) rfl rfl (any_of HT_.out (by kernel_rfl)) (fun _ _ _ h => h) (Or.inr ⟨by rfl, rfl⟩) ?_ ?_
               rotate_left
               ·
                simp only [Act.put, zSA, zSB, zSC, i64_w, i32_w]
                rfl
               refine pure_ (i := 28) (N := some 51) (v := undef) (a' := ?_) (bq 35 536870911) rfl rfl (any_of HT_.out (by kernel_rfl)) (fun _ _ _ h => h) (Or.inr ⟨by rfl, rfl⟩) ?_ ?_
               rotate_left
               ·
                simp only [Act.put, zSA, zSB, zSC, i64_w, i32_w]
                rfl
               refine pure_ (i := 29) (N := some 52) (v := undef) (a' := ?_) (bq 35 1073741823) rfl rfl (any_of HT_.out (by kernel_rfl)) (fun _ _ _ h => h) (Or.inr ⟨by rfl, rfl⟩) ?_ ?_
               rotate_left
               ·
                simp only [Act.put, zSA, zSB, zSC, i64_w, i32_w]
                rfl
               refine pure_ (i := 30) (N := some 53) (v := undef) (a' := ?_) (bq 35 2147483647) rfl rfl (any_of HT_.out (by kernel_rfl)) (fun _ _ _ h => h) (Or.inr ⟨by rfl, rfl⟩) ?_ ?_
               rotate_left
               ·
                simp only [Act.put, zSA, zSB, zSC, i64_w, i32_w]
                rfl
               refine pure_ (i := 31) (N := some 54) (v := undef) (a' := ?_) (bq 35 4294967295) rfl rfl (any_of HT_.out (by kernel_rfl)) (fun _ _ _ h => h) (Or.inr ⟨by rfl, rfl⟩) ?_ ?_
               rotate_left
               ·
                simp only [Act.put, zSA, zSB, zSC, i64_w, i32_w]
                rfl
               refine pure_ (i := 32) (N := some 55) (v := undef) (a' := ?_) (bq 35 8589934591) rfl rfl (any_of HT_.out (by kernel_rfl)) (fun _ _ _ h => h) (Or.inr ⟨by rfl, rfl⟩) ?_ ?_
               rotate_left
               ·
                simp only [Act.put, zSA, zSB, zSC, i64_w, i32_w]
                rfl
               refine pure_ (i := 33) (N := some 56) (v := undef) (a' := ?_) (bq 35 17179869183) rfl rfl (any_of HT_.out (by kernel_rfl)) (fun _ _ _ h => h) (Or.inr ⟨by rfl, rfl⟩) ?_ ?_
               rotate_left
               ·
                simp only [Act.put, zSA, zSB, zSC, i64_w, i32_w]
                rfl
               refine pure_ (i := 34) (N := some 57) (v := ?_) (a' := ?_) (bq 35 34359738367) rfl rfl (any_of HT_.out (by kernel_rfl)) (fun _ _ _ h => h) (Or.inl ⟨by rfl, ?_⟩) ?_ ?_; rotate_left; (intro w'; go_simp; (with_reducible rfl)); rotate_left; (simp only [Act.put, zSA, zSB, zSC, i64_w, i32_w]; rfl)
               refine done_ (done_of HT_.out (by kernel_rfl)) ?_
               try go_wp2
               go_ret
               exact ⟨by first | rfl | (simp [errW_none, errW_some] <;> rfl) | (simp only [← hji16]; first | rfl | (simp [errW_none, errW_some] <;> rfl)) | (simp [*, errW_none, errW_some] <;> rfl), by repeat (first | (with_reducible first | exact HB.out | apply below_alloc | apply pw_below_drewN | apply below_drew1 | refine below_set ?_ GE274.out | refine below_set ?_ GE277.out) | exact HB.out)⟩
              ·
               rw [if_neg c20] at H
               have c20b0 : ((((rd_T102 l0_1 x18_2).f1).length : Int) == 0) = false := beq_eq_false_iff_ne.mpr c20
               have c20b1 : ((((rd_T102 l0_1 x18_2).f1).length : Int) != 0) = true := bne_iff_ne.mpr c20
               have c20b2 : ¬ (((rd_T102 l0_1 x18_2).f1) = []) := fun h_ => c20 (by rw [h_]; rfl)
               replace H := Option.bind_eq_some_iff.mp H
               obtain ⟨t280, A260, H⟩ := H
               replace H : (if t280 = true then (impl_GoodWords.l0 k2 l0_1 (l0_1.length : Int) (wrap64 (x18_2 + 1)) a0_0 l0_1) else (some false)) = some r := H
               have A26 := aM A260
               clear A260
               by_cases c27 : t280 = true
               ·
                subst c27
                have H1 : (impl_GoodWords.l0 k2 l0_1 (l0_1.length : Int) (wrap64 (x18_2 + 1)) a0_0 l0_1) = some r := by rw [if_pos rfl] at H; exact H
                clear H
                have H := H1
                clear H1
                have H' := aM H
                clear H
                have p276 : 0 ≤ (x18_2 : Int) := of_decide_eq_true (by first | (with_reducible assumption) | assumption)
                have q276 : x18_2 < (l0_1.length : Int) := of_decide_eq_true (by first | (with_reducible assumption) | assumption)
                obtain ⟨ad276, A276_1, c276_1, e276, hx276_0, hx276_1, hl276_1, hi276_1⟩ := at_T102 HR0_1.out x18_2 p276 q276
                cases e276
                try have hz_hx276_0 := aM hx276_0
                try have hz_hx276_1 := aM hx276_1
                replace hx276_0 := (HB.out.cell (World.block_lt_of_cell? w _ hx276_0)).trans hx276_0
                replace hx276_1 := (HB.out.cell (World.block_lt_of_cell? w _ hx276_1)).trans hx276_1
                have HR276_1 := aM hi276_1
                have HC276_1 := aM hl276_1
                clear hi276_1 hl276_1
                replace p276 := eq_true p276
                replace q276 := eq_true q276
                try go_wp2_with (((with_reducible refine gate_dst (N := 4) rfl ?_); (try (refine gate_guard (by rfl) ?_; dsimp only)); refine box_event ?hg (N := 4) ?hd (cs := #[.string (⟨#[]⟩ : ByteArray), .slice none 0 0]) (t := 102) ?hr ?_; (case hd => rfl); (case hg => rfl); (case hr => first | (go_simp; done) | (go_simp; rfl)); intro gb277 hg w28 hbox hb; have n0_ := aM (blk_below (g := gb274) (o := .cells #[.int .i64 a0_0, .slice (some ad276) l0_1.length c0_1] 33 (0, 0)) (gK BK274.out) hb); have n1_ := aM (below_step (gB HB.out) hb); have n2_ := aM (hbox); have n3_ := aM ((by rw [hg]; exact (below_size (gB HB.out)) : w.heap.size ≤ gb277)); have n4_ := aM ((by rw [hg]; exact (below_size (gB HB.out)) : w.heap.size ≤ gb277)); have n5_ := aM ((by rw [hg]; exact Nat.ne_of_lt (blk_lt (g := gb274) (o := .cells #[.int .i64 a0_0, .slice (some ad276) l0_1.length c0_1] 33 (0, 0)) (gK BK274.out)) : gb274 ≠ gb277)); have n6_ := aM ((by rw [hg]; exact Nat.ne_of_gt (blk_lt (g := gb274) (o := .cells #[.int .i64 a0_0, .slice (some ad276) l0_1.length c0_1] 33 (0, 0)) (gK BK274.out)) : gb277 ≠ gb274)); clear BK274; clear HB; have BK274 := n0_; have HB := n1_; have BK277 := n2_; have GW277 := n3_; have GE277 := n4_; have NB274_277 := n5_; have NB277_274 := n6_; clear n0_ n1_ n2_ n3_ n4_ n5_ n6_; clear hb hbox hg; have hnb29 := NB277_274.out; have hnc29 := NB274_277.out; have hcz30_0 : w28.cell? ⟨gb277, 0, none⟩ = some (.string (⟨#[]⟩ : ByteArray)) := (blk_cell BK277.out 0).trans rfl; have hcz30_1 : w28.cell? ⟨gb277, 1, none⟩ = some (.slice none 0 0) := (blk_cell BK277.out 1).trans rfl; have hfz30_0 := blk_frozen BK277.out 0; have hfz30_1 := blk_frozen BK277.out 1))
                have n0_ : Aside0 (((w28.setCell ⟨gb277, 0, none⟩ (.string ((rd_T102 l0_1 x18_2).f0))).setCell ⟨gb277, 1, none⟩ (.slice A276_1 ((rd_T102 l0_1 x18_2).f1).length c276_1)).heap[gb274]? = some (.cells #[.int .i64 a0_0, .slice (some ad276) l0_1.length c0_1] 33 (0, 0))) := ⟨by (with_reducible repeat (first | refine blk_drewN ?_ _ | refine blk_drew ?_ | refine blk_alloc ?_ _)); refine blk_far ?_ NB274_277.out _; (with_reducible repeat (first | refine blk_drewN ?_ _ | refine blk_drew ?_ | refine blk_alloc ?_ _)); refine blk_far ?_ NB274_277.out _; (with_reducible repeat (first | refine blk_drewN ?_ _ | refine blk_drew ?_ | refine blk_alloc ?_ _)); exact BK274.out⟩
                have n1_ : Aside0 (((w28.setCell ⟨gb277, 0, none⟩ (.string ((rd_T102 l0_1 x18_2).f0))).setCell ⟨gb277, 1, none⟩ (.slice A276_1 ((rd_T102 l0_1 x18_2).f1).length c276_1)).heap[gb277]? = some (.cells #[.string ((rd_T102 l0_1 x18_2).f0), .slice A276_1 ((rd_T102 l0_1 x18_2).f1).length c276_1] 102 (0, 0))) := ⟨by (with_reducible repeat (first | refine blk_drewN ?_ _ | refine blk_drew ?_ | refine blk_alloc ?_ _)); refine blk_put (cs := #[.string ((rd_T102 l0_1 x18_2).f0), .slice none 0 0]) ?_ 1 _ rfl; (with_reducible repeat (first | refine blk_drewN ?_ _ | refine blk_drew ?_ | refine blk_alloc ?_ _)); refine blk_put (cs := #[.string (⟨#[]⟩ : ByteArray), .slice none 0 0]) ?_ 0 _ rfl; (with_reducible repeat (first | refine blk_drewN ?_ _ | refine blk_drew ?_ | refine blk_alloc ?_ _)); exact BK277.out⟩
                have n2_ : Aside0 (Below w.heap.size w ((w28.setCell ⟨gb277, 0, none⟩ (.string ((rd_T102 l0_1 x18_2).f0))).setCell ⟨gb277, 1, none⟩ (.slice A276_1 ((rd_T102 l0_1 x18_2).f1).length c276_1))) := ⟨by repeat (first | (with_reducible first | exact HB.out | apply below_alloc | apply pw_below_drewN | apply below_drew1 | refine below_set ?_ GE274.out | refine below_set ?_ GE277.out) | exact HB.out)⟩
                (try clear BK274)
                (try clear BK277)
                (try clear HB)
                generalize ((w28.setCell ⟨gb277, 0, none⟩ (.string ((rd_T102 l0_1 x18_2).f0))).setCell ⟨gb277, 1, none⟩ (.slice A276_1 ((rd_T102 l0_1 x18_2).f1).length c276_1)) = w31 at n0_ n1_ n2_ ⊢
                have BK274 := n0_
                have BK277 := n1_
                have HB := n2_
                clear n0_ n1_ n2_
                have n0_ := aM (blk_drew BK274.out)
                have n1_ := aM (blk_drew BK277.out)
                have n2_ := aM (below_drew1 HB.out)
                clear BK274
                clear BK277
                clear HB
                have BK274 := n0_
                have BK277 := n1_
                have HB := n2_
                clear n0_ n1_ n2_
                have p279 : 0 ≤ ((ji16) : Int) := of_decide_eq_true (by first | (with_reducible assumption) | assumption)
                have q279 : (ji16) < (l0_1.length : Int) := of_decide_eq_true (by first | (with_reducible assumption) | assumption)
                obtain ⟨ad279, A279_1, c279_1, e279, hx279_0, hx279_1, hl279_1, hi279_1⟩ := at_T102 HR0_1.out (ji16) p279 q279
                have hw279_1 := hx279_1
                have hw279_0 := hx279_0
                obtain rfl : ad276 = ad279 := (by injection e279)
                try have hz_hx279_0 := aM hx279_0
                try have hz_hx279_1 := aM hx279_1
                replace hx279_0 := (HB.out.cell (World.block_lt_of_cell? w _ hx279_0)).trans hx279_0
                replace hx279_1 := (HB.out.cell (World.block_lt_of_cell? w _ hx279_1)).trans hx279_1
                have HR279_1 := aM hi279_1
                have HC279_1 := aM hl279_1
                clear hi279_1 hl279_1
                replace p279 := eq_true p279
                replace q279 := eq_true q279
                refine start_ (n := 35) (S := fun w' => w'.cell? ⟨gb277, 0, none⟩ = some (.string ((rd_T102 l0_1 x18_2).f0)) ∧ w'.cell? ⟨gb277, 1, none⟩ = some (.slice A276_1 ((rd_T102 l0_1 x18_2).f1).length c276_1) ∧ w'.cell? ⟨gb274, 0, none⟩ = some (.int .i64 a0_0) ∧ w'.cell? ⟨gb274, 1, none⟩ = some (.slice (some ad276) l0_1.length c0_1) ∧ w'.cell? (ad276.add (((ji16)).toNat * 2)) = some (.string ((rd_T102 l0_1 (ji16)).f0)) ∧ w'.cell? ⟨(ad276.add (((ji16)).toNat * 2)).block, (ad276.add (((ji16)).toNat * 2)).off + 1, none⟩ = some (.slice A279_1 ((rd_T102 l0_1 (ji16)).f1).length c279_1)) (ds := []) (bq 35 0) (by kernel_rfl) rfl (by kernel_rfl) ⟨(blk_cell BK277.out 0).trans rfl, (blk_cell BK277.out 1).trans rfl, (blk_cell BK274.out 0).trans rfl, (blk_cell BK274.out 1).trans rfl, ((HB.out.cell (World.block_lt_of_cell? w _ hw279_0)).trans hw279_0), ((HB.out.cell (World.block_lt_of_cell? w _ hw279_1)).trans hw279_1)⟩ (fun hHeld => ?_); refine with_tabW impl_GoodWords.tab6 impl_GoodWords.bits6 (fun HT_ HW_ => ?_)
                generalize w31.drew = w32 at BK274 BK277 HB HR279_1 hx279_0 hx279_1 hHeld ⊢
                refine pure_ (i := 0) (N := some 23) (v := ?_) (a' := ?_) (bq 35 1) rfl rfl (any_of HT_.out (by kernel_rfl)) (fun _ _ _ h => h) (Or.inl ⟨by rfl, ?_⟩) ?_ ?_; rotate_left; (intro w'; go_simp; (with_reducible rfl)); rotate_left; (simp only [Act.put, zSA, zSB, zSC, i64_w, i32_w]; rfl)
                refine take_ (i := 1) (N := some 24) (v := ?_) (a' := ?_) (bq 35 3) rfl rfl (take_ofW HT_.out HW_.out (by kernel_rfl)) (fun _ _ _ h => h) (Or.inl ⟨by rfl, ?_⟩) hHeld ?_ ?_; rotate_left; (rintro w' ⟨s0, s1, s2, s3, s4, s5⟩; go_simp; (with_reducible rfl)); rotate_left; (simp only [Act.put, zSA, zSB, zSC, i64_w, i32_w]; rfl)
                refine one_ (i := 2) (N := some 25) (bq 35 7) rfl rfl (one_of HT_.out (by kernel_rfl)) (by decide) (fun K hK => ?_)
                refine goes_ Try.func89 (by kernel_rfl) rfl #[.string ((rd_T102 l0_1 x18_2).f0)] (by rfl) rfl rfl (by (try simp only [List.map_toArray, List.map_cons, List.map_nil]); first | done | rfl | (simp only [List.length_drop, List.length_take]; rfl)) ?_
                with_reducible refine (impl_isWord.calls k2 ((rd_T102 l0_1 x18_2).f0) true _ A13.out).mono ?_
                rintro e w' ⟨rfl, ⟨nd, rfl⟩⟩
                refine ⟨_, rfl, ?_⟩
                refine hK.out _ _ ⟨(blk_cell BK277.out 0).trans rfl, (blk_cell BK277.out 1).trans rfl, (blk_cell BK274.out 0).trans rfl, (blk_cell BK274.out 1).trans rfl, ((HB.out.cell (World.block_lt_of_cell? w _ hw279_0)).trans hw279_0), ((HB.out.cell (World.block_lt_of_cell? w _ hw279_1)).trans hw279_1)⟩ (fun hHeld => ?_)
                clear hK K
                refine norm_ (a' := ?_) ?_ ?_
                rotate_left
                ·
                 show Act.put _ (some 25) _ = _
                 simp only [Act.put, zSA, zSB, zSC, i64_w, i32_w]
                 rfl
                refine pure_ (i := 3) (N := some 26) (v := ?_) (a' := ?_) (bq 35 15) rfl rfl (any_of HT_.out (by kernel_rfl)) (fun _ _ _ h => h) (Or.inl ⟨by rfl, ?_⟩) ?_ ?_; rotate_left; (intro w'; go_simp; (with_reducible rfl)); rotate_left; (simp only [Act.put, zSA, zSB, zSC, i64_w, i32_w]; rfl)
                refine pure_ (i := 4) (N := some 27) (v := ?_) (a' := ?_) (bq 35 31) rfl rfl (any_of HT_.out (by kernel_rfl)) (fun _ _ _ h => h) (Or.inl ⟨by rfl, ?_⟩) ?_ ?_; rotate_left; (intro w'; go_simp; (with_reducible rfl)); rotate_left; (simp only [Act.put, zSA, zSB, zSC, i64_w, i32_w]; rfl)
                refine pure_ (i := 5) (N := some 28) (v := ?_) (a' := ?_) (bq 35 63) rfl rfl (any_of HT_.out (by kernel_rfl)) (fun _ _ _ h => h) (Or.inl ⟨by rfl, ?_⟩) ?_ ?_; rotate_left; (intro w'; go_simp; (with_reducible rfl)); rotate_left; (simp only [Act.put, zSA, zSB, zSC, i64_w, i32_w]; rfl)
                refine pure_ (i := 6) (N := some 29) (v := ?_) (a' := ?_) (bq 35 127) rfl rfl (any_of HT_.out (by kernel_rfl)) (fun _ _ _ h => h) (Or.inl ⟨by rfl, ?_⟩) ?_ ?_; rotate_left; (intro w'; go_simp; (with_reducible rfl)); rotate_left; (simp only [Act.put, zSA, zSB, zSC, i64_w, i32_w]; rfl)
                refine pure_ (i := 7) (N := some 30) (v := ?_) (a' := ?_) (bq 35 255) rfl rfl (any_of HT_.out (by kernel_rfl)) (fun _ _ _ h => h) (Or.inl ⟨by rfl, ?_⟩) ?_ ?_; rotate_left; (intro w'; go_simp; (with_reducible rfl)); rotate_left; (simp only [Act.put, zSA, zSB, zSC, i64_w, i32_w]; rfl)
                refine pure_ (i := 8) (N := some 31) (v := ?_) (a' := ?_) (bq 35 511) rfl rfl (any_of HT_.out (by kernel_rfl)) (fun _ _ _ h => h) (Or.inl ⟨by rfl, ?_⟩) ?_ ?_; rotate_left; (intro w'; go_simp; (with_reducible rfl)); rotate_left; (simp only [Act.put, zSA, zSB, zSC, i64_w, i32_w]; rfl)
                refine pure_ (i := 10) (N := some 33) (v := ?_) (a' := ?_) (bq 35 1535) rfl rfl (any_of HT_.out (by kernel_rfl)) (fun _ _ _ h => h) (Or.inl ⟨by rfl, ?_⟩) ?_ ?_; rotate_left; (intro w'; go_simp; (with_reducible rfl)); rotate_left; (simp only [Act.put, zSA, zSB, zSC, i64_w, i32_w]; rfl)
                refine pure_ (i := 11) (N := some 34) (v := ?_) (a' := ?_) (bq 35 3583) rfl rfl (any_of HT_.out (by kernel_rfl)) (fun _ _ _ h => h) (Or.inl ⟨by rfl, ?_⟩) ?_ ?_; rotate_left; (intro w'; go_simp; (with_reducible rfl)); rotate_left; (simp only [Act.put, zSA, zSB, zSC, i64_w, i32_w]; rfl)
                refine pure_ (i := 15) (N := some 38) (v := ?_) (a' := ?_) (bq 35 36351) rfl rfl (any_of HT_.out (by kernel_rfl)) (fun _ _ _ h => h) (Or.inl ⟨by rfl, ?_⟩) ?_ ?_; rotate_left; (intro w'; go_simp; (with_reducible rfl)); rotate_left; (simp only [Act.put, zSA, zSB, zSC, i64_w, i32_w]; rfl)
                refine take_ (i := 9) (N := some 32) (v := ?_) (a' := ?_) (bq 35 36863) rfl rfl (take_ofW HT_.out HW_.out (by kernel_rfl)) (fun _ _ _ h => h) (Or.inl ⟨by rfl, ?_⟩) hHeld ?_ ?_; rotate_left; (rintro w' ⟨s0, s1, s2, s3, s4, s5⟩; go_simp; (with_reducible rfl)); rotate_left; (simp only [Act.put, zSA, zSB, zSC, i64_w, i32_w]; rfl)
                refine pure_ (i := 12) (N := some 35) (v := ?_) (a' := ?_) (bq 35 40959) rfl rfl (any_of HT_.out (by kernel_rfl)) (fun _ _ _ h => h) (Or.inl ⟨by rfl, ?_⟩) ?_ ?_; rotate_left; (intro w'; go_simp; (with_reducible rfl)); rotate_left; (simp only [Act.put, zSA, zSB, zSC, i64_w, i32_w]; rfl)
                refine pure_ (i := 13) (N := some 36) (v := ?_) (a' := ?_) (bq 35 49151) rfl rfl (any_of HT_.out (by kernel_rfl)) (fun _ _ _ h => h) (Or.inl ⟨by rfl, ?_⟩) ?_ ?_; rotate_left; (intro w'; go_simp; (with_reducible rfl)); rotate_left; (simp only [Act.put, zSA, zSB, zSC, i64_w, i32_w]; rfl)
                refine take_ (i := 14) (N := some 37) (v := ?_) (a' := ?_) (bq 35 65535) rfl rfl (take_ofW HT_.out HW_.out (by kernel_rfl)) (fun _ _ _ h => h) (Or.inl ⟨by rfl, ?_⟩) hHeld ?_ ?_; rotate_left; (rintro w' ⟨s0, s1, s2, s3, s4, s5⟩; go_simp; (with_reducible rfl)); rotate_left; (simp only [Act.put, zSA, zSB, zSC, i64_w, i32_w]; rfl)
                refine take_ (i := 16) (N := some 39) (v := ?_) (a' := ?_) (bq 35 131071) rfl rfl (take_ofW HT_.out HW_.out (by kernel_rfl)) (fun _ _ _ h => h) (Or.inl ⟨by rfl, ?_⟩) hHeld ?_ ?_; rotate_left; (rintro w' ⟨s0, s1, s2, s3, s4, s5⟩; go_simp; (with_reducible rfl)); rotate_left; (simp only [Act.put, zSA, zSB, zSC, i64_w, i32_w]; rfl)
                refine pure_ (i := 17) (N := some 40) (v := ?_) (a' := ?_) (bq 35 262143) rfl rfl (any_of HT_.out (by kernel_rfl)) (fun _ _ _ h => h) (Or.inl ⟨by rfl, ?_⟩) ?_ ?_; rotate_left; (intro w'; go_simp; (with_reducible rfl)); rotate_left; (simp only [Act.put, zSA, zSB, zSC, i64_w, i32_w]; rfl)
                refine pure_ (i := 18) (N := some 41) (v := ?_) (a' := ?_) (bq 35 524287) rfl rfl (any_of HT_.out (by kernel_rfl)) (fun _ _ _ h => h) (Or.inl ⟨by rfl, ?_⟩) ?_ ?_; rotate_left; (intro w'; go_simp; (with_reducible rfl)); rotate_left; (simp only [Act.put, zSA, zSB, zSC, i64_w, i32_w]; rfl)
                refine pure_ (i := 19) (N := some 42) (v := ?_) (a' := ?_) (bq 35 1048575) rfl rfl (any_of HT_.out (by kernel_rfl)) (fun _ _ _ h => h) (Or.inl ⟨by rfl, ?_⟩) ?_ ?_; rotate_left; (intro w'; go_simp; (with_reducible rfl)); rotate_left; (simp only [Act.put, zSA, zSB, zSC, i64_w, i32_w]; rfl)
                refine pure_ (i := 20) (N := some 43) (v := ?_) (a' := ?_) (bq 35 2097151) rfl rfl (any_of HT_.out (by kernel_rfl)) (fun _ _ _ h => h) (Or.inl ⟨by rfl, ?_⟩) ?_ ?_; rotate_left; (intro w'; go_simp; (with_reducible rfl)); rotate_left; (simp only [Act.put, zSA, zSB, zSC, i64_w, i32_w]; rfl)
                refine pure_ (i := 21) (N := some 44) (v := ?_) (a' := ?_) (bq 35 4194303) rfl rfl (any_of HT_.out (by kernel_rfl)) (fun _ _ _ h => h) (Or.inl ⟨by rfl, ?_⟩) ?_ ?_; rotate_left; (intro w'; go_simp; (with_reducible rfl)); rotate_left; (simp only [Act.put, zSA, zSB, zSC, i64_w, i32_w]; rfl)
                refine take_ (i := 22) (N := some 45) (v := ?_) (a' := ?_) (bq 35 8388607) rfl rfl (take_ofW HT_.out HW_.out (by kernel_rfl)) (fun _ _ _ h => h) (Or.inl ⟨by rfl, ?_⟩) hHeld ?_ ?_; rotate_left; (rintro w' ⟨s0, s1, s2, s3, s4, s5⟩; go_simp; (with_reducible rfl)); rotate_left; (simp only [Act.put, zSA, zSB, zSC, i64_w, i32_w]; rfl)
                refine pure_ (i := 23) (N := some 46) (v := ?_) (a' := ?_) (bq 35 16777215) rfl rfl (any_of HT_.out (by kernel_rfl)) (fun _ _ _ h => h) (Or.inl ⟨by rfl, ?_⟩) ?_ ?_; rotate_left; (intro w'; go_simp; (with_reducible rfl)); rotate_left; (simp only [Act.put, zSA, zSB, zSC, i64_w, i32_w]; rfl)
                refine pure_ (i := 24) (N := some 47) (v := ?_) (a' := ?_) (bq 35 33554431) rfl rfl (any_of HT_.out (by kernel_rfl)) (fun _ _ _ h => h) (Or.inl ⟨by rfl, ?_⟩) ?_ ?_; rotate_left; (intro w'; go_simp; (with_reducible rfl)); rotate_left; (simp only [Act.put, zSA, zSB, zSC, i64_w, i32_w]; rfl)
                refine pure_ (i := 25) (N := some 48) (v := ?_) (a' := ?_) (bq 35 67108863) rfl rfl (any_of HT_.out (by kernel_rfl)) (fun _ _ _ h => h) (Or.inl ⟨by rfl, ?_⟩) ?_ ?_; rotate_left; (intro w'; go_simp; (with_reducible rfl)); rotate_left; (simp only [Act.put, zSA, zSB, zSC, i64_w, i32_w]; rfl)
                refine pure_ (i := 26) (N := some 49) (v := ?_) (a' := ?_) (bq 35 134217727) rfl rfl (any_of HT_.out (by kernel_rfl)) (fun _ _ _ h => h) (Or.inl ⟨by rfl, ?_⟩) ?_ ?_; rotate_left; (intro w'; go_simp; (with_reducible rfl)); rotate_left; (simp only [Act.put, zSA, zSB, zSC, i64_w, i32_w]; rfl)
                refine pure_ (i := 27) (N := some 50) (v := ?_) (a' := ?_) (bq 35 268435455) rfl rfl (any_of HT_.out (by kernel_rfl)) (fun _ _ _ h => h) (Or.inl ⟨by rfl, ?_⟩) ?_ ?_; rotate_left; (intro w'; go_simp; (with_reducible rfl)); rotate_left; (simp only [Act.put, zSA, zSB, zSC, i64_w, i32_w]; rfl)
                refine pure_ (i := 29) (N := some 52) (v := ?_) (a' := ?_) (bq 35 805306367) rfl rfl (any_of HT_.out (by kernel_rfl)) (fun _ _ _ h => h) (Or.inl ⟨by rfl, ?_⟩) ?_ ?_; rotate_left; (intro w'; go_simp; (with_reducible rfl)); rotate_left; (simp only [Act.put, zSA, zSB, zSC, i64_w, i32_w]; rfl)
                refine take_ (i := 28) (N := some 51) (v := ?_) (a' := ?_) (bq 35 1073741823) rfl rfl (take_ofW HT_.out HW_.out (by kernel_rfl)) (fun _ _ _ h => h) (Or.inl ⟨by rfl, ?_⟩) hHeld ?_ ?_; rotate_left; (rintro w' ⟨s0, s1, s2, s3, s4, s5⟩; go_simp; (with_reducible rfl)); rotate_left; (simp only [Act.put, zSA, zSB, zSC, i64_w, i32_w]; rfl)
                refine take_ (i := 30) (N := some 53) (v := ?_) (a' := ?_) (bq 35 2147483647) rfl rfl (take_ofW HT_.out HW_.out (by kernel_rfl)) (fun _ _ _ h => h) (Or.inl ⟨by rfl, ?_⟩) hHeld ?_ ?_; rotate_left; (rintro w' ⟨s0, s1, s2, s3, s4, s5⟩; go_simp; (with_reducible rfl)); rotate_left; (simp only [Act.put, zSA, zSB, zSC, i64_w, i32_w]; rfl)
                refine pure_ (i := 31) (N := some 54) (v := ?_) (a' := ?_) (bq 35 4294967295) rfl rfl (any_of HT_.out (by kernel_rfl)) (fun _ _ _ h => h) (Or.inl ⟨by rfl, ?_⟩) ?_ ?_; rotate_left; (intro w'; go_simp; (with_reducible rfl)); rotate_left; (simp only [Act.put, zSA, zSB, zSC, i64_w, i32_w]; rfl)
                refine one_ (i := 32) (N := some 55) (bq 35 8589934591) rfl rfl (one_of HT_.out (by kernel_rfl)) (by decide) (fun K hK => ?_)
                refine goes_ Try.func90 (by kernel_rfl) rfl #[.slice A276_1 ((rd_T102 l0_1 x18_2).f1).length c276_1, .int .i64 (wrap64 (a0_0 - 1))] (by rfl) rfl rfl (by (try simp only [List.map_toArray, List.map_cons, List.map_nil]); first | done | rfl | (simp only [List.length_drop, List.length_take]; rfl)) ?_
                with_reducible refine (impl_postingsOK.calls k2 _ _ ((rd_T102 l0_1 x18_2).f1) (wrap64 (a0_0 - 1)) true _ ?side1 ?side2 A26.out).mono ?_
                (case side1 => repeat (first | exact (Kd.C_below HR276_1.out (gB HB.out)) | (with_reducible refine Kd.C_alloc ?_ _) | (with_reducible refine Kd.C_drewN ?_ _) | (with_reducible refine Kd.C_drew ?_)))
                (case side2 => exact HC276_1.out)
                rintro e w33 ⟨rfl, hb⟩
                refine ⟨_, rfl, ?_⟩
                have n0_ := aM (blk_below (g := gb274) (o := .cells #[.int .i64 a0_0, .slice (some ad276) l0_1.length c0_1] 33 (0, 0)) (gK BK274.out) hb)
                have n1_ := aM (blk_below (g := gb277) (o := .cells #[.string ((rd_T102 l0_1 x18_2).f0), .slice A276_1 ((rd_T102 l0_1 x18_2).f1).length c276_1] 102 (0, 0)) (gK BK277.out) hb)
                have n2_ := aM (below_step (gB HB.out) hb)
                clear BK274
                clear BK277
                clear HB
                have BK274 := n0_
                have BK277 := n1_
                have HB := n2_
                clear n0_ n1_ n2_
                (try clear hb)
                (try clear hb2)
                (try clear hk)
                (try clear hi)
                refine hK.out _ _ ⟨(blk_cell BK277.out 0).trans rfl, (blk_cell BK277.out 1).trans rfl, (blk_cell BK274.out 0).trans rfl, (blk_cell BK274.out 1).trans rfl, ((HB.out.cell (World.block_lt_of_cell? w _ hw279_0)).trans hw279_0), ((HB.out.cell (World.block_lt_of_cell? w _ hw279_1)).trans hw279_1)⟩ (fun hHeld => ?_)
                clear hK K
                refine norm_ (a' := ?_) ?_ ?_
                rotate_left
                ·
                 show Act.put _ (some 55) _ = _
                 simp only [Act.put, zSA, zSB, zSC, i64_w, i32_w]
                 rfl
                refine pure_ (i := 33) (N := some 56) (v := ?_) (a' := ?_) (bq 35 17179869183) rfl rfl (any_of HT_.out (by kernel_rfl)) (fun _ _ _ h => h) (Or.inl ⟨by rfl, ?_⟩) ?_ ?_; rotate_left; (intro w'; go_simp; (with_reducible rfl)); rotate_left; (simp only [Act.put, zSA, zSB, zSC, i64_w, i32_w]; rfl)
                refine pure_ (i := 34) (N := some 57) (v := ?_) (a' := ?_) (bq 35 34359738367) rfl rfl (any_of HT_.out (by kernel_rfl)) (fun _ _ _ h => h) (Or.inl ⟨by rfl, ?_⟩) ?_ ?_; rotate_left; (intro w'; go_simp; (with_reducible rfl)); rotate_left; (simp only [Act.put, zSA, zSB, zSC, i64_w, i32_w]; rfl)
                refine done_ (done_of HT_.out (by kernel_rfl)) ?_
                try go_wp2
                go_roundg k2
                case measure => have := HJ1.out; have := HK2.out; omega
                case rel => exact ⟨(wrap64 (x18_2 + 1)), (by first | rfl | (simp; done) | (simp [*]; done)), H', ⟨by have := HJ1.out; have := HK2.out; omega⟩, ⟨gK BK274.out⟩, ⟨by repeat (first | (with_reducible first | exact HB.out | apply below_alloc | apply pw_below_drewN | apply below_drew1 | refine below_set ?_ GE274.out | refine below_set ?_ GE277.out) | exact HB.out)⟩⟩
               ·
                replace c27 := Bool.eq_false_iff.mpr c27
                subst c27
                have H1 : (some false) = some r := by rw [if_neg (show ¬ (false = true) by decide)] at H; exact H
                clear H
                have H := H1
                clear H1
                obtain rfl := Option.some.inj H
                have p276 : 0 ≤ (x18_2 : Int) := of_decide_eq_true (by first | (with_reducible assumption) | assumption)
                have q276 : x18_2 < (l0_1.length : Int) := of_decide_eq_true (by first | (with_reducible assumption) | assumption)
                obtain ⟨ad276, A276_1, c276_1, e276, hx276_0, hx276_1, hl276_1, hi276_1⟩ := at_T102 HR0_1.out x18_2 p276 q276
                cases e276
                try have hz_hx276_0 := aM hx276_0
                try have hz_hx276_1 := aM hx276_1
                replace hx276_0 := (HB.out.cell (World.block_lt_of_cell? w _ hx276_0)).trans hx276_0
                replace hx276_1 := (HB.out.cell (World.block_lt_of_cell? w _ hx276_1)).trans hx276_1
                have HR276_1 := aM hi276_1
                have HC276_1 := aM hl276_1
                clear hi276_1 hl276_1
                replace p276 := eq_true p276
                replace q276 := eq_true q276
                try go_wp2_with (((with_reducible refine gate_dst (N := 4) rfl ?_); (try (refine gate_guard (by rfl) ?_; dsimp only)); refine box_event ?hg (N := 4) ?hd (cs := #[.string (⟨#[]⟩ : ByteArray), .slice none 0 0]) (t := 102) ?hr ?_; (case hd => rfl); (case hg => rfl); (case hr => first | (go_simp; done) | (go_simp; rfl)); intro gb277 hg w34 hbox hb; have n0_ := aM (blk_below (g := gb274) (o := .cells #[.int .i64 a0_0, .slice (some ad276) l0_1.length c0_1] 33 (0, 0)) (gK BK274.out) hb); have n1_ := aM (below_step (gB HB.out) hb); have n2_ := aM (hbox); have n3_ := aM ((by rw [hg]; exact (below_size (gB HB.out)) : w.heap.size ≤ gb277)); have n4_ := aM ((by rw [hg]; exact (below_size (gB HB.out)) : w.heap.size ≤ gb277)); have n5_ := aM ((by rw [hg]; exact Nat.ne_of_lt (blk_lt (g := gb274) (o := .cells #[.int .i64 a0_0, .slice (some ad276) l0_1.length c0_1] 33 (0, 0)) (gK BK274.out)) : gb274 ≠ gb277)); have n6_ := aM ((by rw [hg]; exact Nat.ne_of_gt (blk_lt (g := gb274) (o := .cells #[.int .i64 a0_0, .slice (some ad276) l0_1.length c0_1] 33 (0, 0)) (gK BK274.out)) : gb277 ≠ gb274)); clear BK274; clear HB; have BK274 := n0_; have HB := n1_; have BK277 := n2_; have GW277 := n3_; have GE277 := n4_; have NB274_277 := n5_; have NB277_274 := n6_; clear n0_ n1_ n2_ n3_ n4_ n5_ n6_; clear hb hbox hg; have hnb35 := NB277_274.out; have hnc35 := NB274_277.out; have hcz36_0 : w34.cell? ⟨gb277, 0, none⟩ = some (.string (⟨#[]⟩ : ByteArray)) := (blk_cell BK277.out 0).trans rfl; have hcz36_1 : w34.cell? ⟨gb277, 1, none⟩ = some (.slice none 0 0) := (blk_cell BK277.out 1).trans rfl; have hfz36_0 := blk_frozen BK277.out 0; have hfz36_1 := blk_frozen BK277.out 1))
                have n0_ : Aside0 (((w34.setCell ⟨gb277, 0, none⟩ (.string ((rd_T102 l0_1 x18_2).f0))).setCell ⟨gb277, 1, none⟩ (.slice A276_1 ((rd_T102 l0_1 x18_2).f1).length c276_1)).heap[gb274]? = some (.cells #[.int .i64 a0_0, .slice (some ad276) l0_1.length c0_1] 33 (0, 0))) := ⟨by (with_reducible repeat (first | refine blk_drewN ?_ _ | refine blk_drew ?_ | refine blk_alloc ?_ _)); refine blk_far ?_ NB274_277.out _; (with_reducible repeat (first | refine blk_drewN ?_ _ | refine blk_drew ?_ | refine blk_alloc ?_ _)); refine blk_far ?_ NB274_277.out _; (with_reducible repeat (first | refine blk_drewN ?_ _ | refine blk_drew ?_ | refine blk_alloc ?_ _)); exact BK274.out⟩
                have n1_ : Aside0 (((w34.setCell ⟨gb277, 0, none⟩ (.string ((rd_T102 l0_1 x18_2).f0))).setCell ⟨gb277, 1, none⟩ (.slice A276_1 ((rd_T102 l0_1 x18_2).f1).length c276_1)).heap[gb277]? = some (.cells #[.string ((rd_T102 l0_1 x18_2).f0), .slice A276_1 ((rd_T102 l0_1 x18_2).f1).length c276_1] 102 (0, 0))) := ⟨by (with_reducible repeat (first | refine blk_drewN ?_ _ | refine blk_drew ?_ | refine blk_alloc ?_ _)); refine blk_put (cs := #[.string ((rd_T102 l0_1 x18_2).f0), .slice none 0 0]) ?_ 1 _ rfl; (with_reducible repeat (first | refine blk_drewN ?_ _ | refine blk_drew ?_ | refine blk_alloc ?_ _)); refine blk_put (cs := #[.string (⟨#[]⟩ : ByteArray), .slice none 0 0]) ?_ 0 _ rfl; (with_reducible repeat (first | refine blk_drewN ?_ _ | refine blk_drew ?_ | refine blk_alloc ?_ _)); exact BK277.out⟩
                have n2_ : Aside0 (Below w.heap.size w ((w34.setCell ⟨gb277, 0, none⟩ (.string ((rd_T102 l0_1 x18_2).f0))).setCell ⟨gb277, 1, none⟩ (.slice A276_1 ((rd_T102 l0_1 x18_2).f1).length c276_1))) := ⟨by repeat (first | (with_reducible first | exact HB.out | apply below_alloc | apply pw_below_drewN | apply below_drew1 | refine below_set ?_ GE274.out | refine below_set ?_ GE277.out) | exact HB.out)⟩
                (try clear BK274)
                (try clear BK277)
                (try clear HB)
                generalize ((w34.setCell ⟨gb277, 0, none⟩ (.string ((rd_T102 l0_1 x18_2).f0))).setCell ⟨gb277, 1, none⟩ (.slice A276_1 ((rd_T102 l0_1 x18_2).f1).length c276_1)) = w37 at n0_ n1_ n2_ ⊢
                have BK274 := n0_
                have BK277 := n1_
                have HB := n2_
                clear n0_ n1_ n2_
                have n0_ := aM (blk_drew BK274.out)
                have n1_ := aM (blk_drew BK277.out)
                have n2_ := aM (below_drew1 HB.out)
                clear BK274
                clear BK277
                clear HB
                have BK274 := n0_
                have BK277 := n1_
                have HB := n2_
                clear n0_ n1_ n2_
                have p279 : 0 ≤ ((ji16) : Int) := of_decide_eq_true (by first | (with_reducible assumption) | assumption)
                have q279 : (ji16) < (l0_1.length : Int) := of_decide_eq_true (by first | (with_reducible assumption) | assumption)
                obtain ⟨ad279, A279_1, c279_1, e279, hx279_0, hx279_1, hl279_1, hi279_1⟩ := at_T102 HR0_1.out (ji16) p279 q279
                have hw279_1 := hx279_1
                have hw279_0 := hx279_0
                obtain rfl : ad276 = ad279 := (by injection e279)
                try have hz_hx279_0 := aM hx279_0
                try have hz_hx279_1 := aM hx279_1
                replace hx279_0 := (HB.out.cell (World.block_lt_of_cell? w _ hx279_0)).trans hx279_0
                replace hx279_1 := (HB.out.cell (World.block_lt_of_cell? w _ hx279_1)).trans hx279_1
                have HR279_1 := aM hi279_1
                have HC279_1 := aM hl279_1
                clear hi279_1 hl279_1
                replace p279 := eq_true p279
                replace q279 := eq_true q279
                refine start_ (n := 35) (S := fun w' => w'.cell? ⟨gb277, 0, none⟩ = some (.string ((rd_T102 l0_1 x18_2).f0)) ∧ w'.cell? ⟨gb277, 1, none⟩ = some (.slice A276_1 ((rd_T102 l0_1 x18_2).f1).length c276_1) ∧ w'.cell? ⟨gb274, 0, none⟩ = some (.int .i64 a0_0) ∧ w'.cell? ⟨gb274, 1, none⟩ = some (.slice (some ad276) l0_1.length c0_1) ∧ w'.cell? (ad276.add (((ji16)).toNat * 2)) = some (.string ((rd_T102 l0_1 (ji16)).f0)) ∧ w'.cell? ⟨(ad276.add (((ji16)).toNat * 2)).block, (ad276.add (((ji16)).toNat * 2)).off + 1, none⟩ = some (.slice A279_1 ((rd_T102 l0_1 (ji16)).f1).length c279_1)) (ds := []) (bq 35 0) (by kernel_rfl) rfl (by kernel_rfl) ⟨(blk_cell BK277.out 0).trans rfl, (blk_cell BK277.out 1).trans rfl, (blk_cell BK274.out 0).trans rfl, (blk_cell BK274.out 1).trans rfl, ((HB.out.cell (World.block_lt_of_cell? w _ hw279_0)).trans hw279_0), ((HB.out.cell (World.block_lt_of_cell? w _ hw279_1)).trans hw279_1)⟩ (fun hHeld => ?_); refine with_tabW impl_GoodWords.tab6 impl_GoodWords.bits6 (fun HT_ HW_ => ?_)
                generalize w37.drew = w38 at BK274 BK277 HB HR279_1 hx279_0 hx279_1 hHeld ⊢
                refine pure_ (i := 0) (N := some 23) (v := ?_) (a' := ?_) (bq 35 1) rfl rfl (any_of HT_.out (by kernel_rfl)) (fun _ _ _ h => h) (Or.inl ⟨by rfl, ?_⟩) ?_ ?_; rotate_left; (intro w'; go_simp; (with_reducible rfl)); rotate_left; (simp only [Act.put, zSA, zSB, zSC, i64_w, i32_w]; rfl)
                refine take_ (i := 1) (N := some 24) (v := ?_) (a' := ?_) (bq 35 3) rfl rfl (take_ofW HT_.out HW_.out (by kernel_rfl)) (fun _ _ _ h => h) (Or.inl ⟨by rfl, ?_⟩) hHeld ?_ ?_; rotate_left; (rintro w' ⟨s0, s1, s2, s3, s4, s5⟩; go_simp; (with_reducible rfl)); rotate_left; (simp only [Act.put, zSA, zSB, zSC, i64_w, i32_w]; rfl)
                refine one_ (i := 2) (N := some 25) (bq 35 7) rfl rfl (one_of HT_.out (by kernel_rfl)) (by decide) (fun K hK => ?_)
                refine goes_ Try.func89 (by kernel_rfl) rfl #[.string ((rd_T102 l0_1 x18_2).f0)] (by rfl) rfl rfl (by (try simp only [List.map_toArray, List.map_cons, List.map_nil]); first | done | rfl | (simp only [List.length_drop, List.length_take]; rfl)) ?_
                with_reducible refine (impl_isWord.calls k2 ((rd_T102 l0_1 x18_2).f0) true _ A13.out).mono ?_
                rintro e w' ⟨rfl, ⟨nd, rfl⟩⟩
                refine ⟨_, rfl, ?_⟩
                refine hK.out _ _ ⟨(blk_cell BK277.out 0).trans rfl, (blk_cell BK277.out 1).trans rfl, (blk_cell BK274.out 0).trans rfl, (blk_cell BK274.out 1).trans rfl, ((HB.out.cell (World.block_lt_of_cell? w _ hw279_0)).trans hw279_0), ((HB.out.cell (World.block_lt_of_cell? w _ hw279_1)).trans hw279_1)⟩ (fun hHeld => ?_)
                clear hK K
                refine norm_ (a' := ?_) ?_ ?_
                rotate_left
                ·
                 show Act.put _ (some 25) _ = _
                 simp only [Act.put, zSA, zSB, zSC, i64_w, i32_w]
                 rfl
                refine pure_ (i := 3) (N := some 26) (v := ?_) (a' := ?_) (bq 35 15) rfl rfl (any_of HT_.out (by kernel_rfl)) (fun _ _ _ h => h) (Or.inl ⟨by rfl, ?_⟩) ?_ ?_; rotate_left; (intro w'; go_simp; (with_reducible rfl)); rotate_left; (simp only [Act.put, zSA, zSB, zSC, i64_w, i32_w]; rfl)
                refine pure_ (i := 4) (N := some 27) (v := ?_) (a' := ?_) (bq 35 31) rfl rfl (any_of HT_.out (by kernel_rfl)) (fun _ _ _ h => h) (Or.inl ⟨by rfl, ?_⟩) ?_ ?_; rotate_left; (intro w'; go_simp; (with_reducible rfl)); rotate_left; (simp only [Act.put, zSA, zSB, zSC, i64_w, i32_w]; rfl)
                refine pure_ (i := 5) (N := some 28) (v := ?_) (a' := ?_) (bq 35 63) rfl rfl (any_of HT_.out (by kernel_rfl)) (fun _ _ _ h => h) (Or.inl ⟨by rfl, ?_⟩) ?_ ?_; rotate_left; (intro w'; go_simp; (with_reducible rfl)); rotate_left; (simp only [Act.put, zSA, zSB, zSC, i64_w, i32_w]; rfl)
                refine pure_ (i := 6) (N := some 29) (v := ?_) (a' := ?_) (bq 35 127) rfl rfl (any_of HT_.out (by kernel_rfl)) (fun _ _ _ h => h) (Or.inl ⟨by rfl, ?_⟩) ?_ ?_; rotate_left; (intro w'; go_simp; (with_reducible rfl)); rotate_left; (simp only [Act.put, zSA, zSB, zSC, i64_w, i32_w]; rfl)
                refine pure_ (i := 7) (N := some 30) (v := ?_) (a' := ?_) (bq 35 255) rfl rfl (any_of HT_.out (by kernel_rfl)) (fun _ _ _ h => h) (Or.inl ⟨by rfl, ?_⟩) ?_ ?_; rotate_left; (intro w'; go_simp; (with_reducible rfl)); rotate_left; (simp only [Act.put, zSA, zSB, zSC, i64_w, i32_w]; rfl)
                refine pure_ (i := 8) (N := some 31) (v := ?_) (a' := ?_) (bq 35 511) rfl rfl (any_of HT_.out (by kernel_rfl)) (fun _ _ _ h => h) (Or.inl ⟨by rfl, ?_⟩) ?_ ?_; rotate_left; (intro w'; go_simp; (with_reducible rfl)); rotate_left; (simp only [Act.put, zSA, zSB, zSC, i64_w, i32_w]; rfl)
                refine pure_ (i := 10) (N := some 33) (v := ?_) (a' := ?_) (bq 35 1535) rfl rfl (any_of HT_.out (by kernel_rfl)) (fun _ _ _ h => h) (Or.inl ⟨by rfl, ?_⟩) ?_ ?_; rotate_left; (intro w'; go_simp; (with_reducible rfl)); rotate_left; (simp only [Act.put, zSA, zSB, zSC, i64_w, i32_w]; rfl)
                refine pure_ (i := 11) (N := some 34) (v := ?_) (a' := ?_) (bq 35 3583) rfl rfl (any_of HT_.out (by kernel_rfl)) (fun _ _ _ h => h) (Or.inl ⟨by rfl, ?_⟩) ?_ ?_; rotate_left; (intro w'; go_simp; (with_reducible rfl)); rotate_left; (simp only [Act.put, zSA, zSB, zSC, i64_w, i32_w]; rfl)
                refine pure_ (i := 15) (N := some 38) (v := ?_) (a' := ?_) (bq 35 36351) rfl rfl (any_of HT_.out (by kernel_rfl)) (fun _ _ _ h => h) (Or.inl ⟨by rfl, ?_⟩) ?_ ?_; rotate_left; (intro w'; go_simp; (with_reducible rfl)); rotate_left; (simp only [Act.put, zSA, zSB, zSC, i64_w, i32_w]; rfl)
                refine take_ (i := 9) (N := some 32) (v := ?_) (a' := ?_) (bq 35 36863) rfl rfl (take_ofW HT_.out HW_.out (by kernel_rfl)) (fun _ _ _ h => h) (Or.inl ⟨by rfl, ?_⟩) hHeld ?_ ?_; rotate_left; (rintro w' ⟨s0, s1, s2, s3, s4, s5⟩; go_simp; (with_reducible rfl)); rotate_left; (simp only [Act.put, zSA, zSB, zSC, i64_w, i32_w]; rfl)
                refine pure_ (i := 12) (N := some 35) (v := ?_) (a' := ?_) (bq 35 40959) rfl rfl (any_of HT_.out (by kernel_rfl)) (fun _ _ _ h => h) (Or.inl ⟨by rfl, ?_⟩) ?_ ?_; rotate_left; (intro w'; go_simp; (with_reducible rfl)); rotate_left; (simp only [Act.put, zSA, zSB, zSC, i64_w, i32_w]; rfl)
                refine pure_ (i := 13) (N := some 36) (v := ?_) (a' := ?_) (bq 35 49151) rfl rfl (any_of HT_.out (by kernel_rfl)) (fun _ _ _ h => h) (Or.inl ⟨by rfl, ?_⟩) ?_ ?_; rotate_left; (intro w'; go_simp; (with_reducible rfl)); rotate_left; (simp only [Act.put, zSA, zSB, zSC, i64_w, i32_w]; rfl)
                refine take_ (i := 14) (N := some 37) (v := ?_) (a' := ?_) (bq 35 65535) rfl rfl (take_ofW HT_.out HW_.out (by kernel_rfl)) (fun _ _ _ h => h) (Or.inl ⟨by rfl, ?_⟩) hHeld ?_ ?_; rotate_left; (rintro w' ⟨s0, s1, s2, s3, s4, s5⟩; go_simp; (with_reducible rfl)); rotate_left; (simp only [Act.put, zSA, zSB, zSC, i64_w, i32_w]; rfl)
                refine take_ (i := 16) (N := some 39) (v := ?_) (a' := ?_) (bq 35 131071) rfl rfl (take_ofW HT_.out HW_.out (by kernel_rfl)) (fun _ _ _ h => h) (Or.inl ⟨by rfl, ?_⟩) hHeld ?_ ?_; rotate_left; (rintro w' ⟨s0, s1, s2, s3, s4, s5⟩; go_simp; (with_reducible rfl)); rotate_left; (simp only [Act.put, zSA, zSB, zSC, i64_w, i32_w]; rfl)
                refine pure_ (i := 17) (N := some 40) (v := ?_) (a' := ?_) (bq 35 262143) rfl rfl (any_of HT_.out (by kernel_rfl)) (fun _ _ _ h => h) (Or.inl ⟨by rfl, ?_⟩) ?_ ?_; rotate_left; (intro w'; go_simp; (with_reducible rfl)); rotate_left; (simp only [Act.put, zSA, zSB, zSC, i64_w, i32_w]; rfl)
                refine pure_ (i := 18) (N := some 41) (v := ?_) (a' := ?_) (bq 35 524287) rfl rfl (any_of HT_.out (by kernel_rfl)) (fun _ _ _ h => h) (Or.inl ⟨by rfl, ?_⟩) ?_ ?_; rotate_left; (intro w'; go_simp; (with_reducible rfl)); rotate_left; (simp only [Act.put, zSA, zSB, zSC, i64_w, i32_w]; rfl)
                refine pure_ (i := 19) (N := some 42) (v := ?_) (a' := ?_) (bq 35 1048575) rfl rfl (any_of HT_.out (by kernel_rfl)) (fun _ _ _ h => h) (Or.inl ⟨by rfl, ?_⟩) ?_ ?_; rotate_left; (intro w'; go_simp; (with_reducible rfl)); rotate_left; (simp only [Act.put, zSA, zSB, zSC, i64_w, i32_w]; rfl)
                refine pure_ (i := 20) (N := some 43) (v := ?_) (a' := ?_) (bq 35 2097151) rfl rfl (any_of HT_.out (by kernel_rfl)) (fun _ _ _ h => h) (Or.inl ⟨by rfl, ?_⟩) ?_ ?_; rotate_left; (intro w'; go_simp; (with_reducible rfl)); rotate_left; (simp only [Act.put, zSA, zSB, zSC, i64_w, i32_w]; rfl)
                refine pure_ (i := 21) (N := some 44) (v := ?_) (a' := ?_) (bq 35 4194303) rfl rfl (any_of HT_.out (by kernel_rfl)) (fun _ _ _ h => h) (Or.inl ⟨by rfl, ?_⟩) ?_ ?_; rotate_left; (intro w'; go_simp; (with_reducible rfl)); rotate_left; (simp only [Act.put, zSA, zSB, zSC, i64_w, i32_w]; rfl)
                refine take_ (i := 22) (N := some 45) (v := ?_) (a' := ?_) (bq 35 8388607) rfl rfl (take_ofW HT_.out HW_.out (by kernel_rfl)) (fun _ _ _ h => h) (Or.inl ⟨by rfl, ?_⟩) hHeld ?_ ?_; rotate_left; (rintro w' ⟨s0, s1, s2, s3, s4, s5⟩; go_simp; (with_reducible rfl)); rotate_left; (simp only [Act.put, zSA, zSB, zSC, i64_w, i32_w]; rfl)
                refine pure_ (i := 23) (N := some 46) (v := ?_) (a' := ?_) (bq 35 16777215) rfl rfl (any_of HT_.out (by kernel_rfl)) (fun _ _ _ h => h) (Or.inl ⟨by rfl, ?_⟩) ?_ ?_; rotate_left; (intro w'; go_simp; (with_reducible rfl)); rotate_left; (simp only [Act.put, zSA, zSB, zSC, i64_w, i32_w]; rfl)
                refine pure_ (i := 24) (N := some 47) (v := ?_) (a' := ?_) (bq 35 33554431) rfl rfl (any_of HT_.out (by kernel_rfl)) (fun _ _ _ h => h) (Or.inl ⟨by rfl, ?_⟩) ?_ ?_; rotate_left; (intro w'; go_simp; (with_reducible rfl)); rotate_left; (simp only [Act.put, zSA, zSB, zSC, i64_w, i32_w]; rfl)
                refine pure_ (i := 25) (N := some 48) (v := ?_) (a' := ?_) (bq 35 67108863) rfl rfl (any_of HT_.out (by kernel_rfl)) (fun _ _ _ h => h) (Or.inl ⟨by rfl, ?_⟩) ?_ ?_; rotate_left; (intro w'; go_simp; (with_reducible rfl)); rotate_left; (simp only [Act.put, zSA, zSB, zSC, i64_w, i32_w]; rfl)
                refine pure_ (i := 26) (N := some 49) (v := ?_) (a' := ?_) (bq 35 134217727) rfl rfl (any_of HT_.out (by kernel_rfl)) (fun _ _ _ h => h) (Or.inl ⟨by rfl, ?_⟩) ?_ ?_; rotate_left; (intro w'; go_simp; (with_reducible rfl)); rotate_left; (simp only [Act.put, zSA, zSB, zSC, i64_w, i32_w]; rfl)
                refine pure_ (i := 27) (N := some 50) (v := ?_) (a' := ?_) (bq 35 268435455) rfl rfl (any_of HT_.out (by kernel_rfl)) (fun _ _ _ h => h) (Or.inl ⟨by rfl, ?_⟩) ?_ ?_; rotate_left; (intro w'; go_simp; (with_reducible rfl)); rotate_left; (simp only [Act.put, zSA, zSB, zSC, i64_w, i32_w]; rfl)
                refine pure_ (i := 29) (N := some 52) (v := ?_) (a' := ?_) (bq 35 805306367) rfl rfl (any_of HT_.out (by kernel_rfl)) (fun _ _ _ h => h) (Or.inl ⟨by rfl, ?_⟩) ?_ ?_; rotate_left; (intro w'; go_simp; (with_reducible rfl)); rotate_left; (simp only [Act.put, zSA, zSB, zSC, i64_w, i32_w]; rfl)
                refine take_ (i := 28) (N := some 51) (v := ?_) (a' := ?_) (bq 35 1073741823) rfl rfl (take_ofW HT_.out HW_.out (by kernel_rfl)) (fun _ _ _ h => h) (Or.inl ⟨by rfl, ?_⟩) hHeld ?_ ?_; rotate_left; (rintro w' ⟨s0, s1, s2, s3, s4, s5⟩; go_simp; (with_reducible rfl)); rotate_left; (simp only [Act.put, zSA, zSB, zSC, i64_w, i32_w]; rfl)
                refine take_ (i := 30) (N := some 53) (v := ?_) (a' := ?_) (bq 35 2147483647) rfl rfl (take_ofW HT_.out HW_.out (by kernel_rfl)) (fun _ _ _ h => h) (Or.inl ⟨by rfl, ?_⟩) hHeld ?_ ?_; rotate_left; (rintro w' ⟨s0, s1, s2, s3, s4, s5⟩; go_simp; (with_reducible rfl)); rotate_left; (simp only [Act.put, zSA, zSB, zSC, i64_w, i32_w]; rfl)
                refine pure_ (i := 31) (N := some 54) (v := ?_) (a' := ?_) (bq 35 4294967295) rfl rfl (any_of HT_.out (by kernel_rfl)) (fun _ _ _ h => h) (Or.inl ⟨by rfl, ?_⟩) ?_ ?_; rotate_left; (intro w'; go_simp; (with_reducible rfl)); rotate_left; (simp only [Act.put, zSA, zSB, zSC, i64_w, i32_w]; rfl)
                refine one_ (i := 32) (N := some 55) (bq 35 8589934591) rfl rfl (one_of HT_.out (by kernel_rfl)) (by decide) (fun K hK => ?_)
                refine goes_ Try.func90 (by kernel_rfl) rfl #[.slice A276_1 ((rd_T102 l0_1 x18_2).f1).length c276_1, .int .i64 (wrap64 (a0_0 - 1))] (by rfl) rfl rfl (by (try simp only [List.map_toArray, List.map_cons, List.map_nil]); first | done | rfl | (simp only [List.length_drop, List.length_take]; rfl)) ?_
                with_reducible refine (impl_postingsOK.calls k2 _ _ ((rd_T102 l0_1 x18_2).f1) (wrap64 (a0_0 - 1)) false _ ?side1 ?side2 A26.out).mono ?_
                (case side1 => repeat (first | exact (Kd.C_below HR276_1.out (gB HB.out)) | (with_reducible refine Kd.C_alloc ?_ _) | (with_reducible refine Kd.C_drewN ?_ _) | (with_reducible refine Kd.C_drew ?_)))
                (case side2 => exact HC276_1.out)
                rintro e w39 ⟨rfl, hb⟩
                refine ⟨_, rfl, ?_⟩
                have n0_ := aM (blk_below (g := gb274) (o := .cells #[.int .i64 a0_0, .slice (some ad276) l0_1.length c0_1] 33 (0, 0)) (gK BK274.out) hb)
                have n1_ := aM (blk_below (g := gb277) (o := .cells #[.string ((rd_T102 l0_1 x18_2).f0), .slice A276_1 ((rd_T102 l0_1 x18_2).f1).length c276_1] 102 (0, 0)) (gK BK277.out) hb)
                have n2_ := aM (below_step (gB HB.out) hb)
                clear BK274
                clear BK277
                clear HB
                have BK274 := n0_
                have BK277 := n1_
                have HB := n2_
                clear n0_ n1_ n2_
                (try clear hb)
                (try clear hb2)
                (try clear hk)
                (try clear hi)
                refine hK.out _ _ ⟨(blk_cell BK277.out 0).trans rfl, (blk_cell BK277.out 1).trans rfl, (blk_cell BK274.out 0).trans rfl, (blk_cell BK274.out 1).trans rfl, ((HB.out.cell (World.block_lt_of_cell? w _ hw279_0)).trans hw279_0), ((HB.out.cell (World.block_lt_of_cell? w _ hw279_1)).trans hw279_1)⟩ (fun hHeld => ?_)
                clear hK K
                refine norm_ (a' := ?_) ?_ ?_
                rotate_left
                ·
                 show Act.put _ (some 55) _ = _
                 simp only [Act.put, zSA, zSB, zSC, i64_w, i32_w]
                 rfl
                refine pure_ (i := 33) (N := some 56) (v := ?_) (a' := ?_) (bq 35 17179869183) rfl rfl (any_of HT_.out (by kernel_rfl)) (fun _ _ _ h => h) (Or.inl ⟨by rfl, ?_⟩) ?_ ?_; rotate_left; (intro w'; go_simp; (with_reducible rfl)); rotate_left; (simp only [Act.put, zSA, zSB, zSC, i64_w, i32_w]; rfl)
                refine pure_ (i := 34) (N := some 57) (v := ?_) (a' := ?_) (bq 35 34359738367) rfl rfl (any_of HT_.out (by kernel_rfl)) (fun _ _ _ h => h) (Or.inl ⟨by rfl, ?_⟩) ?_ ?_; rotate_left; (intro w'; go_simp; (with_reducible rfl)); rotate_left; (simp only [Act.put, zSA, zSB, zSC, i64_w, i32_w]; rfl)
                refine done_ (done_of HT_.out (by kernel_rfl)) ?_
                try go_wp2
                go_ret
                exact ⟨by first | rfl | (simp [errW_none, errW_some] <;> rfl) | (simp only [← hji16]; first | rfl | (simp [errW_none, errW_some] <;> rfl)) | (simp [*, errW_none, errW_some] <;> rfl), by repeat (first | (with_reducible first | exact HB.out | apply below_alloc | apply pw_below_drewN | apply below_drew1 | refine below_set ?_ GE274.out | refine below_set ?_ GE277.out) | exact HB.out)⟩
             ·
              rw [if_neg c19] at H
              have c19b0 : (Op.bytesLess (((rd_T102 l0_1 (ji16)).f0).toList) (((rd_T102 l0_1 x18_2).f0).toList)) = false := by simpa using c19
              clear c19
              obtain rfl := Option.some.inj H
              have p276 : 0 ≤ (x18_2 : Int) := of_decide_eq_true (by first | (with_reducible assumption) | assumption)
              have q276 : x18_2 < (l0_1.length : Int) := of_decide_eq_true (by first | (with_reducible assumption) | assumption)
              obtain ⟨ad276, A276_1, c276_1, e276, hx276_0, hx276_1, hl276_1, hi276_1⟩ := at_T102 HR0_1.out x18_2 p276 q276
              cases e276
              try have hz_hx276_0 := aM hx276_0
              try have hz_hx276_1 := aM hx276_1
              replace hx276_0 := (HB.out.cell (World.block_lt_of_cell? w _ hx276_0)).trans hx276_0
              replace hx276_1 := (HB.out.cell (World.block_lt_of_cell? w _ hx276_1)).trans hx276_1
              have HR276_1 := aM hi276_1
              have HC276_1 := aM hl276_1
              clear hi276_1 hl276_1
              replace p276 := eq_true p276
              replace q276 := eq_true q276
              try go_wp2_with (((with_reducible refine gate_dst (N := 4) rfl ?_); (try (refine gate_guard (by rfl) ?_; dsimp only)); refine box_event ?hg (N := 4) ?hd (cs := #[.string (⟨#[]⟩ : ByteArray), .slice none 0 0]) (t := 102) ?hr ?_; (case hd => rfl); (case hg => rfl); (case hr => first | (go_simp; done) | (go_simp; rfl)); intro gb277 hg w40 hbox hb; have n0_ := aM (blk_below (g := gb274) (o := .cells #[.int .i64 a0_0, .slice (some ad276) l0_1.length c0_1] 33 (0, 0)) (gK BK274.out) hb); have n1_ := aM (below_step (gB HB.out) hb); have n2_ := aM (hbox); have n3_ := aM ((by rw [hg]; exact (below_size (gB HB.out)) : w.heap.size ≤ gb277)); have n4_ := aM ((by rw [hg]; exact (below_size (gB HB.out)) : w.heap.size ≤ gb277)); have n5_ := aM ((by rw [hg]; exact Nat.ne_of_lt (blk_lt (g := gb274) (o := .cells #[.int .i64 a0_0, .slice (some ad276) l0_1.length c0_1] 33 (0, 0)) (gK BK274.out)) : gb274 ≠ gb277)); have n6_ := aM ((by rw [hg]; exact Nat.ne_of_gt (blk_lt (g := gb274) (o := .cells #[.int .i64 a0_0, .slice (some ad276) l0_1.length c0_1] 33 (0, 0)) (gK BK274.out)) : gb277 ≠ gb274)); clear BK274; clear HB; have BK274 := n0_; have HB := n1_; have BK277 := n2_; have GW277 := n3_; have GE277 := n4_; have NB274_277 := n5_; have NB277_274 := n6_; clear n0_ n1_ n2_ n3_ n4_ n5_ n6_; clear hb hbox hg; have hnb41 := NB277_274.out; have hnc41 := NB274_277.out; have hcz42_0 : w40.cell? ⟨gb277, 0, none⟩ = some (.string (⟨#[]⟩ : ByteArray)) := (blk_cell BK277.out 0).trans rfl; have hcz42_1 : w40.cell? ⟨gb277, 1, none⟩ = some (.slice none 0 0) := (blk_cell BK277.out 1).trans rfl; have hfz42_0 := blk_frozen BK277.out 0; have hfz42_1 := blk_frozen BK277.out 1))
              have n0_ : Aside0 (((w40.setCell ⟨gb277, 0, none⟩ (.string ((rd_T102 l0_1 x18_2).f0))).setCell ⟨gb277, 1, none⟩ (.slice A276_1 ((rd_T102 l0_1 x18_2).f1).length c276_1)).heap[gb274]? = some (.cells #[.int .i64 a0_0, .slice (some ad276) l0_1.length c0_1] 33 (0, 0))) := ⟨by (with_reducible repeat (first | refine blk_drewN ?_ _ | refine blk_drew ?_ | refine blk_alloc ?_ _)); refine blk_far ?_ NB274_277.out _; (with_reducible repeat (first | refine blk_drewN ?_ _ | refine blk_drew ?_ | refine blk_alloc ?_ _)); refine blk_far ?_ NB274_277.out _; (with_reducible repeat (first | refine blk_drewN ?_ _ | refine blk_drew ?_ | refine blk_alloc ?_ _)); exact BK274.out⟩
              have n1_ : Aside0 (((w40.setCell ⟨gb277, 0, none⟩ (.string ((rd_T102 l0_1 x18_2).f0))).setCell ⟨gb277, 1, none⟩ (.slice A276_1 ((rd_T102 l0_1 x18_2).f1).length c276_1)).heap[gb277]? = some (.cells #[.string ((rd_T102 l0_1 x18_2).f0), .slice A276_1 ((rd_T102 l0_1 x18_2).f1).length c276_1] 102 (0, 0))) := ⟨by (with_reducible repeat (first | refine blk_drewN ?_ _ | refine blk_drew ?_ | refine blk_alloc ?_ _)); refine blk_put (cs := #[.string ((rd_T102 l0_1 x18_2).f0), .slice none 0 0]) ?_ 1 _ rfl; (with_reducible repeat (first | refine blk_drewN ?_ _ | refine blk_drew ?_ | refine blk_alloc ?_ _)); refine blk_put (cs := #[.string (⟨#[]⟩ : ByteArray), .slice none 0 0]) ?_ 0 _ rfl; (with_reducible repeat (first | refine blk_drewN ?_ _ | refine blk_drew ?_ | refine blk_alloc ?_ _)); exact BK277.out⟩
              have n2_ : Aside0 (Below w.heap.size w ((w40.setCell ⟨gb277, 0, none⟩ (.string ((rd_T102 l0_1 x18_2).f0))).setCell ⟨gb277, 1, none⟩ (.slice A276_1 ((rd_T102 l0_1 x18_2).f1).length c276_1))) := ⟨by repeat (first | (with_reducible first | exact HB.out | apply below_alloc | apply pw_below_drewN | apply below_drew1 | refine below_set ?_ GE274.out | refine below_set ?_ GE277.out) | exact HB.out)⟩
              (try clear BK274)
              (try clear BK277)
              (try clear HB)
              generalize ((w40.setCell ⟨gb277, 0, none⟩ (.string ((rd_T102 l0_1 x18_2).f0))).setCell ⟨gb277, 1, none⟩ (.slice A276_1 ((rd_T102 l0_1 x18_2).f1).length c276_1)) = w43 at n0_ n1_ n2_ ⊢
              have BK274 := n0_
              have BK277 := n1_
              have HB := n2_
              clear n0_ n1_ n2_
              have n0_ := aM (blk_drew BK274.out)
              have n1_ := aM (blk_drew BK277.out)
              have n2_ := aM (below_drew1 HB.out)
              clear BK274
              clear BK277
              clear HB
              have BK274 := n0_
              have BK277 := n1_
              have HB := n2_
              clear n0_ n1_ n2_
              have p279 : 0 ≤ ((ji16) : Int) := of_decide_eq_true (by first | (with_reducible assumption) | assumption)
              have q279 : (ji16) < (l0_1.length : Int) := of_decide_eq_true (by first | (with_reducible assumption) | assumption)
              obtain ⟨ad279, A279_1, c279_1, e279, hx279_0, hx279_1, hl279_1, hi279_1⟩ := at_T102 HR0_1.out (ji16) p279 q279
              have hw279_1 := hx279_1
              have hw279_0 := hx279_0
              obtain rfl : ad276 = ad279 := (by injection e279)
              try have hz_hx279_0 := aM hx279_0
              try have hz_hx279_1 := aM hx279_1
              replace hx279_0 := (HB.out.cell (World.block_lt_of_cell? w _ hx279_0)).trans hx279_0
              replace hx279_1 := (HB.out.cell (World.block_lt_of_cell? w _ hx279_1)).trans hx279_1
              have HR279_1 := aM hi279_1
              have HC279_1 := aM hl279_1
              clear hi279_1 hl279_1
              replace p279 := eq_true p279
              replace q279 := eq_true q279
              refine start_ (n := 35) (S := fun w' => w'.cell? ⟨gb277, 0, none⟩ = some (.string ((rd_T102 l0_1 x18_2).f0)) ∧ w'.cell? ⟨gb277, 1, none⟩ = some (.slice A276_1 ((rd_T102 l0_1 x18_2).f1).length c276_1) ∧ w'.cell? ⟨gb274, 0, none⟩ = some (.int .i64 a0_0) ∧ w'.cell? ⟨gb274, 1, none⟩ = some (.slice (some ad276) l0_1.length c0_1) ∧ w'.cell? (ad276.add (((ji16)).toNat * 2)) = some (.string ((rd_T102 l0_1 (ji16)).f0)) ∧ w'.cell? ⟨(ad276.add (((ji16)).toNat * 2)).block, (ad276.add (((ji16)).toNat * 2)).off + 1, none⟩ = some (.slice A279_1 ((rd_T102 l0_1 (ji16)).f1).length c279_1)) (ds := []) (bq 35 0) (by kernel_rfl) rfl (by kernel_rfl) ⟨(blk_cell BK277.out 0).trans rfl, (blk_cell BK277.out 1).trans rfl, (blk_cell BK274.out 0).trans rfl, (blk_cell BK274.out 1).trans rfl, ((HB.out.cell (World.block_lt_of_cell? w _ hw279_0)).trans hw279_0), ((HB.out.cell (World.block_lt_of_cell? w _ hw279_1)).trans hw279_1)⟩ (fun hHeld => ?_); refine with_tabW impl_GoodWords.tab6 impl_GoodWords.bits6 (fun HT_ HW_ => ?_)
              generalize w43.drew = w44 at BK274 BK277 HB HR279_1 hx279_0 hx279_1 hHeld ⊢
              refine pure_ (i := 0) (N := some 23) (v := ?_) (a' := ?_) (bq 35 1) rfl rfl (any_of HT_.out (by kernel_rfl)) (fun _ _ _ h => h) (Or.inl ⟨by rfl, ?_⟩) ?_ ?_; rotate_left; (intro w'; go_simp; (with_reducible rfl)); rotate_left; (simp only [Act.put, zSA, zSB, zSC, i64_w, i32_w]; rfl)
              refine take_ (i := 1) (N := some 24) (v := ?_) (a' := ?_) (bq 35 3) rfl rfl (take_ofW HT_.out HW_.out (by kernel_rfl)) (fun _ _ _ h => h) (Or.inl ⟨by rfl, ?_⟩) hHeld ?_ ?_; rotate_left; (rintro w' ⟨s0, s1, s2, s3, s4, s5⟩; go_simp; (with_reducible rfl)); rotate_left; (simp only [Act.put, zSA, zSB, zSC, i64_w, i32_w]; rfl)
              refine one_ (i := 2) (N := some 25) (bq 35 7) rfl rfl (one_of HT_.out (by kernel_rfl)) (by decide) (fun K hK => ?_)
              refine goes_ Try.func89 (by kernel_rfl) rfl #[.string ((rd_T102 l0_1 x18_2).f0)] (by rfl) rfl rfl (by (try simp only [List.map_toArray, List.map_cons, List.map_nil]); first | done | rfl | (simp only [List.length_drop, List.length_take]; rfl)) ?_
              with_reducible refine (impl_isWord.calls k2 ((rd_T102 l0_1 x18_2).f0) true _ A13.out).mono ?_
              rintro e w' ⟨rfl, ⟨nd, rfl⟩⟩
              refine ⟨_, rfl, ?_⟩
              refine hK.out _ _ ⟨(blk_cell BK277.out 0).trans rfl, (blk_cell BK277.out 1).trans rfl, (blk_cell BK274.out 0).trans rfl, (blk_cell BK274.out 1).trans rfl, ((HB.out.cell (World.block_lt_of_cell? w _ hw279_0)).trans hw279_0), ((HB.out.cell (World.block_lt_of_cell? w _ hw279_1)).trans hw279_1)⟩ (fun hHeld => ?_)
              clear hK K
              refine norm_ (a' := ?_) ?_ ?_
              rotate_left
              ·
               show Act.put _ (some 25) _ = _
               simp only [Act.put, zSA, zSB, zSC, i64_w, i32_w]
               rfl
              refine pure_ (i := 3) (N := some 26) (v := ?_) (a' := ?_) (bq 35 15) rfl rfl (any_of HT_.out (by kernel_rfl)) (fun _ _ _ h => h) (Or.inl ⟨by rfl, ?_⟩) ?_ ?_; rotate_left; (intro w'; go_simp; (with_reducible rfl)); rotate_left; (simp only [Act.put, zSA, zSB, zSC, i64_w, i32_w]; rfl)
              refine pure_ (i := 4) (N := some 27) (v := ?_) (a' := ?_) (bq 35 31) rfl rfl (any_of HT_.out (by kernel_rfl)) (fun _ _ _ h => h) (Or.inl ⟨by rfl, ?_⟩) ?_ ?_; rotate_left; (intro w'; go_simp; (with_reducible rfl)); rotate_left; (simp only [Act.put, zSA, zSB, zSC, i64_w, i32_w]; rfl)
              refine pure_ (i := 5) (N := some 28) (v := ?_) (a' := ?_) (bq 35 63) rfl rfl (any_of HT_.out (by kernel_rfl)) (fun _ _ _ h => h) (Or.inl ⟨by rfl, ?_⟩) ?_ ?_; rotate_left; (intro w'; go_simp; (with_reducible rfl)); rotate_left; (simp only [Act.put, zSA, zSB, zSC, i64_w, i32_w]; rfl)
              refine pure_ (i := 6) (N := some 29) (v := ?_) (a' := ?_) (bq 35 127) rfl rfl (any_of HT_.out (by kernel_rfl)) (fun _ _ _ h => h) (Or.inl ⟨by rfl, ?_⟩) ?_ ?_; rotate_left; (intro w'; go_simp; (with_reducible rfl)); rotate_left; (simp only [Act.put, zSA, zSB, zSC, i64_w, i32_w]; rfl)
              refine pure_ (i := 7) (N := some 30) (v := ?_) (a' := ?_) (bq 35 255) rfl rfl (any_of HT_.out (by kernel_rfl)) (fun _ _ _ h => h) (Or.inl ⟨by rfl, ?_⟩) ?_ ?_; rotate_left; (intro w'; go_simp; (with_reducible rfl)); rotate_left; (simp only [Act.put, zSA, zSB, zSC, i64_w, i32_w]; rfl)
              refine pure_ (i := 8) (N := some 31) (v := ?_) (a' := ?_) (bq 35 511) rfl rfl (any_of HT_.out (by kernel_rfl)) (fun _ _ _ h => h) (Or.inl ⟨by rfl, ?_⟩) ?_ ?_; rotate_left; (intro w'; go_simp; (with_reducible rfl)); rotate_left; (simp only [Act.put, zSA, zSB, zSC, i64_w, i32_w]; rfl)
              refine pure_ (i := 10) (N := some 33) (v := ?_) (a' := ?_) (bq 35 1535) rfl rfl (any_of HT_.out (by kernel_rfl)) (fun _ _ _ h => h) (Or.inl ⟨by rfl, ?_⟩) ?_ ?_; rotate_left; (intro w'; go_simp; (with_reducible rfl)); rotate_left; (simp only [Act.put, zSA, zSB, zSC, i64_w, i32_w]; rfl)
              refine pure_ (i := 11) (N := some 34) (v := ?_) (a' := ?_) (bq 35 3583) rfl rfl (any_of HT_.out (by kernel_rfl)) (fun _ _ _ h => h) (Or.inl ⟨by rfl, ?_⟩) ?_ ?_; rotate_left; (intro w'; go_simp; (with_reducible rfl)); rotate_left; (simp only [Act.put, zSA, zSB, zSC, i64_w, i32_w]; rfl)
              refine pure_ (i := 15) (N := some 38) (v := ?_) (a' := ?_) (bq 35 36351) rfl rfl (any_of HT_.out (by kernel_rfl)) (fun _ _ _ h => h) (Or.inl ⟨by rfl, ?_⟩) ?_ ?_; rotate_left; (intro w'; go_simp; (with_reducible rfl)); rotate_left; (simp only [Act.put, zSA, zSB, zSC, i64_w, i32_w]; rfl)
              refine take_ (i := 9) (N := some 32) (v := ?_) (a' := ?_) (bq 35 36863) rfl rfl (take_ofW HT_.out HW_.out (by kernel_rfl)) (fun _ _ _ h => h) (Or.inl ⟨by rfl, ?_⟩) hHeld ?_ ?_; rotate_left; (rintro w' ⟨s0, s1, s2, s3, s4, s5⟩; go_simp; (with_reducible rfl)); rotate_left; (simp only [Act.put, zSA, zSB, zSC, i64_w, i32_w]; rfl)
              refine pure_ (i := 12) (N := some 35) (v := ?_) (a' := ?_) (bq 35 40959) rfl rfl (any_of HT_.out (by kernel_rfl)) (fun _ _ _ h => h) (Or.inl ⟨by rfl, ?_⟩) ?_ ?_; rotate_left; (intro w'; go_simp; (with_reducible rfl)); rotate_left; (simp only [Act.put, zSA, zSB, zSC, i64_w, i32_w]; rfl)
              refine pure_ (i := 13) (N := some 36) (v := ?_) (a' := ?_) (bq 35 49151) rfl rfl (any_of HT_.out (by kernel_rfl)) (fun _ _ _ h => h) (Or.inl ⟨by rfl, ?_⟩) ?_ ?_; rotate_left; (intro w'; go_simp; (with_reducible rfl)); rotate_left; (simp only [Act.put, zSA, zSB, zSC, i64_w, i32_w]; rfl)
              refine take_ (i := 14) (N := some 37) (v := ?_) (a' := ?_) (bq 35 65535) rfl rfl (take_ofW HT_.out HW_.out (by kernel_rfl)) (fun _ _ _ h => h) (Or.inl ⟨by rfl, ?_⟩) hHeld ?_ ?_; rotate_left; (rintro w' ⟨s0, s1, s2, s3, s4, s5⟩; go_simp; (with_reducible rfl)); rotate_left; (simp only [Act.put, zSA, zSB, zSC, i64_w, i32_w]; rfl)
              refine take_ (i := 16) (N := some 39) (v := ?_) (a' := ?_) (bq 35 131071) rfl rfl (take_ofW HT_.out HW_.out (by kernel_rfl)) (fun _ _ _ h => h) (Or.inl ⟨by rfl, ?_⟩) hHeld ?_ ?_; rotate_left; (rintro w' ⟨s0, s1, s2, s3, s4, s5⟩; go_simp; (with_reducible rfl)); rotate_left; (simp only [Act.put, zSA, zSB, zSC, i64_w, i32_w]; rfl)
              refine pure_ (i := 17) (N := some 40) (v := ?_) (a' := ?_) (bq 35 262143) rfl rfl (any_of HT_.out (by kernel_rfl)) (fun _ _ _ h => h) (Or.inl ⟨by rfl, ?_⟩) ?_ ?_; rotate_left; (intro w'; go_simp; (with_reducible rfl)); rotate_left; (simp only [Act.put, zSA, zSB, zSC, i64_w, i32_w]; rfl)
              refine pure_ (i := 18) (N := some 41) (v := ?_) (a' := ?_) (bq 35 524287) rfl rfl (any_of HT_.out (by kernel_rfl)) (fun _ _ _ h => h) (Or.inl ⟨by rfl, ?_⟩) ?_ ?_; rotate_left; (intro w'; go_simp; (with_reducible rfl)); rotate_left; (simp only [Act.put, zSA, zSB, zSC, i64_w, i32_w]; rfl)
              refine pure_ (i := 19) (N := some 42) (v := ?_) (a' := ?_) (bq 35 1048575) rfl rfl (any_of HT_.out (by kernel_rfl)) (fun _ _ _ h => h) (Or.inl ⟨by rfl, ?_⟩) ?_ ?_; rotate_left; (intro w'; go_simp; (with_reducible rfl)); rotate_left; (simp only [Act.put, zSA, zSB, zSC, i64_w, i32_w]; rfl)
              refine pure_ (i := 20) (N := some 43) (v := ?_) (a' := ?_) (bq 35 2097151) rfl rfl (any_of HT_.out (by kernel_rfl)) (fun _ _ _ h => h) (Or.inl ⟨by rfl, ?_⟩) ?_ ?_; rotate_left; (intro w'; go_simp; (with_reducible rfl)); rotate_left; (simp only [Act.put, zSA, zSB, zSC, i64_w, i32_w]; rfl)
              refine pure_ (i := 21) (N := some 44) (v := undef) (a' := ?_) (bq 35 4194303) rfl rfl (any_of HT_.out (by kernel_rfl)) (fun _ _ _ h => h) (Or.inr ⟨by rfl, rfl⟩) ?_ ?_
              rotate_left
              ·
               simp only [Act.put, zSA, zSB, zSC, i64_w, i32_w]
               rfl
              refine pure_ (i := 22) (N := some 45) (v := undef) (a' := ?_) (bq 35 8388607) rfl rfl (any_of HT_.out (by kernel_rfl)) (fun _ _ _ h => h) (Or.inr ⟨by rfl, rfl⟩) ?_ ?_
              rotate_left
              ·
               simp only [Act.put, zSA, zSB, zSC, i64_w, i32_w]
               rfl
              refine pure_ (i := 23) (N := some 46) (v := undef) (a' := ?_) (bq 35 16777215) rfl rfl (any_of HT_.out (by kernel_rfl)) (fun _ _ _ h => h) (Or.inr ⟨by rfl, rfl⟩) ?_ ?_
              rotate_left
              ·
               simp only [Act.put, zSA, zSB, zSC, i64_w, i32_w]
               rfl
              refine pure_ (i := 24) (N := some 47) (v := undef) (a' := ?_) (bq 35 33554431) rfl rfl (any_of HT_.out (by kernel_rfl)) (fun _ _ _ h => h) (Or.inr ⟨by rfl, rfl⟩) ?_ ?_
              rotate_left
              ·
               simp only [Act.put, zSA, zSB, zSC, i64_w, i32_w]
               rfl
              refine pure_ (i := 25) (N := some 48) (v := ?_) (a' := ?_) (bq 35 67108863) rfl rfl (any_of HT_.out (by kernel_rfl)) (fun _ _ _ h => h) (Or.inl ⟨by rfl, ?_⟩) ?_ ?_; rotate_left; (intro w'; go_simp; (with_reducible rfl)); rotate_left; (simp only [Act.put, zSA, zSB, zSC, i64_w, i32_w]; rfl)
              refine pure_ (i := 26) (N := some 49) (v := ?_) (a' := ?_) (bq 35 134217727) rfl rfl (any_of HT_.out (by kernel_rfl)) (fun _ _ _ h => h) (Or.inl ⟨by rfl, ?_⟩) ?_ ?_; rotate_left; (intro w'; go_simp; (with_reducible rfl)); rotate_left; (simp only [Act.put, zSA, zSB, zSC, i64_w, i32_w]; rfl)
              refine pure_ (i := 27) (N := some 50) (v := undef) (a' := ?_) (bq 35 268435455) rfl rfl (any_of HT_.out (by kernel_rfl)) (fun _ _ _ h => h) (Or.inr ⟨by rfl, rfl⟩) ?_ ?_
              rotate_left
              ·
               simp only [Act.put, zSA, zSB, zSC, i64_w, i32_w]
               rfl
              refine pure_ (i := 28) (N := some 51) (v := undef) (a' := ?_) (bq 35 536870911) rfl rfl (any_of HT_.out (by kernel_rfl)) (fun _ _ _ h => h) (Or.inr ⟨by rfl, rfl⟩) ?_ ?_
              rotate_left
              ·
               simp only [Act.put, zSA, zSB, zSC, i64_w, i32_w]
               rfl
              refine pure_ (i := 29) (N := some 52) (v := undef) (a' := ?_) (bq 35 1073741823) rfl rfl (any_of HT_.out (by kernel_rfl)) (fun _ _ _ h => h) (Or.inr ⟨by rfl, rfl⟩) ?_ ?_
              rotate_left
              ·
               simp only [Act.put, zSA, zSB, zSC, i64_w, i32_w]
               rfl
              refine pure_ (i := 30) (N := some 53) (v := undef) (a' := ?_) (bq 35 2147483647) rfl rfl (any_of HT_.out (by kernel_rfl)) (fun _ _ _ h => h) (Or.inr ⟨by rfl, rfl⟩) ?_ ?_
              rotate_left
              ·
               simp only [Act.put, zSA, zSB, zSC, i64_w, i32_w]
               rfl
              refine pure_ (i := 31) (N := some 54) (v := undef) (a' := ?_) (bq 35 4294967295) rfl rfl (any_of HT_.out (by kernel_rfl)) (fun _ _ _ h => h) (Or.inr ⟨by rfl, rfl⟩) ?_ ?_
              rotate_left
              ·
               simp only [Act.put, zSA, zSB, zSC, i64_w, i32_w]
               rfl
              refine pure_ (i := 32) (N := some 55) (v := undef) (a' := ?_) (bq 35 8589934591) rfl rfl (any_of HT_.out (by kernel_rfl)) (fun _ _ _ h => h) (Or.inr ⟨by rfl, rfl⟩) ?_ ?_
              rotate_left
              ·
               simp only [Act.put, zSA, zSB, zSC, i64_w, i32_w]
               rfl
              refine pure_ (i := 33) (N := some 56) (v := undef) (a' := ?_) (bq 35 17179869183) rfl rfl (any_of HT_.out (by kernel_rfl)) (fun _ _ _ h => h) (Or.inr ⟨by rfl, rfl⟩) ?_ ?_
              rotate_left
              ·
               simp only [Act.put, zSA, zSB, zSC, i64_w, i32_w]
               rfl
              refine pure_ (i := 34) (N := some 57) (v := ?_) (a' := ?_) (bq 35 34359738367) rfl rfl (any_of HT_.out (by kernel_rfl)) (fun _ _ _ h => h) (Or.inl ⟨by rfl, ?_⟩) ?_ ?_; rotate_left; (intro w'; go_simp; (with_reducible rfl)); rotate_left; (simp only [Act.put, zSA, zSB, zSC, i64_w, i32_w]; rfl)
              refine done_ (done_of HT_.out (by kernel_rfl)) ?_
              try go_wp2
              go_ret
              exact ⟨by first | rfl | (simp [errW_none, errW_some] <;> rfl) | (simp only [← hji16]; first | rfl | (simp [errW_none, errW_some] <;> rfl)) | (simp [*, errW_none, errW_some] <;> rfl), by repeat (first | (with_reducible first | exact HB.out | apply below_alloc | apply pw_below_drewN | apply below_drew1 | refine below_set ?_ GE274.out | refine below_set ?_ GE277.out) | exact HB.out)⟩
            ·
             rw [if_neg c18] at H
             exact absurd H (by simp)
           ·
            rw [if_neg c17] at H
            exact absurd H (by simp)
          ·
           rw [if_neg c15] at H
           have c15b0 : decide (0 < x18_2) = false := decide_eq_false c15
           clear c15
           by_cases c45 : (((rd_T102 l0_1 x18_2).f1).length : Int) = 0
           ·
            rw [if_pos c45] at H
            have c45b0 : ((((rd_T102 l0_1 x18_2).f1).length : Int) == 0) = true := beq_iff_eq.mpr c45
            have c45b1 : ((((rd_T102 l0_1 x18_2).f1).length : Int) != 0) = false := bne_eq_false_iff_eq.mpr c45
            clear c45
            obtain rfl := Option.some.inj H
            have p276 : 0 ≤ (x18_2 : Int) := of_decide_eq_true (by first | (with_reducible assumption) | assumption)
            have q276 : x18_2 < (l0_1.length : Int) := of_decide_eq_true (by first | (with_reducible assumption) | assumption)
            obtain ⟨ad276, A276_1, c276_1, e276, hx276_0, hx276_1, hl276_1, hi276_1⟩ := at_T102 HR0_1.out x18_2 p276 q276
            cases e276
            try have hz_hx276_0 := aM hx276_0
            try have hz_hx276_1 := aM hx276_1
            replace hx276_0 := (HB.out.cell (World.block_lt_of_cell? w _ hx276_0)).trans hx276_0
            replace hx276_1 := (HB.out.cell (World.block_lt_of_cell? w _ hx276_1)).trans hx276_1
            have HR276_1 := aM hi276_1
            have HC276_1 := aM hl276_1
            clear hi276_1 hl276_1
            replace p276 := eq_true p276
            replace q276 := eq_true q276
            try go_wp2_with (((with_reducible refine gate_dst (N := 4) rfl ?_); (try (refine gate_guard (by rfl) ?_; dsimp only)); refine box_event ?hg (N := 4) ?hd (cs := #[.string (⟨#[]⟩ : ByteArray), .slice none 0 0]) (t := 102) ?hr ?_; (case hd => rfl); (case hg => rfl); (case hr => first | (go_simp; done) | (go_simp; rfl)); intro gb277 hg w46 hbox hb; have n0_ := aM (blk_below (g := gb274) (o := .cells #[.int .i64 a0_0, .slice (some ad276) l0_1.length c0_1] 33 (0, 0)) (gK BK274.out) hb); have n1_ := aM (below_step (gB HB.out) hb); have n2_ := aM (hbox); have n3_ := aM ((by rw [hg]; exact (below_size (gB HB.out)) : w.heap.size ≤ gb277)); have n4_ := aM ((by rw [hg]; exact (below_size (gB HB.out)) : w.heap.size ≤ gb277)); have n5_ := aM ((by rw [hg]; exact Nat.ne_of_lt (blk_lt (g := gb274) (o := .cells #[.int .i64 a0_0, .slice (some ad276) l0_1.length c0_1] 33 (0, 0)) (gK BK274.out)) : gb274 ≠ gb277)); have n6_ := aM ((by rw [hg]; exact Nat.ne_of_gt (blk_lt (g := gb274) (o := .cells #[.int .i64 a0_0, .slice (some ad276) l0_1.length c0_1] 33 (0, 0)) (gK BK274.out)) : gb277 ≠ gb274)); clear BK274; clear HB; have BK274 := n0_; have HB := n1_; have BK277 := n2_; have GW277 := n3_; have GE277 := n4_; have NB274_277 := n5_; have NB277_274 := n6_; clear n0_ n1_ n2_ n3_ n4_ n5_ n6_; clear hb hbox hg; have hnb47 := NB277_274.out; have hnc47 := NB274_277.out; have hcz48_0 : w46.cell? ⟨gb277, 0, none⟩ = some (.string (⟨#[]⟩ : ByteArray)) := (blk_cell BK277.out 0).trans rfl; have hcz48_1 : w46.cell? ⟨gb277, 1, none⟩ = some (.slice none 0 0) := (blk_cell BK277.out 1).trans rfl; have hfz48_0 := blk_frozen BK277.out 0; have hfz48_1 := blk_frozen BK277.out 1))
            have n0_ : Aside0 (((w46.setCell ⟨gb277, 0, none⟩ (.string ((rd_T102 l0_1 x18_2).f0))).setCell ⟨gb277, 1, none⟩ (.slice A276_1 ((rd_T102 l0_1 x18_2).f1).length c276_1)).heap[gb274]? = some (.cells #[.int .i64 a0_0, .slice (some ad276) l0_1.length c0_1] 33 (0, 0))) := ⟨by (with_reducible repeat (first | refine blk_drewN ?_ _ | refine blk_drew ?_ | refine blk_alloc ?_ _)); refine blk_far ?_ NB274_277.out _; (with_reducible repeat (first | refine blk_drewN ?_ _ | refine blk_drew ?_ | refine blk_alloc ?_ _)); refine blk_far ?_ NB274_277.out _; (with_reducible repeat (first | refine blk_drewN ?_ _ | refine blk_drew ?_ | refine blk_alloc ?_ _)); exact BK274.out⟩
            have n1_ : Aside0 (((w46.setCell ⟨gb277, 0, none⟩ (.string ((rd_T102 l0_1 x18_2).f0))).setCell ⟨gb277, 1, none⟩ (.slice A276_1 ((rd_T102 l0_1 x18_2).f1).length c276_1)).heap[gb277]? = some (.cells #[.string ((rd_T102 l0_1 x18_2).f0), .slice A276_1 ((rd_T102 l0_1 x18_2).f1).length c276_1] 102 (0, 0))) := ⟨by (with_reducible repeat (first | refine blk_drewN ?_ _ | refine blk_drew ?_ | refine blk_alloc ?_ _)); refine blk_put (cs := #[.string ((rd_T102 l0_1 x18_2).f0), .slice none 0 0]) ?_ 1 _ rfl; (with_reducible repeat (first | refine blk_drewN ?_ _ | refine blk_drew ?_ | refine blk_alloc ?_ _)); refine blk_put (cs := #[.string (⟨#[]⟩ : ByteArray), .slice none 0 0]) ?_ 0 _ rfl; (with_reducible repeat (first | refine blk_drewN ?_ _ | refine blk_drew ?_ | refine blk_alloc ?_ _)); exact BK277.out⟩
            have n2_ : Aside0 (Below w.heap.size w ((w46.setCell ⟨gb277, 0, none⟩ (.string ((rd_T102 l0_1 x18_2).f0))).setCell ⟨gb277, 1, none⟩ (.slice A276_1 ((rd_T102 l0_1 x18_2).f1).length c276_1))) := ⟨by repeat (first | (with_reducible first | exact HB.out | apply below_alloc | apply pw_below_drewN | apply below_drew1 | refine below_set ?_ GE274.out | refine below_set ?_ GE277.out) | exact HB.out)⟩
            (try clear BK274)
            (try clear BK277)
            (try clear HB)
            generalize ((w46.setCell ⟨gb277, 0, none⟩ (.string ((rd_T102 l0_1 x18_2).f0))).setCell ⟨gb277, 1, none⟩ (.slice A276_1 ((rd_T102 l0_1 x18_2).f1).length c276_1)) = w49 at n0_ n1_ n2_ ⊢
            have BK274 := n0_
            have BK277 := n1_
            have HB := n2_
            clear n0_ n1_ n2_
            have n0_ := aM (blk_drew BK274.out)
            have n1_ := aM (blk_drew BK277.out)
            have n2_ := aM (below_drew1 HB.out)
            clear BK274
            clear BK277
            clear HB
            have BK274 := n0_
            have BK277 := n1_
            have HB := n2_
            clear n0_ n1_ n2_
            refine start_ (n := 35) (S := fun w' => w'.cell? ⟨gb277, 0, none⟩ = some (.string ((rd_T102 l0_1 x18_2).f0)) ∧ w'.cell? ⟨gb277, 1, none⟩ = some (.slice A276_1 ((rd_T102 l0_1 x18_2).f1).length c276_1)) (ds := []) (bq 35 0) (by kernel_rfl) rfl (by kernel_rfl) ⟨(blk_cell BK277.out 0).trans rfl, (blk_cell BK277.out 1).trans rfl⟩ (fun hHeld => ?_); refine with_tabW impl_GoodWords.tab6 impl_GoodWords.bits6 (fun HT_ HW_ => ?_)
            generalize w49.drew = w50 at BK274 BK277 HB hHeld ⊢
            refine pure_ (i := 0) (N := some 23) (v := ?_) (a' := ?_) (bq 35 1) rfl rfl (any_of HT_.out (by kernel_rfl)) (fun _ _ _ h => h) (Or.inl ⟨by rfl, ?_⟩) ?_ ?_; rotate_left; (intro w'; go_simp; (with_reducible rfl)); rotate_left; (simp only [Act.put, zSA, zSB, zSC, i64_w, i32_w]; rfl)
            refine take_ (i := 1) (N := some 24) (v := ?_) (a' := ?_) (bq 35 3) rfl rfl (take_ofW HT_.out HW_.out (by kernel_rfl)) (fun _ _ _ h => h) (Or.inl ⟨by rfl, ?_⟩) hHeld ?_ ?_; rotate_left; (rintro w' ⟨s0, s1⟩; go_simp; (with_reducible rfl)); rotate_left; (simp only [Act.put, zSA, zSB, zSC, i64_w, i32_w]; rfl)
            refine one_ (i := 2) (N := some 25) (bq 35 7) rfl rfl (one_of HT_.out (by kernel_rfl)) (by decide) (fun K hK => ?_)
            refine goes_ Try.func89 (by kernel_rfl) rfl #[.string ((rd_T102 l0_1 x18_2).f0)] (by rfl) rfl rfl (by (try simp only [List.map_toArray, List.map_cons, List.map_nil]); first | done | rfl | (simp only [List.length_drop, List.length_take]; rfl)) ?_
            with_reducible refine (impl_isWord.calls k2 ((rd_T102 l0_1 x18_2).f0) true _ A13.out).mono ?_
            rintro e w' ⟨rfl, ⟨nd, rfl⟩⟩
            refine ⟨_, rfl, ?_⟩
            refine hK.out _ _ ⟨(blk_cell BK277.out 0).trans rfl, (blk_cell BK277.out 1).trans rfl⟩ (fun hHeld => ?_)
            clear hK K
            refine norm_ (a' := ?_) ?_ ?_
            rotate_left
            ·
             show Act.put _ (some 25) _ = _
             simp only [Act.put, zSA, zSB, zSC, i64_w, i32_w]
             rfl
            refine pure_ (i := 3) (N := some 26) (v := ?_) (a' := ?_) (bq 35 15) rfl rfl (any_of HT_.out (by kernel_rfl)) (fun _ _ _ h => h) (Or.inl ⟨by rfl, ?_⟩) ?_ ?_; rotate_left; (intro w'; go_simp; (with_reducible rfl)); rotate_left; (simp only [Act.put, zSA, zSB, zSC, i64_w, i32_w]; rfl)
            refine pure_ (i := 4) (N := some 27) (v := ?_) (a' := ?_) (bq 35 31) rfl rfl (any_of HT_.out (by kernel_rfl)) (fun _ _ _ h => h) (Or.inl ⟨by rfl, ?_⟩) ?_ ?_; rotate_left; (intro w'; go_simp; (with_reducible rfl)); rotate_left; (simp only [Act.put, zSA, zSB, zSC, i64_w, i32_w]; rfl)
            refine pure_ (i := 5) (N := some 28) (v := ?_) (a' := ?_) (bq 35 63) rfl rfl (any_of HT_.out (by kernel_rfl)) (fun _ _ _ h => h) (Or.inl ⟨by rfl, ?_⟩) ?_ ?_; rotate_left; (intro w'; go_simp; (with_reducible rfl)); rotate_left; (simp only [Act.put, zSA, zSB, zSC, i64_w, i32_w]; rfl)
            refine pure_ (i := 6) (N := some 29) (v := ?_) (a' := ?_) (bq 35 127) rfl rfl (any_of HT_.out (by kernel_rfl)) (fun _ _ _ h => h) (Or.inl ⟨by rfl, ?_⟩) ?_ ?_; rotate_left; (intro w'; go_simp; (with_reducible rfl)); rotate_left; (simp only [Act.put, zSA, zSB, zSC, i64_w, i32_w]; rfl)
            refine pure_ (i := 7) (N := some 30) (v := ?_) (a' := ?_) (bq 35 255) rfl rfl (any_of HT_.out (by kernel_rfl)) (fun _ _ _ h => h) (Or.inl ⟨by rfl, ?_⟩) ?_ ?_; rotate_left; (intro w'; go_simp; (with_reducible rfl)); rotate_left; (simp only [Act.put, zSA, zSB, zSC, i64_w, i32_w]; rfl)
            refine pure_ (i := 8) (N := some 31) (v := undef) (a' := ?_) (bq 35 511) rfl rfl (any_of HT_.out (by kernel_rfl)) (fun _ _ _ h => h) (Or.inr ⟨by rfl, rfl⟩) ?_ ?_
            rotate_left
            ·
             simp only [Act.put, zSA, zSB, zSC, i64_w, i32_w]
             rfl
            refine pure_ (i := 9) (N := some 32) (v := undef) (a' := ?_) (bq 35 1023) rfl rfl (any_of HT_.out (by kernel_rfl)) (fun _ _ _ h => h) (Or.inr ⟨by rfl, rfl⟩) ?_ ?_
            rotate_left
            ·
             simp only [Act.put, zSA, zSB, zSC, i64_w, i32_w]
             rfl
            refine pure_ (i := 10) (N := some 33) (v := undef) (a' := ?_) (bq 35 2047) rfl rfl (any_of HT_.out (by kernel_rfl)) (fun _ _ _ h => h) (Or.inr ⟨by rfl, rfl⟩) ?_ ?_
            rotate_left
            ·
             simp only [Act.put, zSA, zSB, zSC, i64_w, i32_w]
             rfl
            refine pure_ (i := 11) (N := some 34) (v := undef) (a' := ?_) (bq 35 4095) rfl rfl (any_of HT_.out (by kernel_rfl)) (fun _ _ _ h => h) (Or.inr ⟨by rfl, rfl⟩) ?_ ?_
            rotate_left
            ·
             simp only [Act.put, zSA, zSB, zSC, i64_w, i32_w]
             rfl
            refine pure_ (i := 12) (N := some 35) (v := undef) (a' := ?_) (bq 35 8191) rfl rfl (any_of HT_.out (by kernel_rfl)) (fun _ _ _ h => h) (Or.inr ⟨by rfl, rfl⟩) ?_ ?_
            rotate_left
            ·
             simp only [Act.put, zSA, zSB, zSC, i64_w, i32_w]
             rfl
            refine pure_ (i := 13) (N := some 36) (v := undef) (a' := ?_) (bq 35 16383) rfl rfl (any_of HT_.out (by kernel_rfl)) (fun _ _ _ h => h) (Or.inr ⟨by rfl, rfl⟩) ?_ ?_
            rotate_left
            ·
             simp only [Act.put, zSA, zSB, zSC, i64_w, i32_w]
             rfl
            refine pure_ (i := 14) (N := some 37) (v := undef) (a' := ?_) (bq 35 32767) rfl rfl (any_of HT_.out (by kernel_rfl)) (fun _ _ _ h => h) (Or.inr ⟨by rfl, rfl⟩) ?_ ?_
            rotate_left
            ·
             simp only [Act.put, zSA, zSB, zSC, i64_w, i32_w]
             rfl
            refine pure_ (i := 15) (N := some 38) (v := undef) (a' := ?_) (bq 35 65535) rfl rfl (any_of HT_.out (by kernel_rfl)) (fun _ _ _ h => h) (Or.inr ⟨by rfl, rfl⟩) ?_ ?_
            rotate_left
            ·
             simp only [Act.put, zSA, zSB, zSC, i64_w, i32_w]
             rfl
            refine pure_ (i := 16) (N := some 39) (v := undef) (a' := ?_) (bq 35 131071) rfl rfl (any_of HT_.out (by kernel_rfl)) (fun _ _ _ h => h) (Or.inr ⟨by rfl, rfl⟩) ?_ ?_
            rotate_left
            ·
             simp only [Act.put, zSA, zSB, zSC, i64_w, i32_w]
             rfl
            refine pure_ (i := 17) (N := some 40) (v := undef) (a' := ?_) (bq 35 262143) rfl rfl (any_of HT_.out (by kernel_rfl)) (fun _ _ _ h => h) (Or.inr ⟨by rfl, rfl⟩) ?_ ?_
            rotate_left
            ·
             simp only [Act.put, zSA, zSB, zSC, i64_w, i32_w]
             rfl
            refine pure_ (i := 18) (N := some 41) (v := ?_) (a' := ?_) (bq 35 524287) rfl rfl (any_of HT_.out (by kernel_rfl)) (fun _ _ _ h => h) (Or.inl ⟨by rfl, ?_⟩) ?_ ?_; rotate_left; (intro w'; go_simp; (with_reducible rfl)); rotate_left; (simp only [Act.put, zSA, zSB, zSC, i64_w, i32_w]; rfl)
            refine pure_ (i := 19) (N := some 42) (v := ?_) (a' := ?_) (bq 35 1048575) rfl rfl (any_of HT_.out (by kernel_rfl)) (fun _ _ _ h => h) (Or.inl ⟨by rfl, ?_⟩) ?_ ?_; rotate_left; (intro w'; go_simp; (with_reducible rfl)); rotate_left; (simp only [Act.put, zSA, zSB, zSC, i64_w, i32_w]; rfl)
            refine pure_ (i := 20) (N := some 43) (v := ?_) (a' := ?_) (bq 35 2097151) rfl rfl (any_of HT_.out (by kernel_rfl)) (fun _ _ _ h => h) (Or.inl ⟨by rfl, ?_⟩) ?_ ?_; rotate_left; (intro w'; go_simp; (with_reducible rfl)); rotate_left; (simp only [Act.put, zSA, zSB, zSC, i64_w, i32_w]; rfl)
            refine pure_ (i := 21) (N := some 44) (v := ?_) (a' := ?_) (bq 35 4194303) rfl rfl (any_of HT_.out (by kernel_rfl)) (fun _ _ _ h => h) (Or.inl ⟨by rfl, ?_⟩) ?_ ?_; rotate_left; (intro w'; go_simp; (with_reducible rfl)); rotate_left; (simp only [Act.put, zSA, zSB, zSC, i64_w, i32_w]; rfl)
            refine take_ (i := 22) (N := some 45) (v := ?_) (a' := ?_) (bq 35 8388607) rfl rfl (take_ofW HT_.out HW_.out (by kernel_rfl)) (fun _ _ _ h => h) (Or.inl ⟨by rfl, ?_⟩) hHeld ?_ ?_; rotate_left; (rintro w' ⟨s0, s1⟩; go_simp; (with_reducible rfl)); rotate_left; (simp only [Act.put, zSA, zSB, zSC, i64_w, i32_w]; rfl)
            refine pure_ (i := 23) (N := some 46) (v := ?_) (a' := ?_) (bq 35 16777215) rfl rfl (any_of HT_.out (by kernel_rfl)) (fun _ _ _ h => h) (Or.inl ⟨by rfl, ?_⟩) ?_ ?_; rotate_left; (intro w'; go_simp; (with_reducible rfl)); rotate_left; (simp only [Act.put, zSA, zSB, zSC, i64_w, i32_w]; rfl)
            refine pure_ (i := 24) (N := some 47) (v := ?_) (a' := ?_) (bq 35 33554431) rfl rfl (any_of HT_.out (by kernel_rfl)) (fun _ _ _ h => h) (Or.inl ⟨by rfl, ?_⟩) ?_ ?_; rotate_left; (intro w'; go_simp; (with_reducible rfl)); rotate_left; (simp only [Act.put, zSA, zSB, zSC, i64_w, i32_w]; rfl)
            refine pure_ (i := 25) (N := some 48) (v := ?_) (a' := ?_) (bq 35 67108863) rfl rfl (any_of HT_.out (by kernel_rfl)) (fun _ _ _ h => h) (Or.inl ⟨by rfl, ?_⟩) ?_ ?_; rotate_left; (intro w'; go_simp; (with_reducible rfl)); rotate_left; (simp only [Act.put, zSA, zSB, zSC, i64_w, i32_w]; rfl)
            refine pure_ (i := 26) (N := some 49) (v := ?_) (a' := ?_) (bq 35 134217727) rfl rfl (any_of HT_.out (by kernel_rfl)) (fun _ _ _ h => h) (Or.inl ⟨by rfl, ?_⟩) ?_ ?_; rotate_left; (intro w'; go_simp; (with_reducible rfl)); rotate_left; (simp only [Act.put, zSA, zSB, zSC, i64_w, i32_w]; rfl)
            refine pure_ (i := 27) (N := some 50) (v := undef) (a' := ?_) (bq 35 268435455) rfl rfl (any_of HT_.out (by kernel_rfl)) (fun _ _ _ h => h) (Or.inr ⟨by rfl, rfl⟩) ?_ ?_
            rotate_left
            ·
             simp only [Act.put, zSA, zSB, zSC, i64_w, i32_w]
             rfl
            refine pure_ (i := 28) (N := some 51) (v := undef) (a' := ?_) (bq 35 536870911) rfl rfl (any_of HT_.out (by kernel_rfl)) (fun _ _ _ h => h) (Or.inr ⟨by rfl, rfl⟩) ?_ ?_
            rotate_left
            ·
             simp only [Act.put, zSA, zSB, zSC, i64_w, i32_w]
             rfl
            refine pure_ (i := 29) (N := some 52) (v := undef) (a' := ?_) (bq 35 1073741823) rfl rfl (any_of HT_.out (by kernel_rfl)) (fun _ _ _ h => h) (Or.inr ⟨by rfl, rfl⟩) ?_ ?_
            rotate_left
            ·
             simp only [Act.put, zSA, zSB, zSC, i64_w, i32_w]
             rfl
            refine pure_ (i := 30) (N := some 53) (v := undef) (a' := ?_) (bq 35 2147483647) rfl rfl (any_of HT_.out (by kernel_rfl)) (fun _ _ _ h => h) (Or.inr ⟨by rfl, rfl⟩) ?_ ?_
            rotate_left
            ·
             simp only [Act.put, zSA, zSB, zSC, i64_w, i32_w]
             rfl
            refine pure_ (i := 31) (N := some 54) (v := undef) (a' := ?_) (bq 35 4294967295) rfl rfl (any_of HT_.out (by kernel_rfl)) (fun _ _ _ h => h) (Or.inr ⟨by rfl, rfl⟩) ?_ ?_
            rotate_left
            ·
             simp only [Act.put, zSA, zSB, zSC, i64_w, i32_w]
             rfl
            refine pure_ (i := 32) (N := some 55) (v := undef) (a' := ?_) (bq 35 8589934591) rfl rfl (any_of HT_.out (by kernel_rfl)) (fun _ _ _ h => h) (Or.inr ⟨by rfl, rfl⟩) ?_ ?_
            rotate_left
            ·
             simp only [Act.put, zSA, zSB, zSC, i64_w, i32_w]
             rfl
            refine pure_ (i := 33) (N := some 56) (v := undef) (a' := ?_) (bq 35 17179869183) rfl rfl (any_of HT_.out (by kernel_rfl)) (fun _ _ _ h => h) (Or.inr ⟨by rfl, rfl⟩) ?_ ?_
            rotate_left
            ·
             simp only [Act.put, zSA, zSB, zSC, i64_w, i32_w]
             rfl
            refine pure_ (i := 34) (N := some 57) (v := ?_) (a' := ?_) (bq 35 34359738367) rfl rfl (any_of HT_.out (by kernel_rfl)) (fun _ _ _ h => h) (Or.inl ⟨by rfl, ?_⟩) ?_ ?_; rotate_left; (intro w'; go_simp; (with_reducible rfl)); rotate_left; (simp only [Act.put, zSA, zSB, zSC, i64_w, i32_w]; rfl)
            refine done_ (done_of HT_.out (by kernel_rfl)) ?_
            try go_wp2
            go_ret
            exact ⟨by first | rfl | (simp [errW_none, errW_some] <;> rfl) | (simp [*, errW_none, errW_some] <;> rfl), by repeat (first | (with_reducible first | exact HB.out | apply below_alloc | apply pw_below_drewN | apply below_drew1 | refine below_set ?_ GE274.out | refine below_set ?_ GE277.out) | exact HB.out)⟩
           ·
            rw [if_neg c45] at H
            have c45b0 : ((((rd_T102 l0_1 x18_2).f1).length : Int) == 0) = false := beq_eq_false_iff_ne.mpr c45
            have c45b1 : ((((rd_T102 l0_1 x18_2).f1).length : Int) != 0) = true := bne_iff_ne.mpr c45
            have c45b2 : ¬ (((rd_T102 l0_1 x18_2).f1) = []) := fun h_ => c45 (by rw [h_]; rfl)
            replace H := Option.bind_eq_some_iff.mp H
            obtain ⟨t281, A510, H⟩ := H
            replace H : (if t281 = true then (impl_GoodWords.l0 k2 l0_1 (l0_1.length : Int) (wrap64 (x18_2 + 1)) a0_0 l0_1) else (some false)) = some r := H
            have A51 := aM A510
            clear A510
            by_cases c52 : t281 = true
            ·
             subst c52
             have H1 : (impl_GoodWords.l0 k2 l0_1 (l0_1.length : Int) (wrap64 (x18_2 + 1)) a0_0 l0_1) = some r := by rw [if_pos rfl] at H; exact H
             clear H
             have H := H1
             clear H1
             have H' := aM H
             clear H
             have p276 : 0 ≤ (x18_2 : Int) := of_decide_eq_true (by first | (with_reducible assumption) | assumption)
             have q276 : x18_2 < (l0_1.length : Int) := of_decide_eq_true (by first | (with_reducible assumption) | assumption)
             obtain ⟨ad276, A276_1, c276_1, e276, hx276_0, hx276_1, hl276_1, hi276_1⟩ := at_T102 HR0_1.out x18_2 p276 q276
             cases e276
             try have hz_hx276_0 := aM hx276_0
             try have hz_hx276_1 := aM hx276_1
             replace hx276_0 := (HB.out.cell (World.block_lt_of_cell? w _ hx276_0)).trans hx276_0
             replace hx276_1 := (HB.out.cell (World.block_lt_of_cell? w _ hx276_1)).trans hx276_1
             have HR276_1 := aM hi276_1
             have HC276_1 := aM hl276_1
             clear hi276_1 hl276_1
             replace p276 := eq_true p276
             replace q276 := eq_true q276
             try go_wp2_with (((with_reducible refine gate_dst (N := 4) rfl ?_); (try (refine gate_guard (by rfl) ?_; dsimp only)); refine box_event ?hg (N := 4) ?hd (cs := #[.string (⟨#[]⟩ : ByteArray), .slice none 0 0]) (t := 102) ?hr ?_; (case hd => rfl); (case hg => rfl); (case hr => first | (go_simp; done) | (go_simp; rfl)); intro gb277 hg w53 hbox hb; have n0_ := aM (blk_below (g := gb274) (o := .cells #[.int .i64 a0_0, .slice (some ad276) l0_1.length c0_1] 33 (0, 0)) (gK BK274.out) hb); have n1_ := aM (below_step (gB HB.out) hb); have n2_ := aM (hbox); have n3_ := aM ((by rw [hg]; exact (below_size (gB HB.out)) : w.heap.size ≤ gb277)); have n4_ := aM ((by rw [hg]; exact (below_size (gB HB.out)) : w.heap.size ≤ gb277)); have n5_ := aM ((by rw [hg]; exact Nat.ne_of_lt (blk_lt (g := gb274) (o := .cells #[.int .i64 a0_0, .slice (some ad276) l0_1.length c0_1] 33 (0, 0)) (gK BK274.out)) : gb274 ≠ gb277)); have n6_ := aM ((by rw [hg]; exact Nat.ne_of_gt (blk_lt (g := gb274) (o := .cells #[.int .i64 a0_0, .slice (some ad276) l0_1.length c0_1] 33 (0, 0)) (gK BK274.out)) : gb277 ≠ gb274)); clear BK274; clear HB; have BK274 := n0_; have HB := n1_; have BK277 := n2_; have GW277 := n3_; have GE277 := n4_; have NB274_277 := n5_; have NB277_274 := n6_; clear n0_ n1_ n2_ n3_ n4_ n5_ n6_; clear hb hbox hg; have hnb54 := NB277_274.out; have hnc54 := NB274_277.out; have hcz55_0 : w53.cell? ⟨gb277, 0, none⟩ = some (.string (⟨#[]⟩ : ByteArray)) := (blk_cell BK277.out 0).trans rfl; have hcz55_1 : w53.cell? ⟨gb277, 1, none⟩ = some (.slice none 0 0) := (blk_cell BK277.out 1).trans rfl; have hfz55_0 := blk_frozen BK277.out 0; have hfz55_1 := blk_frozen BK277.out 1))
             have n0_ : Aside0 (((w53.setCell ⟨gb277, 0, none⟩ (.string ((rd_T102 l0_1 x18_2).f0))).setCell ⟨gb277, 1, none⟩ (.slice A276_1 ((rd_T102 l0_1 x18_2).f1).length c276_1)).heap[gb274]? = some (.cells #[.int .i64 a0_0, .slice (some ad276) l0_1.length c0_1] 33 (0, 0))) := ⟨by (with_reducible repeat (first | refine blk_drewN ?_ _ | refine blk_drew ?_ | refine blk_alloc ?_ _)); refine blk_far ?_ NB274_277.out _; (with_reducible repeat (first | refine blk_drewN ?_ _ | refine blk_drew ?_ | refine blk_alloc ?_ _)); refine blk_far ?_ NB274_277.out _; (with_reducible repeat (first | refine blk_drewN ?_ _ | refine blk_drew ?_ | refine blk_alloc ?_ _)); exact BK274.out⟩
             have n1_ : Aside0 (((w53.setCell ⟨gb277, 0, none⟩ (.string ((rd_T102 l0_1 x18_2).f0))).setCell ⟨gb277, 1, none⟩ (.slice A276_1 ((rd_T102 l0_1 x18_2).f1).length c276_1)).heap[gb277]? = some (.cells #[.string ((rd_T102 l0_1 x18_2).f0), .slice A276_1 ((rd_T102 l0_1 x18_2).f1).length c276_1] 102 (0, 0))) := ⟨by (with_reducible repeat (first | refine blk_drewN ?_ _ | refine blk_drew ?_ | refine blk_alloc ?_ _)); refine blk_put (cs := #[.string ((rd_T102 l0_1 x18_2).f0), .slice none 0 0]) ?_ 1 _ rfl; (with_reducible repeat (first | refine blk_drewN ?_ _ | refine blk_drew ?_ | refine blk_alloc ?_ _)); refine blk_put (cs := #[.string (⟨#[]⟩ : ByteArray), .slice none 0 0]) ?_ 0 _ rfl; (with_reducible repeat (first | refine blk_drewN ?_ _ | refine blk_drew ?_ | refine blk_alloc ?_ _)); exact BK277.out⟩
             have n2_ : Aside0 (Below w.heap.size w ((w53.setCell ⟨gb277, 0, none⟩ (.string ((rd_T102 l0_1 x18_2).f0))).setCell ⟨gb277, 1, none⟩ (.slice A276_1 ((rd_T102 l0_1 x18_2).f1).length c276_1))) := ⟨by repeat (first | (with_reducible first | exact HB.out | apply below_alloc | apply pw_below_drewN | apply below_drew1 | refine below_set ?_ GE274.out | refine below_set ?_ GE277.out) | exact HB.out)⟩
             (try clear BK274)
             (try clear BK277)
             (try clear HB)
             generalize ((w53.setCell ⟨gb277, 0, none⟩ (.string ((rd_T102 l0_1 x18_2).f0))).setCell ⟨gb277, 1, none⟩ (.slice A276_1 ((rd_T102 l0_1 x18_2).f1).length c276_1)) = w56 at n0_ n1_ n2_ ⊢
             have BK274 := n0_
             have BK277 := n1_
             have HB := n2_
             clear n0_ n1_ n2_
             have n0_ := aM (blk_drew BK274.out)
             have n1_ := aM (blk_drew BK277.out)
             have n2_ := aM (below_drew1 HB.out)
             clear BK274
             clear BK277
             clear HB
             have BK274 := n0_
             have BK277 := n1_
             have HB := n2_
             clear n0_ n1_ n2_
             refine start_ (n := 35) (S := fun w' => w'.cell? ⟨gb277, 0, none⟩ = some (.string ((rd_T102 l0_1 x18_2).f0)) ∧ w'.cell? ⟨gb277, 1, none⟩ = some (.slice A276_1 ((rd_T102 l0_1 x18_2).f1).length c276_1) ∧ w'.cell? ⟨gb274, 0, none⟩ = some (.int .i64 a0_0) ∧ w'.cell? ⟨gb274, 1, none⟩ = some (.slice (some ad276) l0_1.length c0_1)) (ds := []) (bq 35 0) (by kernel_rfl) rfl (by kernel_rfl) ⟨(blk_cell BK277.out 0).trans rfl, (blk_cell BK277.out 1).trans rfl, (blk_cell BK274.out 0).trans rfl, (blk_cell BK274.out 1).trans rfl⟩ (fun hHeld => ?_); refine with_tabW impl_GoodWords.tab6 impl_GoodWords.bits6 (fun HT_ HW_ => ?_)
             generalize w56.drew = w57 at BK274 BK277 HB hHeld ⊢
             refine pure_ (i := 0) (N := some 23) (v := ?_) (a' := ?_) (bq 35 1) rfl rfl (any_of HT_.out (by kernel_rfl)) (fun _ _ _ h => h) (Or.inl ⟨by rfl, ?_⟩) ?_ ?_; rotate_left; (intro w'; go_simp; (with_reducible rfl)); rotate_left; (simp only [Act.put, zSA, zSB, zSC, i64_w, i32_w]; rfl)
             refine take_ (i := 1) (N := some 24) (v := ?_) (a' := ?_) (bq 35 3) rfl rfl (take_ofW HT_.out HW_.out (by kernel_rfl)) (fun _ _ _ h => h) (Or.inl ⟨by rfl, ?_⟩) hHeld ?_ ?_; rotate_left; (rintro w' ⟨s0, s1, s2, s3⟩; go_simp; (with_reducible rfl)); rotate_left; (simp only [Act.put, zSA, zSB, zSC, i64_w, i32_w]; rfl)
             refine one_ (i := 2) (N := some 25) (bq 35 7) rfl rfl (one_of HT_.out (by kernel_rfl)) (by decide) (fun K hK => ?_)
             refine goes_ Try.func89 (by kernel_rfl) rfl #[.string ((rd_T102 l0_1 x18_2).f0)] (by rfl) rfl rfl (by (try simp only [List.map_toArray, List.map_cons, List.map_nil]); first | done | rfl | (simp only [List.length_drop, List.length_take]; rfl)) ?_
             with_reducible refine (impl_isWord.calls k2 ((rd_T102 l0_1 x18_2).f0) true _ A13.out).mono ?_
             rintro e w' ⟨rfl, ⟨nd, rfl⟩⟩
             refine ⟨_, rfl, ?_⟩
             refine hK.out _ _ ⟨(blk_cell BK277.out 0).trans rfl, (blk_cell BK277.out 1).trans rfl, (blk_cell BK274.out 0).trans rfl, (blk_cell BK274.out 1).trans rfl⟩ (fun hHeld => ?_)
             clear hK K
             refine norm_ (a' := ?_) ?_ ?_
             rotate_left
             ·
              show Act.put _ (some 25) _ = _
              simp only [Act.put, zSA, zSB, zSC, i64_w, i32_w]
              rfl
             refine pure_ (i := 3) (N := some 26) (v := ?_) (a' := ?_) (bq 35 15) rfl rfl (any_of HT_.out (by kernel_rfl)) (fun _ _ _ h => h) (Or.inl ⟨by rfl, ?_⟩) ?_ ?_; rotate_left; (intro w'; go_simp; (with_reducible rfl)); rotate_left; (simp only [Act.put, zSA, zSB, zSC, i64_w, i32_w]; rfl)
             refine pure_ (i := 4) (N := some 27) (v := ?_) (a' := ?_) (bq 35 31) rfl rfl (any_of HT_.out (by kernel_rfl)) (fun _ _ _ h => h) (Or.inl ⟨by rfl, ?_⟩) ?_ ?_; rotate_left; (intro w'; go_simp; (with_reducible rfl)); rotate_left; (simp only [Act.put, zSA, zSB, zSC, i64_w, i32_w]; rfl)
             refine pure_ (i := 5) (N := some 28) (v := ?_) (a' := ?_) (bq 35 63) rfl rfl (any_of HT_.out (by kernel_rfl)) (fun _ _ _ h => h) (Or.inl ⟨by rfl, ?_⟩) ?_ ?_; rotate_left; (intro w'; go_simp; (with_reducible rfl)); rotate_left; (simp only [Act.put, zSA, zSB, zSC, i64_w, i32_w]; rfl)
             refine pure_ (i := 6) (N := some 29) (v := ?_) (a' := ?_) (bq 35 127) rfl rfl (any_of HT_.out (by kernel_rfl)) (fun _ _ _ h => h) (Or.inl ⟨by rfl, ?_⟩) ?_ ?_; rotate_left; (intro w'; go_simp; (with_reducible rfl)); rotate_left; (simp only [Act.put, zSA, zSB, zSC, i64_w, i32_w]; rfl)
             refine pure_ (i := 7) (N := some 30) (v := ?_) (a' := ?_) (bq 35 255) rfl rfl (any_of HT_.out (by kernel_rfl)) (fun _ _ _ h => h) (Or.inl ⟨by rfl, ?_⟩) ?_ ?_; rotate_left; (intro w'; go_simp; (with_reducible rfl)); rotate_left; (simp only [Act.put, zSA, zSB, zSC, i64_w, i32_w]; rfl)
             refine pure_ (i := 8) (N := some 31) (v := undef) (a' := ?_) (bq 35 511) rfl rfl (any_of HT_.out (by kernel_rfl)) (fun _ _ _ h => h) (Or.inr ⟨by rfl, rfl⟩) ?_ ?_
             rotate_left
             ·
              simp only [Act.put, zSA, zSB, zSC, i64_w, i32_w]
              rfl
             refine pure_ (i := 9) (N := some 32) (v := undef) (a' := ?_) (bq 35 1023) rfl rfl (any_of HT_.out (by kernel_rfl)) (fun _ _ _ h => h) (Or.inr ⟨by rfl, rfl⟩) ?_ ?_
             rotate_left
             ·
              simp only [Act.put, zSA, zSB, zSC, i64_w, i32_w]
              rfl
             refine pure_ (i := 10) (N := some 33) (v := undef) (a' := ?_) (bq 35 2047) rfl rfl (any_of HT_.out (by kernel_rfl)) (fun _ _ _ h => h) (Or.inr ⟨by rfl, rfl⟩) ?_ ?_
             rotate_left
             ·
              simp only [Act.put, zSA, zSB, zSC, i64_w, i32_w]
              rfl
             refine pure_ (i := 11) (N := some 34) (v := undef) (a' := ?_) (bq 35 4095) rfl rfl (any_of HT_.out (by kernel_rfl)) (fun _ _ _ h => h) (Or.inr ⟨by rfl, rfl⟩) ?_ ?_
             rotate_left
             ·
              simp only [Act.put, zSA, zSB, zSC, i64_w, i32_w]
              rfl
             refine pure_ (i := 12) (N := some 35) (v := undef) (a' := ?_) (bq 35 8191) rfl rfl (any_of HT_.out (by kernel_rfl)) (fun _ _ _ h => h) (Or.inr ⟨by rfl, rfl⟩) ?_ ?_
             rotate_left
             ·
              simp only [Act.put, zSA, zSB, zSC, i64_w, i32_w]
              rfl
             refine pure_ (i := 13) (N := some 36) (v := undef) (a' := ?_) (bq 35 16383) rfl rfl (any_of HT_.out (by kernel_rfl)) (fun _ _ _ h => h) (Or.inr ⟨by rfl, rfl⟩) ?_ ?_
             rotate_left
             ·
              simp only [Act.put, zSA, zSB, zSC, i64_w, i32_w]
              rfl
             refine pure_ (i := 14) (N := some 37) (v := undef) (a' := ?_) (bq 35 32767) rfl rfl (any_of HT_.out (by kernel_rfl)) (fun _ _ _ h => h) (Or.inr ⟨by rfl, rfl⟩) ?_ ?_
             rotate_left
             ·
              simp only [Act.put, zSA, zSB, zSC, i64_w, i32_w]
              rfl
             refine pure_ (i := 15) (N := some 38) (v := undef) (a' := ?_) (bq 35 65535) rfl rfl (any_of HT_.out (by kernel_rfl)) (fun _ _ _ h => h) (Or.inr ⟨by rfl, rfl⟩) ?_ ?_
             rotate_left
             ·
              simp only [Act.put, zSA, zSB, zSC, i64_w, i32_w]
              rfl
             refine pure_ (i := 16) (N := some 39) (v := undef) (a' := ?_) (bq 35 131071) rfl rfl (any_of HT_.out (by kernel_rfl)) (fun _ _ _ h => h) (Or.inr ⟨by rfl, rfl⟩) ?_ ?_
             rotate_left
             ·
              simp only [Act.put, zSA, zSB, zSC, i64_w, i32_w]
              rfl
             refine pure_ (i := 17) (N := some 40) (v := undef) (a' := ?_) (bq 35 262143) rfl rfl (any_of HT_.out (by kernel_rfl)) (fun _ _ _ h => h) (Or.inr ⟨by rfl, rfl⟩) ?_ ?_
             rotate_left
             ·
              simp only [Act.put, zSA, zSB, zSC, i64_w, i32_w]
              rfl
             refine pure_ (i := 18) (N := some 41) (v := ?_) (a' := ?_) (bq 35 524287) rfl rfl (any_of HT_.out (by kernel_rfl)) (fun _ _ _ h => h) (Or.inl ⟨by rfl, ?_⟩) ?_ ?_; rotate_left; (intro w'; go_simp; (with_reducible rfl)); rotate_left; (simp only [Act.put, zSA, zSB, zSC, i64_w, i32_w]; rfl)
             refine pure_ (i := 19) (N := some 42) (v := ?_) (a' := ?_) (bq 35 1048575) rfl rfl (any_of HT_.out (by kernel_rfl)) (fun _ _ _ h => h) (Or.inl ⟨by rfl, ?_⟩) ?_ ?_; rotate_left; (intro w'; go_simp; (with_reducible rfl)); rotate_left; (simp only [Act.put, zSA, zSB, zSC, i64_w, i32_w]; rfl)
             refine pure_ (i := 20) (N := some 43) (v := ?_) (a' := ?_) (bq 35 2097151) rfl rfl (any_of HT_.out (by kernel_rfl)) (fun _ _ _ h => h) (Or.inl ⟨by rfl, ?_⟩) ?_ ?_; rotate_left; (intro w'; go_simp; (with_reducible rfl)); rotate_left; (simp only [Act.put, zSA, zSB, zSC, i64_w, i32_w]; rfl)
             refine pure_ (i := 21) (N := some 44) (v := ?_) (a' := ?_) (bq 35 4194303) rfl rfl (any_of HT_.out (by kernel_rfl)) (fun _ _ _ h => h) (Or.inl ⟨by rfl, ?_⟩) ?_ ?_; rotate_left; (intro w'; go_simp; (with_reducible rfl)); rotate_left; (simp only [Act.put, zSA, zSB, zSC, i64_w, i32_w]; rfl)
             refine take_ (i := 22) (N := some 45) (v := ?_) (a' := ?_) (bq 35 8388607) rfl rfl (take_ofW HT_.out HW_.out (by kernel_rfl)) (fun _ _ _ h => h) (Or.inl ⟨by rfl, ?_⟩) hHeld ?_ ?_; rotate_left; (rintro w' ⟨s0, s1, s2, s3⟩; go_simp; (with_reducible rfl)); rotate_left; (simp only [Act.put, zSA, zSB, zSC, i64_w, i32_w]; rfl)
             refine pure_ (i := 23) (N := some 46) (v := ?_) (a' := ?_) (bq 35 16777215) rfl rfl (any_of HT_.out (by kernel_rfl)) (fun _ _ _ h => h) (Or.inl ⟨by rfl, ?_⟩) ?_ ?_; rotate_left; (intro w'; go_simp; (with_reducible rfl)); rotate_left; (simp only [Act.put, zSA, zSB, zSC, i64_w, i32_w]; rfl)
             refine pure_ (i := 24) (N := some 47) (v := ?_) (a' := ?_) (bq 35 33554431) rfl rfl (any_of HT_.out (by kernel_rfl)) (fun _ _ _ h => h) (Or.inl ⟨by rfl, ?_⟩) ?_ ?_; rotate_left; (intro w'; go_simp; (with_reducible rfl)); rotate_left; (simp only [Act.put, zSA, zSB, zSC, i64_w, i32_w]; rfl)
             refine pure_ (i := 25) (N := some 48) (v := ?_) (a' := ?_) (bq 35 67108863) rfl rfl (any_of HT_.out (by kernel_rfl)) (fun _ _ _ h => h) (Or.inl ⟨by rfl, ?_⟩) ?_ ?_; rotate_left; (intro w'; go_simp; (with_reducible rfl)); rotate_left; (simp only [Act.put, zSA, zSB, zSC, i64_w, i32_w]; rfl)
             refine pure_ (i := 26) (N := some 49) (v := ?_) (a' := ?_) (bq 35 134217727) rfl rfl (any_of HT_.out (by kernel_rfl)) (fun _ _ _ h => h) (Or.inl ⟨by rfl, ?_⟩) ?_ ?_; rotate_left; (intro w'; go_simp; (with_reducible rfl)); rotate_left; (simp only [Act.put, zSA, zSB, zSC, i64_w, i32_w]; rfl)
             refine pure_ (i := 27) (N := some 50) (v := ?_) (a' := ?_) (bq 35 268435455) rfl rfl (any_of HT_.out (by kernel_rfl)) (fun _ _ _ h => h) (Or.inl ⟨by rfl, ?_⟩) ?_ ?_; rotate_left; (intro w'; go_simp; (with_reducible rfl)); rotate_left; (simp only [Act.put, zSA, zSB, zSC, i64_w, i32_w]; rfl)
             refine pure_ (i := 29) (N := some 52) (v := ?_) (a' := ?_) (bq 35 805306367) rfl rfl (any_of HT_.out (by kernel_rfl)) (fun _ _ _ h => h) (Or.inl ⟨by rfl, ?_⟩) ?_ ?_; rotate_left; (intro w'; go_simp; (with_reducible rfl)); rotate_left; (simp only [Act.put, zSA, zSB, zSC, i64_w, i32_w]; rfl)
             refine take_ (i := 28) (N := some 51) (v := ?_) (a' := ?_) (bq 35 1073741823) rfl rfl (take_ofW HT_.out HW_.out (by kernel_rfl)) (fun _ _ _ h => h) (Or.inl ⟨by rfl, ?_⟩) hHeld ?_ ?_; rotate_left; (rintro w' ⟨s0, s1, s2, s3⟩; go_simp; (with_reducible rfl)); rotate_left; (simp only [Act.put, zSA, zSB, zSC, i64_w, i32_w]; rfl)
             refine take_ (i := 30) (N := some 53) (v := ?_) (a' := ?_) (bq 35 2147483647) rfl rfl (take_ofW HT_.out HW_.out (by kernel_rfl)) (fun _ _ _ h => h) (Or.inl ⟨by rfl, ?_⟩) hHeld ?_ ?_; rotate_left; (rintro w' ⟨s0, s1, s2, s3⟩; go_simp; (with_reducible rfl)); rotate_left; (simp only [Act.put, zSA, zSB, zSC, i64_w, i32_w]; rfl)
             refine pure_ (i := 31) (N := some 54) (v := ?_) (a' := ?_) (bq 35 4294967295) rfl rfl (any_of HT_.out (by kernel_rfl)) (fun _ _ _ h => h) (Or.inl ⟨by rfl, ?_⟩) ?_ ?_; rotate_left; (intro w'; go_simp; (with_reducible rfl)); rotate_left; (simp only [Act.put, zSA, zSB, zSC, i64_w, i32_w]; rfl)
             refine one_ (i := 32) (N := some 55) (bq 35 8589934591) rfl rfl (one_of HT_.out (by kernel_rfl)) (by decide) (fun K hK => ?_)
             refine goes_ Try.func90 (by kernel_rfl) rfl #[.slice A276_1 ((rd_T102 l0_1 x18_2).f1).length c276_1, .int .i64 (wrap64 (a0_0 - 1))] (by rfl) rfl rfl (by (try simp only [List.map_toArray, List.map_cons, List.map_nil]); first | done | rfl | (simp only [List.length_drop, List.length_take]; rfl)) ?_
             with_reducible refine (impl_postingsOK.calls k2 _ _ ((rd_T102 l0_1 x18_2).f1) (wrap64 (a0_0 - 1)) true _ ?side1 ?side2 A51.out).mono ?_
             (case side1 => repeat (first | exact (Kd.C_below HR276_1.out (gB HB.out)) | (with_reducible refine Kd.C_alloc ?_ _) | (with_reducible refine Kd.C_drewN ?_ _) | (with_reducible refine Kd.C_drew ?_)))
             (case side2 => exact HC276_1.out)
             rintro e w58 ⟨rfl, hb⟩
             refine ⟨_, rfl, ?_⟩
             have n0_ := aM (blk_below (g := gb274) (o := .cells #[.int .i64 a0_0, .slice (some ad276) l0_1.length c0_1] 33 (0, 0)) (gK BK274.out) hb)
             have n1_ := aM (blk_below (g := gb277) (o := .cells #[.string ((rd_T102 l0_1 x18_2).f0), .slice A276_1 ((rd_T102 l0_1 x18_2).f1).length c276_1] 102 (0, 0)) (gK BK277.out) hb)
             have n2_ := aM (below_step (gB HB.out) hb)
             clear BK274
             clear BK277
             clear HB
             have BK274 := n0_
             have BK277 := n1_
             have HB := n2_
             clear n0_ n1_ n2_
             (try clear hb)
             (try clear hb2)
             (try clear hk)
             (try clear hi)
             refine hK.out _ _ ⟨(blk_cell BK277.out 0).trans rfl, (blk_cell BK277.out 1).trans rfl, (blk_cell BK274.out 0).trans rfl, (blk_cell BK274.out 1).trans rfl⟩ (fun hHeld => ?_)
             clear hK K
             refine norm_ (a' := ?_) ?_ ?_
             rotate_left
             ·
              show Act.put _ (some 55) _ = _
              simp only [Act.put, zSA, zSB, zSC, i64_w, i32_w]
              rfl
             refine pure_ (i := 33) (N := some 56) (v := ?_) (a' := ?_) (bq 35 17179869183) rfl rfl (any_of HT_.out (by kernel_rfl)) (fun _ _ _ h => h) (Or.inl ⟨by rfl, ?_⟩) ?_ ?_; rotate_left; (intro w'; go_simp; (with_reducible rfl)); rotate_left; (simp only [Act.put, zSA, zSB, zSC, i64_w, i32_w]; rfl)
             refine pure_ (i := 34) (N := some 57) (v := ?_) (a' := ?_) (bq 35 34359738367) rfl rfl (any_of HT_.out (by kernel_rfl)) (fun _ _ _ h => h) (Or.inl ⟨by rfl, ?_⟩) ?_ ?_; rotate_left; (intro w'; go_simp; (with_reducible rfl)); rotate_left; (simp only [Act.put, zSA, zSB, zSC, i64_w, i32_w]; rfl)
             refine done_ (done_of HT_.out (by kernel_rfl)) ?_
             try go_wp2
             go_roundg k2
             case measure => have := HJ1.out; have := HK2.out; omega
             case rel => exact ⟨(wrap64 (x18_2 + 1)), (by first | rfl | (simp; done) | (simp [*]; done)), H', ⟨by have := HJ1.out; have := HK2.out; omega⟩, ⟨gK BK274.out⟩, ⟨by repeat (first | (with_reducible first | exact HB.out | apply below_alloc | apply pw_below_drewN | apply below_drew1 | refine below_set ?_ GE274.out | refine below_set ?_ GE277.out) | exact HB.out)⟩⟩
            ·
             replace c52 := Bool.eq_false_iff.mpr c52
             subst c52
             have H1 : (some false) = some r := by rw [if_neg (show ¬ (false = true) by decide)] at H; exact H
             clear H
             have H := H1
             clear H1
             obtain rfl := Option.some.inj H
             have p276 : 0 ≤ (x18_2 : Int) := of_decide_eq_true (by first | (with_reducible assumption) | assumption)
             have q276 : x18_2 < (l0_1.length : Int) := of_decide_eq_true (by first | (with_reducible assumption) | assumption)
             obtain ⟨ad276, A276_1, c276_1, e276, hx276_0, hx276_1, hl276_1, hi276_1⟩ := at_T102 HR0_1.out x18_2 p276 q276
             cases e276
             try have hz_hx276_0 := aM hx276_0
             try have hz_hx276_1 := aM hx276_1
             replace hx276_0 := (HB.out.cell (World.block_lt_of_cell? w _ hx276_0)).trans hx276_0
             replace hx276_1 := (HB.out.cell (World.block_lt_of_cell? w _ hx276_1)).trans hx276_1
             have HR276_1 := aM hi276_1
             have HC276_1 := aM hl276_1
             clear hi276_1 hl276_1
             replace p276 := eq_true p276
             replace q276 := eq_true q276
             try go_wp2_with (((with_reducible refine gate_dst (N := 4) rfl ?_); (try (refine gate_guard (by rfl) ?_; dsimp only)); refine box_event ?hg (N := 4) ?hd (cs := #[.string (⟨#[]⟩ : ByteArray), .slice none 0 0]) (t := 102) ?hr ?_; (case hd => rfl); (case hg => rfl); (case hr => first | (go_simp; done) | (go_simp; rfl)); intro gb277 hg w59 hbox hb; have n0_ := aM (blk_below (g := gb274) (o := .cells #[.int .i64 a0_0, .slice (some ad276) l0_1.length c0_1] 33 (0, 0)) (gK BK274.out) hb); have n1_ := aM (below_step (gB HB.out) hb); have n2_ := aM (hbox); have n3_ := aM ((by rw [hg]; exact (below_size (gB HB.out)) : w.heap.size ≤ gb277)); have n4_ := aM ((by rw [hg]; exact (below_size (gB HB.out)) : w.heap.size ≤ gb277)); have n5_ := aM ((by rw [hg]; exact Nat.ne_of_lt (blk_lt (g := gb274) (o := .cells #[.int .i64 a0_0, .slice (some ad276) l0_1.length c0_1] 33 (0, 0)) (gK BK274.out)) : gb274 ≠ gb277)); have n6_ := aM ((by rw [hg]; exact Nat.ne_of_gt (blk_lt (g := gb274) (o := .cells #[.int .i64 a0_0, .slice (some ad276) l0_1.length c0_1] 33 (0, 0)) (gK BK274.out)) : gb277 ≠ gb274)); clear BK274; clear HB; have BK274 := n0_; have HB := n1_; have BK277 := n2_; have GW277 := n3_; have GE277 := n4_; have NB274_277 := n5_; have NB277_274 := n6_; clear n0_ n1_ n2_ n3_ n4_ n5_ n6_; clear hb hbox hg; have hnb60 := NB277_274.out; have hnc60 := NB274_277.out; have hcz61_0 : w59.cell? ⟨gb277, 0, none⟩ = some (.string (⟨#[]⟩ : ByteArray)) := (blk_cell BK277.out 0).trans rfl; have hcz61_1 : w59.cell? ⟨gb277, 1, none⟩ = some (.slice none 0 0) := (blk_cell BK277.out 1).trans rfl; have hfz61_0 := blk_frozen BK277.out 0; have hfz61_1 := blk_frozen BK277.out 1))
             have n0_ : Aside0 (((w59.setCell ⟨gb277, 0, none⟩ (.string ((rd_T102 l0_1 x18_2).f0))).setCell ⟨gb277, 1, none⟩ (.slice A276_1 ((rd_T102 l0_1 x18_2).f1).length c276_1)).heap[gb274]? = some (.cells #[.int .i64 a0_0, .slice (some ad276) l0_1.length c0_1] 33 (0, 0))) := ⟨by (with_reducible repeat (first | refine blk_drewN ?_ _ | refine blk_drew ?_ | refine blk_alloc ?_ _)); refine blk_far ?_ NB274_277.out _; (with_reducible repeat (first | refine blk_drewN ?_ _ | refine blk_drew ?_ | refine blk_alloc ?_ _)); refine blk_far ?_ NB274_277.out _; (with_reducible repeat (first | refine blk_drewN ?_ _ | refine blk_drew ?_ | refine blk_alloc ?_ _)); exact BK274.out⟩
             have n1_ : Aside0 (((w59.setCell ⟨gb277, 0, none⟩ (.string ((rd_T102 l0_1 x18_2).f0))).setCell ⟨gb277, 1, none⟩ (.slice A276_1 ((rd_T102 l0_1 x18_2).f1).length c276_1)).heap[gb277]? = some (.cells #[.string ((rd_T102 l0_1 x18_2).f0), .slice A276_1 ((rd_T102 l0_1 x18_2).f1).length c276_1] 102 (0, 0))) := ⟨by (with_reducible repeat (first | refine blk_drewN ?_ _ | refine blk_drew ?_ | refine blk_alloc ?_ _)); refine blk_put (cs := #[.string ((rd_T102 l0_1 x18_2).f0), .slice none 0 0]) ?_ 1 _ rfl; (with_reducible repeat (first | refine blk_drewN ?_ _ | refine blk_drew ?_ | refine blk_alloc ?_ _)); refine blk_put (cs := #[.string (⟨#[]⟩ : ByteArray), .slice none 0 0]) ?_ 0 _ rfl; (with_reducible repeat (first | refine blk_drewN ?_ _ | refine blk_drew ?_ | refine blk_alloc ?_ _)); exact BK277.out⟩
             have n2_ : Aside0 (Below w.heap.size w ((w59.setCell ⟨gb277, 0, none⟩ (.string ((rd_T102 l0_1 x18_2).f0))).setCell ⟨gb277, 1, none⟩ (.slice A276_1 ((rd_T102 l0_1 x18_2).f1).length c276_1))) := ⟨by repeat (first | (with_reducible first | exact HB.out | apply below_alloc | apply pw_below_drewN | apply below_drew1 | refine below_set ?_ GE274.out | refine below_set ?_ GE277.out) | exact HB.out)⟩
             (try clear BK274)
             (try clear BK277)
             (try clear HB)
             generalize ((w59.setCell ⟨gb277, 0, none⟩ (.string ((rd_T102 l0_1 x18_2).f0))).setCell ⟨gb277, 1, none⟩ (.slice A276_1 ((rd_T102 l0_1 x18_2).f1).length c276_1)) = w62 at n0_ n1_ n2_ ⊢
             have BK274 := n0_
             have BK277 := n1_
             have HB := n2_
             clear n0_ n1_ n2_
             have n0_ := aM (blk_drew BK274.out)
             have n1_ := aM (blk_drew BK277.out)
             have n2_ := aM (below_drew1 HB.out)
             clear BK274
             clear BK277
             clear HB
             have BK274 := n0_
             have BK277 := n1_
             have HB := n2_
             clear n0_ n1_ n2_
             refine start_ (n := 35) (S := fun w' => w'.cell? ⟨gb277, 0, none⟩ = some (.string ((rd_T102 l0_1 x18_2).f0)) ∧ w'.cell? ⟨gb277, 1, none⟩ = some (.slice A276_1 ((rd_T102 l0_1 x18_2).f1).length c276_1) ∧ w'.cell? ⟨gb274, 0, none⟩ = some (.int .i64 a0_0) ∧ w'.cell? ⟨gb274, 1, none⟩ = some (.slice (some ad276) l0_1.length c0_1)) (ds := []) (bq 35 0) (by kernel_rfl) rfl (by kernel_rfl) ⟨(blk_cell BK277.out 0).trans rfl, (blk_cell BK277.out 1).trans rfl, (blk_cell BK274.out 0).trans rfl, (blk_cell BK274.out 1).trans rfl⟩ (fun hHeld => ?_); refine with_tabW impl_GoodWords.tab6 impl_GoodWords.bits6 (fun HT_ HW_ => ?_)
             generalize w62.drew = w63 at BK274 BK277 HB hHeld ⊢
             refine pure_ (i := 0) (N := some 23) (v := ?_) (a' := ?_) (bq 35 1) rfl rfl (any_of HT_.out (by kernel_rfl)) (fun _ _ _ h => h) (Or.inl ⟨by rfl, ?_⟩) ?_ ?_; rotate_left; (intro w'; go_simp; (with_reducible rfl)); rotate_left; (simp only [Act.put, zSA, zSB, zSC, i64_w, i32_w]; rfl)
             refine take_ (i := 1) (N := some 24) (v := ?_) (a' := ?_) (bq 35 3) rfl rfl (take_ofW HT_.out HW_.out (by kernel_rfl)) (fun _ _ _ h => h) (Or.inl ⟨by rfl, ?_⟩) hHeld ?_ ?_; rotate_left; (rintro w' ⟨s0, s1, s2, s3⟩; go_simp; (with_reducible rfl)); rotate_left; (simp only [Act.put, zSA, zSB, zSC, i64_w, i32_w]; rfl)
             refine one_ (i := 2) (N := some 25) (bq 35 7) rfl rfl (one_of HT_.out (by kernel_rfl)) (by decide) (fun K hK => ?_)
             refine goes_ Try.func89 (by kernel_rfl) rfl #[.string ((rd_T102 l0_1 x18_2).f0)] (by rfl) rfl rfl (by (try simp only [List.map_toArray, List.map_cons, List.map_nil]); first | done | rfl | (simp only [List.length_drop, List.length_take]; rfl)) ?_
             with_reducible refine (impl_isWord.calls k2 ((rd_T102 l0_1 x18_2).f0) true _ A13.out).mono ?_
             rintro e w' ⟨rfl, ⟨nd, rfl⟩⟩
             refine ⟨_, rfl, ?_⟩
             refine hK.out _ _ ⟨(blk_cell BK277.out 0).trans rfl, (blk_cell BK277.out 1).trans rfl, (blk_cell BK274.out 0).trans rfl, (blk_cell BK274.out 1).trans rfl⟩ (fun hHeld => ?_)
             clear hK K
             refine norm_ (a' := ?_) ?_ ?_
             rotate_left
             ·
              show Act.put _ (some 25) _ = _
              simp only [Act.put, zSA, zSB, zSC, i64_w, i32_w]
              rfl
             refine pure_ (i := 3) (N := some 26) (v := ?_) (a' := ?_) (bq 35 15) rfl rfl (any_of HT_.out (by kernel_rfl)) (fun _ _ _ h => h) (Or.inl ⟨by rfl, ?_⟩) ?_ ?_; rotate_left; (intro w'; go_simp; (with_reducible rfl)); rotate_left; (simp only [Act.put, zSA, zSB, zSC, i64_w, i32_w]; rfl)
             refine pure_ (i := 4) (N := some 27) (v := ?_) (a' := ?_) (bq 35 31) rfl rfl (any_of HT_.out (by kernel_rfl)) (fun _ _ _ h => h) (Or.inl ⟨by rfl, ?_⟩) ?_ ?_; rotate_left; (intro w'; go_simp; (with_reducible rfl)); rotate_left; (simp only [Act.put, zSA, zSB, zSC, i64_w, i32_w]; rfl)
             refine pure_ (i := 5) (N := some 28) (v := ?_) (a' := ?_) (bq 35 63) rfl rfl (any_of HT_.out (by kernel_rfl)) (fun _ _ _ h => h) (Or.inl ⟨by rfl, ?_⟩) ?_ ?_; rotate_left; (intro w'; go_simp; (with_reducible rfl)); rotate_left; (simp only [Act.put, zSA, zSB, zSC, i64_w, i32_w]; rfl)
             refine pure_ (i := 6) (N := some 29) (v := ?_) (a' := ?_) (bq 35 127) rfl rfl (any_of HT_.out (by kernel_rfl)) (fun _ _ _ h => h) (Or.inl ⟨by rfl, ?_⟩) ?_ ?_; rotate_left; (intro w'; go_simp; (with_reducible rfl)); rotate_left; (simp only [Act.put, zSA, zSB, zSC, i64_w, i32_w]; rfl)
             refine pure_ (i := 7) (N := some 30) (v := ?_) (a' := ?_) (bq 35 255) rfl rfl (any_of HT_.out (by kernel_rfl)) (fun _ _ _ h => h) (Or.inl ⟨by rfl, ?_⟩) ?_ ?_; rotate_left; (intro w'; go_simp; (with_reducible rfl)); rotate_left; (simp only [Act.put, zSA, zSB, zSC, i64_w, i32_w]; rfl)
             refine pure_ (i := 8) (N := some 31) (v := undef) (a' := ?_) (bq 35 511) rfl rfl (any_of HT_.out (by kernel_rfl)) (fun _ _ _ h => h) (Or.inr ⟨by rfl, rfl⟩) ?_ ?_
             rotate_left
             ·
              simp only [Act.put, zSA, zSB, zSC, i64_w, i32_w]
              rfl
             refine pure_ (i := 9) (N := some 32) (v := undef) (a' := ?_) (bq 35 1023) rfl rfl (any_of HT_.out (by kernel_rfl)) (fun _ _ _ h => h) (Or.inr ⟨by rfl, rfl⟩) ?_ ?_
             rotate_left
             ·
              simp only [Act.put, zSA, zSB, zSC, i64_w, i32_w]
              rfl
             refine pure_ (i := 10) (N := some 33) (v := undef) (a' := ?_) (bq 35 2047) rfl rfl (any_of HT_.out (by kernel_rfl)) (fun _ _ _ h => h) (Or.inr ⟨by rfl, rfl⟩) ?_ ?_
             rotate_left
             ·
              simp only [Act.put, zSA, zSB, zSC, i64_w, i32_w]
              rfl
             refine pure_ (i := 11) (N := some 34) (v := undef) (a' := ?_) (bq 35 4095) rfl rfl (any_of HT_.out (by kernel_rfl)) (fun _ _ _ h => h) (Or.inr ⟨by rfl, rfl⟩) ?_ ?_
             rotate_left
             ·
              simp only [Act.put, zSA, zSB, zSC, i64_w, i32_w]
              rfl
             refine pure_ (i := 12) (N := some 35) (v := undef) (a' := ?_) (bq 35 8191) rfl rfl (any_of HT_.out (by kernel_rfl)) (fun _ _ _ h => h) (Or.inr ⟨by rfl, rfl⟩) ?_ ?_
             rotate_left
             ·
              simp only [Act.put, zSA, zSB, zSC, i64_w, i32_w]
              rfl
             refine pure_ (i := 13) (N := some 36) (v := undef) (a' := ?_) (bq 35 16383) rfl rfl (any_of HT_.out (by kernel_rfl)) (fun _ _ _ h => h) (Or.inr ⟨by rfl, rfl⟩) ?_ ?_
             rotate_left
             ·
              simp only [Act.put, zSA, zSB, zSC, i64_w, i32_w]
              rfl
             refine pure_ (i := 14) (N := some 37) (v := undef) (a' := ?_) (bq 35 32767) rfl rfl (any_of HT_.out (by kernel_rfl)) (fun _ _ _ h => h) (Or.inr ⟨by rfl, rfl⟩) ?_ ?_
             rotate_left
             ·
              simp only [Act.put, zSA, zSB, zSC, i64_w, i32_w]
              rfl
             refine pure_ (i := 15) (N := some 38) (v := undef) (a' := ?_) (bq 35 65535) rfl rfl (any_of HT_.out (by kernel_rfl)) (fun _ _ _ h => h) (Or.inr ⟨by rfl, rfl⟩) ?_ ?_
             rotate_left
             ·
              simp only [Act.put, zSA, zSB, zSC, i64_w, i32_w]
              rfl
             refine pure_ (i := 16) (N := some 39) (v := undef) (a' := ?_) (bq 35 131071) rfl rfl (any_of HT_.out (by kernel_rfl)) (fun _ _ _ h => h) (Or.inr ⟨by rfl, rfl⟩) ?_ ?_
             rotate_left
             ·
              simp only [Act.put, zSA, zSB, zSC, i64_w, i32_w]
              rfl
             refine pure_ (i := 17) (N := some 40) (v := undef) (a' := ?_) (bq 35 262143) rfl rfl (any_of HT_.out (by kernel_rfl)) (fun _ _ _ h => h) (Or.inr ⟨by rfl, rfl⟩) ?_ ?_
             rotate_left
             ·
              simp only [Act.put, zSA, zSB, zSC, i64_w, i32_w]
              rfl
             refine pure_ (i := 18) (N := some 41) (v := ?_) (a' := ?_) (bq 35 524287) rfl rfl (any_of HT_.out (by kernel_rfl)) (fun _ _ _ h => h) (Or.inl ⟨by rfl, ?_⟩) ?_ ?_; rotate_left; (intro w'; go_simp; (with_reducible rfl)); rotate_left; (simp only [Act.put, zSA, zSB, zSC, i64_w, i32_w]; rfl)
             refine pure_ (i := 19) (N := some 42) (v := ?_) (a' := ?_) (bq 35 1048575) rfl rfl (any_of HT_.out (by kernel_rfl)) (fun _ _ _ h => h) (Or.inl ⟨by rfl, ?_⟩) ?_ ?_; rotate_left; (intro w'; go_simp; (with_reducible rfl)); rotate_left; (simp only [Act.put, zSA, zSB, zSC, i64_w, i32_w]; rfl)
             refine pure_ (i := 20) (N := some 43) (v := ?_) (a' := ?_) (bq 35 2097151) rfl rfl (any_of HT_.out (by kernel_rfl)) (fun _ _ _ h => h) (Or.inl ⟨by rfl, ?_⟩) ?_ ?_; rotate_left; (intro w'; go_simp; (with_reducible rfl)); rotate_left; (simp only [Act.put, zSA, zSB, zSC, i64_w, i32_w]; rfl)
             refine pure_ (i := 21) (N := some 44) (v := ?_) (a' := ?_) (bq 35 4194303) rfl rfl (any_of HT_.out (by kernel_rfl)) (fun _ _ _ h => h) (Or.inl ⟨by rfl, ?_⟩) ?_ ?_; rotate_left; (intro w'; go_simp; (with_reducible rfl)); rotate_left; (simp only [Act.put, zSA, zSB, zSC, i64_w, i32_w]; rfl)
             refine take_ (i := 22) (N := some 45) (v := ?_) (a' := ?_) (bq 35 8388607) rfl rfl (take_ofW HT_.out HW_.out (by kernel_rfl)) (fun _ _ _ h => h) (Or.inl ⟨by rfl, ?_⟩) hHeld ?_ ?_; rotate_left; (rintro w' ⟨s0, s1, s2, s3⟩; go_simp; (with_reducible rfl)); rotate_left; (simp only [Act.put, zSA, zSB, zSC, i64_w, i32_w]; rfl)
             refine pure_ (i := 23) (N := some 46) (v := ?_) (a' := ?_) (bq 35 16777215) rfl rfl (any_of HT_.out (by kernel_rfl)) (fun _ _ _ h => h) (Or.inl ⟨by rfl, ?_⟩) ?_ ?_; rotate_left; (intro w'; go_simp; (with_reducible rfl)); rotate_left; (simp only [Act.put, zSA, zSB, zSC, i64_w, i32_w]; rfl)
             refine pure_ (i := 24) (N := some 47) (v := ?_) (a' := ?_) (bq 35 33554431) rfl rfl (any_of HT_.out (by kernel_rfl)) (fun _ _ _ h => h) (Or.inl ⟨by rfl, ?_⟩) ?_ ?_; rotate_left; (intro w'; go_simp; (with_reducible rfl)); rotate_left; (simp only [Act.put, zSA, zSB, zSC, i64_w, i32_w]; rfl)
             refine pure_ (i := 25) (N := some 48) (v := ?_) (a' := ?_) (bq 35 67108863) rfl rfl (any_of HT_.out (by kernel_rfl)) (fun _ _ _ h => h) (Or.inl ⟨by rfl, ?_⟩) ?_ ?_; rotate_left; (intro w'; go_simp; (with_reducible rfl)); rotate_left; (simp only [Act.put, zSA, zSB, zSC, i64_w, i32_w]; rfl)
             refine pure_ (i := 26) (N := some 49) (v := ?_) (a' := ?_) (bq 35 134217727) rfl rfl (any_of HT_.out (by kernel_rfl)) (fun _ _ _ h => h) (Or.inl ⟨by rfl, ?_⟩) ?_ ?_; rotate_left; (intro w'; go_simp; (with_reducible rfl)); rotate_left; (simp only [Act.put, zSA, zSB, zSC, i64_w, i32_w]; rfl)
             refine pure_ (i := 27) (N := some 50) (v := ?_) (a' := ?_) (bq 35 268435455) rfl rfl (any_of HT_.out (by kernel_rfl)) (fun _ _ _ h => h) (Or.inl ⟨by rfl, ?_⟩) ?_ ?_; rotate_left; (intro w'; go_simp; (with_reducible rfl)); rotate_left; (simp only [Act.put, zSA, zSB, zSC, i64_w, i32_w]; rfl)
             refine pure_ (i := 29) (N := some 52) (v := ?_) (a' := ?_) (bq 35 805306367) rfl rfl (any_of HT_.out (by kernel_rfl)) (fun _ _ _ h => h) (Or.inl ⟨by rfl, ?_⟩) ?_ ?_; rotate_left; (intro w'; go_simp; (with_reducible rfl)); rotate_left; (simp only [Act.put, zSA, zSB, zSC, i64_w, i32_w]; rfl)
             refine take_ (i := 28) (N := some 51) (v := ?_) (a' := ?_) (bq 35 1073741823) rfl rfl (take_ofW HT_.out HW_.out (by kernel_rfl)) (fun _ _ _ h => h) (Or.inl ⟨by rfl, ?_⟩) hHeld ?_ ?_; rotate_left; (rintro w' ⟨s0, s1, s2, s3⟩; go_simp; (with_reducible rfl)); rotate_left; (simp only [Act.put, zSA, zSB, zSC, i64_w, i32_w]; rfl)
             refine take_ (i := 30) (N := some 53) (v := ?_) (a' := ?_) (bq 35 2147483647) rfl rfl (take_ofW HT_.out HW_.out (by kernel_rfl)) (fun _ _ _ h => h) (Or.inl ⟨by rfl, ?_⟩) hHeld ?_ ?_; rotate_left; (rintro w' ⟨s0, s1, s2, s3⟩; go_simp; (with_reducible rfl)); rotate_left; (simp only [Act.put, zSA, zSB, zSC, i64_w, i32_w]; rfl)
             refine pure_ (i := 31) (N := some 54) (v := ?_) (a' := ?_) (bq 35 4294967295) rfl rfl (any_of HT_.out (by kernel_rfl)) (fun _ _ _ h => h) (Or.inl ⟨by rfl, ?_⟩) ?_ ?_; rotate_left; (intro w'; go_simp; (with_reducible rfl)); rotate_left; (simp only [Act.put, zSA, zSB, zSC, i64_w, i32_w]; rfl)
             refine one_ (i := 32) (N := some 55) (bq 35 8589934591) rfl rfl (one_of HT_.out (by kernel_rfl)) (by decide) (fun K hK => ?_)
             refine goes_ Try.func90 (by kernel_rfl) rfl #[.slice A276_1 ((rd_T102 l0_1 x18_2).f1).length c276_1, .int .i64 (wrap64 (a0_0 - 1))] (by rfl) rfl rfl (by (try simp only [List.map_toArray, List.map_cons, List.map_nil]); first | done | rfl | (simp only [List.length_drop, List.length_take]; rfl)) ?_
             with_reducible refine (impl_postingsOK.calls k2 _ _ ((rd_T102 l0_1 x18_2).f1) (wrap64 (a0_0 - 1)) false _ ?side1 ?side2 A51.out).mono ?_
             (case side1 => repeat (first | exact (Kd.C_below HR276_1.out (gB HB.out)) | (with_reducible refine Kd.C_alloc ?_ _) | (with_reducible refine Kd.C_drewN ?_ _) | (with_reducible refine Kd.C_drew ?_)))
             (case side2 => exact HC276_1.out)
             rintro e w64 ⟨rfl, hb⟩
             refine ⟨_, rfl, ?_⟩
             have n0_ := aM (blk_below (g := gb274) (o := .cells #[.int .i64 a0_0, .slice (some ad276) l0_1.length c0_1] 33 (0, 0)) (gK BK274.out) hb)
             have n1_ := aM (blk_below (g := gb277) (o := .cells #[.string ((rd_T102 l0_1 x18_2).f0), .slice A276_1 ((rd_T102 l0_1 x18_2).f1).length c276_1] 102 (0, 0)) (gK BK277.out) hb)
             have n2_ := aM (below_step (gB HB.out) hb)
             clear BK274
             clear BK277
             clear HB
             have BK274 := n0_
             have BK277 := n1_
             have HB := n2_
             clear n0_ n1_ n2_
             (try clear hb)
             (try clear hb2)
             (try clear hk)
             (try clear hi)
             refine hK.out _ _ ⟨(blk_cell BK277.out 0).trans rfl, (blk_cell BK277.out 1).trans rfl, (blk_cell BK274.out 0).trans rfl, (blk_cell BK274.out 1).trans rfl⟩ (fun hHeld => ?_)
             clear hK K
             refine norm_ (a' := ?_) ?_ ?_
             rotate_left
             ·
              show Act.put _ (some 55) _ = _
              simp only [Act.put, zSA, zSB, zSC, i64_w, i32_w]
              rfl
             refine pure_ (i := 33) (N := some 56) (v := ?_) (a' := ?_) (bq 35 17179869183) rfl rfl (any_of HT_.out (by kernel_rfl)) (fun _ _ _ h => h) (Or.inl ⟨by rfl, ?_⟩) ?_ ?_; rotate_left; (intro w'; go_simp; (with_reducible rfl)); rotate_left; (simp only [Act.put, zSA, zSB, zSC, i64_w, i32_w]; rfl)
             refine pure_ (i := 34) (N := some 57) (v := ?_) (a' := ?_) (bq 35 34359738367) rfl rfl (any_of HT_.out (by kernel_rfl)) (fun _ _ _ h => h) (Or.inl ⟨by rfl, ?_⟩) ?_ ?_; rotate_left; (intro w'; go_simp; (with_reducible rfl)); rotate_left; (simp only [Act.put, zSA, zSB, zSC, i64_w, i32_w]; rfl)
             refine done_ (done_of HT_.out (by kernel_rfl)) ?_
             try go_wp2
             go_ret
             exact ⟨by first | rfl | (simp [errW_none, errW_some] <;> rfl) | (simp [*, errW_none, errW_some] <;> rfl), by repeat (first | (with_reducible first | exact HB.out | apply below_alloc | apply pw_below_drewN | apply below_drew1 | refine below_set ?_ GE274.out | refine below_set ?_ GE277.out) | exact HB.out)⟩
         ·
          replace c14 := Bool.eq_false_iff.mpr c14
          subst c14
          have H1 : (some false) = some r := by rw [if_neg (show ¬ (false = true) by decide)] at H; exact H
          clear H
          have H := H1
          clear H1
          obtain rfl := Option.some.inj H
          have p276 : 0 ≤ (x18_2 : Int) := of_decide_eq_true (by first | (with_reducible assumption) | assumption)
          have q276 : x18_2 < (l0_1.length : Int) := of_decide_eq_true (by first | (with_reducible assumption) | assumption)
          obtain ⟨ad276, A276_1, c276_1, e276, hx276_0, hx276_1, hl276_1, hi276_1⟩ := at_T102 HR0_1.out x18_2 p276 q276
          cases e276
          try have hz_hx276_0 := aM hx276_0
          try have hz_hx276_1 := aM hx276_1
          replace hx276_0 := (HB.out.cell (World.block_lt_of_cell? w _ hx276_0)).trans hx276_0
          replace hx276_1 := (HB.out.cell (World.block_lt_of_cell? w _ hx276_1)).trans hx276_1
          have HR276_1 := aM hi276_1
          have HC276_1 := aM hl276_1
          clear hi276_1 hl276_1
          replace p276 := eq_true p276
          replace q276 := eq_true q276
          try go_wp2_with (((with_reducible refine gate_dst (N := 4) rfl ?_); (try (refine gate_guard (by rfl) ?_; dsimp only)); refine box_event ?hg (N := 4) ?hd (cs := #[.string (⟨#[]⟩ : ByteArray), .slice none 0 0]) (t := 102) ?hr ?_; (case hd => rfl); (case hg => rfl); (case hr => first | (go_simp; done) | (go_simp; rfl)); intro gb277 hg w65 hbox hb; have n0_ := aM (blk_below (g := gb274) (o := .cells #[.int .i64 a0_0, .slice (some ad276) l0_1.length c0_1] 33 (0, 0)) (gK BK274.out) hb); have n1_ := aM (below_step (gB HB.out) hb); have n2_ := aM (hbox); have n3_ := aM ((by rw [hg]; exact (below_size (gB HB.out)) : w.heap.size ≤ gb277)); have n4_ := aM ((by rw [hg]; exact (below_size (gB HB.out)) : w.heap.size ≤ gb277)); have n5_ := aM ((by rw [hg]; exact Nat.ne_of_lt (blk_lt (g := gb274) (o := .cells #[.int .i64 a0_0, .slice (some ad276) l0_1.length c0_1] 33 (0, 0)) (gK BK274.out)) : gb274 ≠ gb277)); have n6_ := aM ((by rw [hg]; exact Nat.ne_of_gt (blk_lt (g := gb274) (o := .cells #[.int .i64 a0_0, .slice (some ad276) l0_1.length c0_1] 33 (0, 0)) (gK BK274.out)) : gb277 ≠ gb274)); clear BK274; clear HB; have BK274 := n0_; have HB := n1_; have BK277 := n2_; have GW277 := n3_; have GE277 := n4_; have NB274_277 := n5_; have NB277_274 := n6_; clear n0_ n1_ n2_ n3_ n4_ n5_ n6_; clear hb hbox hg; have hnb66 := NB277_274.out; have hnc66 := NB274_277.out; have hcz67_0 : w65.cell? ⟨gb277, 0, none⟩ = some (.string (⟨#[]⟩ : ByteArray)) := (blk_cell BK277.out 0).trans rfl; have hcz67_1 : w65.cell? ⟨gb277, 1, none⟩ = some (.slice none 0 0) := (blk_cell BK277.out 1).trans rfl; have hfz67_0 := blk_frozen BK277.out 0; have hfz67_1 := blk_frozen BK277.out 1))
          have n0_ : Aside0 (((w65.setCell ⟨gb277, 0, none⟩ (.string ((rd_T102 l0_1 x18_2).f0))).setCell ⟨gb277, 1, none⟩ (.slice A276_1 ((rd_T102 l0_1 x18_2).f1).length c276_1)).heap[gb274]? = some (.cells #[.int .i64 a0_0, .slice (some ad276) l0_1.length c0_1] 33 (0, 0))) := ⟨by (with_reducible repeat (first | refine blk_drewN ?_ _ | refine blk_drew ?_ | refine blk_alloc ?_ _)); refine blk_far ?_ NB274_277.out _; (with_reducible repeat (first | refine blk_drewN ?_ _ | refine blk_drew ?_ | refine blk_alloc ?_ _)); refine blk_far ?_ NB274_277.out _; (with_reducible repeat (first | refine blk_drewN ?_ _ | refine blk_drew ?_ | refine blk_alloc ?_ _)); exact BK274.out⟩
          have n1_ : Aside0 (((w65.setCell ⟨gb277, 0, none⟩ (.string ((rd_T102 l0_1 x18_2).f0))).setCell ⟨gb277, 1, none⟩ (.slice A276_1 ((rd_T102 l0_1 x18_2).f1).length c276_1)).heap[gb277]? = some (.cells #[.string ((rd_T102 l0_1 x18_2).f0), .slice A276_1 ((rd_T102 l0_1 x18_2).f1).length c276_1] 102 (0, 0))) := ⟨by (with_reducible repeat (first | refine blk_drewN ?_ _ | refine blk_drew ?_ | refine blk_alloc ?_ _)); refine blk_put (cs := #[.string ((rd_T102 l0_1 x18_2).f0), .slice none 0 0]) ?_ 1 _ rfl; (with_reducible repeat (first | refine blk_drewN ?_ _ | refine blk_drew ?_ | refine blk_alloc ?_ _)); refine blk_put (cs := #[.string (⟨#[]⟩ : ByteArray), .slice none 0 0]) ?_ 0 _ rfl; (with_reducible repeat (first | refine blk_drewN ?_ _ | refine blk_drew ?_ | refine blk_alloc ?_ _)); exact BK277.out⟩
          have n2_ : Aside0 (Below w.heap.size w ((w65.setCell ⟨gb277, 0, none⟩ (.string ((rd_T102 l0_1 x18_2).f0))).setCell ⟨gb277, 1, none⟩ (.slice A276_1 ((rd_T102 l0_1 x18_2).f1).length c276_1))) := ⟨by repeat (first | (with_reducible first | exact HB.out | apply below_alloc | apply pw_below_drewN | apply below_drew1 | refine below_set ?_ GE274.out | refine below_set ?_ GE277.out) | exact HB.out)⟩
          (try clear BK274)
          (try clear BK277)
          (try clear HB)
          generalize ((w65.setCell ⟨gb277, 0, none⟩ (.string ((rd_T102 l0_1 x18_2).f0))).setCell ⟨gb277, 1, none⟩ (.slice A276_1 ((rd_T102 l0_1 x18_2).f1).length c276_1)) = w68 at n0_ n1_ n2_ ⊢
          have BK274 := n0_
          have BK277 := n1_
          have HB := n2_
          clear n0_ n1_ n2_
          have n0_ := aM (blk_drew BK274.out)
          have n1_ := aM (blk_drew BK277.out)
          have n2_ := aM (below_drew1 HB.out)
          clear BK274
          clear BK277
          clear HB
          have BK274 := n0_
          have BK277 := n1_
          have HB := n2_
          clear n0_ n1_ n2_
          refine start_ (n := 35) (S := fun w' => w'.cell? ⟨gb277, 0, none⟩ = some (.string ((rd_T102 l0_1 x18_2).f0)) ∧ w'.cell? ⟨gb277, 1, none⟩ = some (.slice A276_1 ((rd_T102 l0_1 x18_2).f1).length c276_1)) (ds := []) (bq 35 0) (by kernel_rfl) rfl (by kernel_rfl) ⟨(blk_cell BK277.out 0).trans rfl, (blk_cell BK277.out 1).trans rfl⟩ (fun hHeld => ?_); refine with_tabW impl_GoodWords.tab6 impl_GoodWords.bits6 (fun HT_ HW_ => ?_)
          generalize w68.drew = w69 at BK274 BK277 HB hHeld ⊢
          refine pure_ (i := 0) (N := some 23) (v := ?_) (a' := ?_) (bq 35 1) rfl rfl (any_of HT_.out (by kernel_rfl)) (fun _ _ _ h => h) (Or.inl ⟨by rfl, ?_⟩) ?_ ?_; rotate_left; (intro w'; go_simp; (with_reducible rfl)); rotate_left; (simp only [Act.put, zSA, zSB, zSC, i64_w, i32_w]; rfl)
          refine take_ (i := 1) (N := some 24) (v := ?_) (a' := ?_) (bq 35 3) rfl rfl (take_ofW HT_.out HW_.out (by kernel_rfl)) (fun _ _ _ h => h) (Or.inl ⟨by rfl, ?_⟩) hHeld ?_ ?_; rotate_left; (rintro w' ⟨s0, s1⟩; go_simp; (with_reducible rfl)); rotate_left; (simp only [Act.put, zSA, zSB, zSC, i64_w, i32_w]; rfl)
          refine one_ (i := 2) (N := some 25) (bq 35 7) rfl rfl (one_of HT_.out (by kernel_rfl)) (by decide) (fun K hK => ?_)
          refine goes_ Try.func89 (by kernel_rfl) rfl #[.string ((rd_T102 l0_1 x18_2).f0)] (by rfl) rfl rfl (by (try simp only [List.map_toArray, List.map_cons, List.map_nil]); first | done | rfl | (simp only [List.length_drop, List.length_take]; rfl)) ?_
          with_reducible refine (impl_isWord.calls k2 ((rd_T102 l0_1 x18_2).f0) false _ A13.out).mono ?_
          rintro e w' ⟨rfl, ⟨nd, rfl⟩⟩
          refine ⟨_, rfl, ?_⟩
          refine hK.out _ _ ⟨(blk_cell BK277.out 0).trans rfl, (blk_cell BK277.out 1).trans rfl⟩ (fun hHeld => ?_)
          clear hK K
          refine norm_ (a' := ?_) ?_ ?_
          rotate_left
          ·
           show Act.put _ (some 25) _ = _
           simp only [Act.put, zSA, zSB, zSC, i64_w, i32_w]
           rfl
          refine pure_ (i := 3) (N := some 26) (v := ?_) (a' := ?_) (bq 35 15) rfl rfl (any_of HT_.out (by kernel_rfl)) (fun _ _ _ h => h) (Or.inl ⟨by rfl, ?_⟩) ?_ ?_; rotate_left; (intro w'; go_simp; (with_reducible rfl)); rotate_left; (simp only [Act.put, zSA, zSB, zSC, i64_w, i32_w]; rfl)
          refine pure_ (i := 4) (N := some 27) (v := ?_) (a' := ?_) (bq 35 31) rfl rfl (any_of HT_.out (by kernel_rfl)) (fun _ _ _ h => h) (Or.inl ⟨by rfl, ?_⟩) ?_ ?_; rotate_left; (intro w'; go_simp; (with_reducible rfl)); rotate_left; (simp only [Act.put, zSA, zSB, zSC, i64_w, i32_w]; rfl)
          refine pure_ (i := 5) (N := some 28) (v := undef) (a' := ?_) (bq 35 63) rfl rfl (any_of HT_.out (by kernel_rfl)) (fun _ _ _ h => h) (Or.inr ⟨by rfl, rfl⟩) ?_ ?_
          rotate_left
          ·
           simp only [Act.put, zSA, zSB, zSC, i64_w, i32_w]
           rfl
          refine pure_ (i := 6) (N := some 29) (v := undef) (a' := ?_) (bq 35 127) rfl rfl (any_of HT_.out (by kernel_rfl)) (fun _ _ _ h => h) (Or.inr ⟨by rfl, rfl⟩) ?_ ?_
          rotate_left
          ·
           simp only [Act.put, zSA, zSB, zSC, i64_w, i32_w]
           rfl
          refine pure_ (i := 7) (N := some 30) (v := undef) (a' := ?_) (bq 35 255) rfl rfl (any_of HT_.out (by kernel_rfl)) (fun _ _ _ h => h) (Or.inr ⟨by rfl, rfl⟩) ?_ ?_
          rotate_left
          ·
           simp only [Act.put, zSA, zSB, zSC, i64_w, i32_w]
           rfl
          refine pure_ (i := 8) (N := some 31) (v := undef) (a' := ?_) (bq 35 511) rfl rfl (any_of HT_.out (by kernel_rfl)) (fun _ _ _ h => h) (Or.inr ⟨by rfl, rfl⟩) ?_ ?_
          rotate_left
          ·
           simp only [Act.put, zSA, zSB, zSC, i64_w, i32_w]
           rfl
          refine pure_ (i := 9) (N := some 32) (v := undef) (a' := ?_) (bq 35 1023) rfl rfl (any_of HT_.out (by kernel_rfl)) (fun _ _ _ h => h) (Or.inr ⟨by rfl, rfl⟩) ?_ ?_
          rotate_left
          ·
           simp only [Act.put, zSA, zSB, zSC, i64_w, i32_w]
           rfl
          refine pure_ (i := 10) (N := some 33) (v := undef) (a' := ?_) (bq 35 2047) rfl rfl (any_of HT_.out (by kernel_rfl)) (fun _ _ _ h => h) (Or.inr ⟨by rfl, rfl⟩) ?_ ?_
          rotate_left
          ·
           simp only [Act.put, zSA, zSB, zSC, i64_w, i32_w]
           rfl
          refine pure_ (i := 11) (N := some 34) (v := undef) (a' := ?_) (bq 35 4095) rfl rfl (any_of HT_.out (by kernel_rfl)) (fun _ _ _ h => h) (Or.inr ⟨by rfl, rfl⟩) ?_ ?_
          rotate_left
          ·
           simp only [Act.put, zSA, zSB, zSC, i64_w, i32_w]
           rfl
          refine pure_ (i := 12) (N := some 35) (v := undef) (a' := ?_) (bq 35 8191) rfl rfl (any_of HT_.out (by kernel_rfl)) (fun _ _ _ h => h) (Or.inr ⟨by rfl, rfl⟩) ?_ ?_
          rotate_left
          ·
           simp only [Act.put, zSA, zSB, zSC, i64_w, i32_w]
           rfl
          refine pure_ (i := 13) (N := some 36) (v := undef) (a' := ?_) (bq 35 16383) rfl rfl (any_of HT_.out (by kernel_rfl)) (fun _ _ _ h => h) (Or.inr ⟨by rfl, rfl⟩) ?_ ?_
          rotate_left
          ·
           simp only [Act.put, zSA, zSB, zSC, i64_w, i32_w]
           rfl
          refine pure_ (i := 14) (N := some 37) (v := undef) (a' := ?_) (bq 35 32767) rfl rfl (any_of HT_.out (by kernel_rfl)) (fun _ _ _ h => h) (Or.inr ⟨by rfl, rfl⟩) ?_ ?_
          rotate_left
          ·
           simp only [Act.put, zSA, zSB, zSC, i64_w, i32_w]
           rfl
          refine pure_ (i := 15) (N := some 38) (v := undef) (a' := ?_) (bq 35 65535) rfl rfl (any_of HT_.out (by kernel_rfl)) (fun _ _ _ h => h) (Or.inr ⟨by rfl, rfl⟩) ?_ ?_
          rotate_left
          ·
           simp only [Act.put, zSA, zSB, zSC, i64_w, i32_w]
           rfl
          refine pure_ (i := 16) (N := some 39) (v := undef) (a' := ?_) (bq 35 131071) rfl rfl (any_of HT_.out (by kernel_rfl)) (fun _ _ _ h => h) (Or.inr ⟨by rfl, rfl⟩) ?_ ?_
          rotate_left
          ·
           simp only [Act.put, zSA, zSB, zSC, i64_w, i32_w]
           rfl
          refine pure_ (i := 17) (N := some 40) (v := undef) (a' := ?_) (bq 35 262143) rfl rfl (any_of HT_.out (by kernel_rfl)) (fun _ _ _ h => h) (Or.inr ⟨by rfl, rfl⟩) ?_ ?_
          rotate_left
          ·
           simp only [Act.put, zSA, zSB, zSC, i64_w, i32_w]
           rfl
          refine pure_ (i := 18) (N := some 41) (v := undef) (a' := ?_) (bq 35 524287) rfl rfl (any_of HT_.out (by kernel_rfl)) (fun _ _ _ h => h) (Or.inr ⟨by rfl, rfl⟩) ?_ ?_
          rotate_left
          ·
           simp only [Act.put, zSA, zSB, zSC, i64_w, i32_w]
           rfl
          refine pure_ (i := 19) (N := some 42) (v := ?_) (a' := ?_) (bq 35 1048575) rfl rfl (any_of HT_.out (by kernel_rfl)) (fun _ _ _ h => h) (Or.inl ⟨by rfl, ?_⟩) ?_ ?_; rotate_left; (intro w'; go_simp; (with_reducible rfl)); rotate_left; (simp only [Act.put, zSA, zSB, zSC, i64_w, i32_w]; rfl)
          refine pure_ (i := 20) (N := some 43) (v := ?_) (a' := ?_) (bq 35 2097151) rfl rfl (any_of HT_.out (by kernel_rfl)) (fun _ _ _ h => h) (Or.inl ⟨by rfl, ?_⟩) ?_ ?_; rotate_left; (intro w'; go_simp; (with_reducible rfl)); rotate_left; (simp only [Act.put, zSA, zSB, zSC, i64_w, i32_w]; rfl)
          refine pure_ (i := 21) (N := some 44) (v := undef) (a' := ?_) (bq 35 4194303) rfl rfl (any_of HT_.out (by kernel_rfl)) (fun _ _ _ h => h) (Or.inr ⟨by rfl, rfl⟩) ?_ ?_
          rotate_left
          ·
           simp only [Act.put, zSA, zSB, zSC, i64_w, i32_w]
           rfl
          refine pure_ (i := 22) (N := some 45) (v := undef) (a' := ?_) (bq 35 8388607) rfl rfl (any_of HT_.out (by kernel_rfl)) (fun _ _ _ h => h) (Or.inr ⟨by rfl, rfl⟩) ?_ ?_
          rotate_left
          ·
           simp only [Act.put, zSA, zSB, zSC, i64_w, i32_w]
           rfl
          refine pure_ (i := 23) (N := some 46) (v := undef) (a' := ?_) (bq 35 16777215) rfl rfl (any_of HT_.out (by kernel_rfl)) (fun _ _ _ h => h) (Or.inr ⟨by rfl, rfl⟩) ?_ ?_
          rotate_left
          ·
           simp only [Act.put, zSA, zSB, zSC, i64_w, i32_w]
           rfl
          refine pure_ (i := 24) (N := some 47) (v := undef) (a' := ?_) (bq 35 33554431) rfl rfl (any_of HT_.out (by kernel_rfl)) (fun _ _ _ h => h) (Or.inr ⟨by rfl, rfl⟩) ?_ ?_
          rotate_left
          ·
           simp only [Act.put, zSA, zSB, zSC, i64_w, i32_w]
           rfl
          refine pure_ (i := 25) (N := some 48) (v := ?_) (a' := ?_) (bq 35 67108863) rfl rfl (any_of HT_.out (by kernel_rfl)) (fun _ _ _ h => h) (Or.inl ⟨by rfl, ?_⟩) ?_ ?_; rotate_left; (intro w'; go_simp; (with_reducible rfl)); rotate_left; (simp only [Act.put, zSA, zSB, zSC, i64_w, i32_w]; rfl)
          refine pure_ (i := 26) (N := some 49) (v := ?_) (a' := ?_) (bq 35 134217727) rfl rfl (any_of HT_.out (by kernel_rfl)) (fun _ _ _ h => h) (Or.inl ⟨by rfl, ?_⟩) ?_ ?_; rotate_left; (intro w'; go_simp; (with_reducible rfl)); rotate_left; (simp only [Act.put, zSA, zSB, zSC, i64_w, i32_w]; rfl)
          refine pure_ (i := 27) (N := some 50) (v := undef) (a' := ?_) (bq 35 268435455) rfl rfl (any_of HT_.out (by kernel_rfl)) (fun _ _ _ h => h) (Or.inr ⟨by rfl, rfl⟩) ?_ ?_
          rotate_left
          ·
           simp only [Act.put, zSA, zSB, zSC, i64_w, i32_w]
           rfl
          refine pure_ (i := 28) (N := some 51) (v := undef) (a' := ?_) (bq 35 536870911) rfl rfl (any_of HT_.out (by kernel_rfl)) (fun _ _ _ h => h) (Or.inr ⟨by rfl, rfl⟩) ?_ ?_
          rotate_left
          ·
           simp only [Act.put, zSA, zSB, zSC, i64_w, i32_w]
           rfl
          refine pure_ (i := 29) (N := some 52) (v := undef) (a' := ?_) (bq 35 1073741823) rfl rfl (any_of HT_.out (by kernel_rfl)) (fun _ _ _ h => h) (Or.inr ⟨by rfl, rfl⟩) ?_ ?_
          rotate_left
          ·
           simp only [Act.put, zSA, zSB, zSC, i64_w, i32_w]
           rfl
          refine pure_ (i := 30) (N := some 53) (v := undef) (a' := ?_) (bq 35 2147483647) rfl rfl (any_of HT_.out (by kernel_rfl)) (fun _ _ _ h => h) (Or.inr ⟨by rfl, rfl⟩) ?_ ?_
          rotate_left
          ·
           simp only [Act.put, zSA, zSB, zSC, i64_w, i32_w]
           rfl
          refine pure_ (i := 31) (N := some 54) (v := undef) (a' := ?_) (bq 35 4294967295) rfl rfl (any_of HT_.out (by kernel_rfl)) (fun _ _ _ h => h) (Or.inr ⟨by rfl, rfl⟩) ?_ ?_
          rotate_left
          ·
           simp only [Act.put, zSA, zSB, zSC, i64_w, i32_w]
           rfl
          refine pure_ (i := 32) (N := some 55) (v := undef) (a' := ?_) (bq 35 8589934591) rfl rfl (any_of HT_.out (by kernel_rfl)) (fun _ _ _ h => h) (Or.inr ⟨by rfl, rfl⟩) ?_ ?_
          rotate_left
          ·
           simp only [Act.put, zSA, zSB, zSC, i64_w, i32_w]
           rfl
          refine pure_ (i := 33) (N := some 56) (v := undef) (a' := ?_) (bq 35 17179869183) rfl rfl (any_of HT_.out (by kernel_rfl)) (fun _ _ _ h => h) (Or.inr ⟨by rfl, rfl⟩) ?_ ?_
          rotate_left
          ·
           simp only [Act.put, zSA, zSB, zSC, i64_w, i32_w]
           rfl
          refine pure_ (i := 34) (N := some 57) (v := ?_) (a' := ?_) (bq 35 34359738367) rfl rfl (any_of HT_.out (by kernel_rfl)) (fun _ _ _ h => h) (Or.inl ⟨by rfl, ?_⟩) ?_ ?_; rotate_left; (intro w'; go_simp; (with_reducible rfl)); rotate_left; (simp only [Act.put, zSA, zSB, zSC, i64_w, i32_w]; rfl)
          refine done_ (done_of HT_.out (by kernel_rfl)) ?_
          try go_wp2
          go_ret
          exact ⟨by first | rfl | (simp [errW_none, errW_some] <;> rfl) | (simp [*, errW_none, errW_some] <;> rfl), by repeat (first | (with_reducible first | exact HB.out | apply below_alloc | apply pw_below_drewN | apply below_drew1 | refine below_set ?_ GE274.out | refine below_set ?_ GE277.out) | exact HB.out)⟩
        ·
         rw [if_neg c12] at H
         exact absurd H (by simp)
       ·
        rw [if_neg c11] at H
        exact absurd H (by simp)
      ·
       rw [if_neg c10] at H
       have c10b0 : decide (x18_2 < (l0_1.length : Int)) = false := decide_eq_false c10
       clear c10
       obtain rfl := Option.some.inj H
       go_wp2
       go_ret
       exact ⟨by first | rfl | (simp [errW_none, errW_some] <;> rfl) | (simp [*, errW_none, errW_some] <;> rfl), by repeat (first | (with_reducible first | exact HB.out | apply below_alloc | apply pw_below_drewN | apply below_drew1 | refine below_set ?_ GE274.out) | exact HB.out)⟩

end Go.Proofs.Ytaomjndfjmfelaa.PQ
end
