/- Several texts in one: what the claim's last text rests on. No conditions. -/
import Derived.Test.YtppmigiknidjhaaMDf5
import Derived.Test.YtppmigiknidjhaaMDf14
import Derived.Test.YtppmigiknidjhaaMDf9
import Derived.Test.YtppmigiknidjhaaMDf13
section
-- Written by a program of this session (pprint.py) out of the translation's print; Lean checks it.
namespace Go.Proofs.Ytppmigiknidjhaa.PQ
open Go.RowKit Go.Proofs.YtppmigiknidjhaaW.PrintWords Go.Proofs.YtppmigiknidjhaaW.PrintLast Go.Proofs.YtppmigiknidjhaaW.PrintMore
attribute [local go_sem] max2_int min2_int max_two min_two max_three min_three max_four min_four   -- for this text's walks alone
set_option linter.unusedVariables false
set_option linter.unusedSimpArgs false

--OWNPART impl_RankOf
/-! ### impl_RankOf: function 28, by hand -/
--NEEDS loop.example/g00274/impl.within
--NEEDS slices.BinarySearch[[]string,string]
--IMPORT RkW
def impl_RankOf.f (a0 : ByteArray) (a1 : Int) (a2 : Int) : Option (List Int × Bool) := some (Rk.ansRank a0 a1 a2)
theorem impl_RankOf.calls (a0 : ByteArray) (a1 : Int) (a2 : Int) (r1 : List Int) (r2 : Bool) (w : World) (h : impl_RankOf.f a0 a1 a2 = some (r1, r2)) :
    Calls Try.prog 28 #[.string a0, .int .i64 a1, .int .i64 a2] w fun e w' => ∃ v0_ : Value, e = .returned (.tuple #[v0_, .bool r2]) ∧ Kd.R (Kd.int .i64) 3 w' w.heap.size (fun _ => True) v0_ r1 ∧ Below w.heap.size w w' := by
  unfold impl_RankOf.f at h
  have h1 := Option.some.inj h
  have := Rk.calls a0 a1 a2 w
  rw [h1] at this
  exact this

end Go.Proofs.Ytppmigiknidjhaa.PQ
end

section
-- Written by a program of this session (pprint.py) out of the translation's print; Lean checks it.
namespace Go.Proofs.Ytppmigiknidjhaa.PQ
open Go.RowKit Go.Proofs.YtppmigiknidjhaaW.PrintWords Go.Proofs.YtppmigiknidjhaaW.PrintLast Go.Proofs.YtppmigiknidjhaaW.PrintMore
attribute [local go_sem] max2_int min2_int max_two min_two max_three min_three max_four min_four   -- for this text's walks alone
set_option linter.unusedVariables false
set_option linter.unusedSimpArgs false

/-! ### laws_FnDoubled: function 11 -/
mutual
def laws_FnDoubled.j0 : Nat → ByteArray → Int → List Int → Bool → Bool → Option (Bool)
  | 0, _, _, _, _, _ => none
  | k + 1, x3, x4, x6, x7, x74 => if x74 = true then (some false) else (if x7 = true then ((impl_RankOf.f x3 x4 0).bind fun bt566 => ((impl_RankOf.f x3 x4 1).bind fun bt570 => (if bt566.2 = true then (if bt570.2 = true then (if (bt566.1.length : Int) = (x3.size : Int) then (laws_FnDoubled.j1 k x3 x4 bt566.1 bt570.1 ((bt570.1.length : Int) != (x3.size : Int))) else (laws_FnDoubled.j1 k x3 x4 bt566.1 bt570.1 true)) else (laws_FnDoubled.j1 k x3 x4 bt566.1 bt570.1 true)) else (laws_FnDoubled.j1 k x3 x4 bt566.1 bt570.1 true)))) else (some ((x6.length : Int) == 0)))
def laws_FnDoubled.j1 : Nat → ByteArray → Int → List Int → List Int → Bool → Option (Bool)
  | 0, _, _, _, _, _ => none
  | k + 1, x3, x4, x14, x16, x111 => if x111 = true then (some false) else (laws_FnDoubled.l0 k x3 x4 x14 x16 (x14.length : Int) 0)
def laws_FnDoubled.l0 : Nat → ByteArray → Int → List Int → List Int → Int → Int → Option (Bool)
  | 0, _, _, _, _, _, _ => none
  | k + 1, x3, x4, x14, x16, x113, x114 => if x114 < x113 then (laws_FnDoubled.l1 k x3 x4 x14 x16 x114 x113 x114 (x14.length : Int) 0) else (some true)
def laws_FnDoubled.l1 : Nat → ByteArray → Int → List Int → List Int → Int → Int → Int → Int → Int → Option (Bool)
  | 0, _, _, _, _, _, _, _, _, _ => none
  | k + 1, x3, x4, x14, x16, x18, x113, x114, x118, x119 => if x119 < x118 then (if (wrap64 (x18 + x4)) < (x3.size : Int) then (if 0 ≤ (wrap64 (x18 + x4)) then (if (wrap64 (x18 + x4)) < (x14.length : Int) then (laws_FnDoubled.j4 k x3 x4 x14 x16 x18 x119 (rd x14 (wrap64 (x18 + x4))) (-1) x113 x114 x118 x119) else (none)) else (none)) else (laws_FnDoubled.j4 k x3 x4 x14 x16 x18 x119 (-1) (-1) x113 x114 x118 x119)) else (laws_FnDoubled.l0 k x3 x4 x14 x16 x113 (wrap64 (x114 + 1)))
def laws_FnDoubled.j4 : Nat → ByteArray → Int → List Int → List Int → Int → Int → Int → Int → Int → Int → Int → Int → Option (Bool)
  | 0, _, _, _, _, _, _, _, _, _, _, _, _ => none
  | k + 1, x3, x4, x14, x16, x18, x19, x20, x21, x113, x114, x118, x119 => if (wrap64 (x19 + x4)) < (x3.size : Int) then (if 0 ≤ (wrap64 (x19 + x4)) then (if (wrap64 (x19 + x4)) < (x14.length : Int) then (if 0 ≤ x18 then (if x18 < (x14.length : Int) then (if 0 ≤ x19 then (if x19 < (x14.length : Int) then (if (rd x14 x18) < (rd x14 x19) then (if x18 < (x16.length : Int) then (if x19 < (x16.length : Int) then (if (true != (decide ((rd x16 x18) < (rd x16 x19)))) = true then (some false) else (laws_FnDoubled.l1 k x3 x4 x14 x16 x18 x113 x114 x118 (wrap64 (x119 + 1)))) else (none)) else (none)) else (if (rd x14 x18) = (rd x14 x19) then (if x18 < (x16.length : Int) then (if x19 < (x16.length : Int) then (if ((decide (x20 < (rd x14 (wrap64 (x19 + x4))))) != (decide ((rd x16 x18) < (rd x16 x19)))) = true then (some false) else (laws_FnDoubled.l1 k x3 x4 x14 x16 x18 x113 x114 x118 (wrap64 (x119 + 1)))) else (none)) else (none)) else (if x18 < (x16.length : Int) then (if x19 < (x16.length : Int) then (if (false != (decide ((rd x16 x18) < (rd x16 x19)))) = true then (some false) else (laws_FnDoubled.l1 k x3 x4 x14 x16 x18 x113 x114 x118 (wrap64 (x119 + 1)))) else (none)) else (none)))) else (none)) else (none)) else (none)) else (none)) else (none)) else (none)) else (if 0 ≤ x18 then (if x18 < (x14.length : Int) then (if 0 ≤ x19 then (if x19 < (x14.length : Int) then (if (rd x14 x18) < (rd x14 x19) then (if x18 < (x16.length : Int) then (if x19 < (x16.length : Int) then (if (true != (decide ((rd x16 x18) < (rd x16 x19)))) = true then (some false) else (laws_FnDoubled.l1 k x3 x4 x14 x16 x18 x113 x114 x118 (wrap64 (x119 + 1)))) else (none)) else (none)) else (if (rd x14 x18) = (rd x14 x19) then (if x18 < (x16.length : Int) then (if x19 < (x16.length : Int) then (if ((decide (x20 < x21)) != (decide ((rd x16 x18) < (rd x16 x19)))) = true then (some false) else (laws_FnDoubled.l1 k x3 x4 x14 x16 x18 x113 x114 x118 (wrap64 (x119 + 1)))) else (none)) else (none)) else (if x18 < (x16.length : Int) then (if x19 < (x16.length : Int) then (if (false != (decide ((rd x16 x18) < (rd x16 x19)))) = true then (some false) else (laws_FnDoubled.l1 k x3 x4 x14 x16 x18 x113 x114 x118 (wrap64 (x119 + 1)))) else (none)) else (none)))) else (none)) else (none)) else (none)) else (none))
end
def laws_FnDoubled.f (k : Nat) (l0 : List Int) : Option (Bool) := if (l0.length : Int) > 1048576 then (some true) else ((spec_DrawRankOf.f k l0).bind fun bt550 => ((impl_RankOf.f bt550.1 bt550.2.1 bt550.2.2).bind fun bt553 => ((spec_RankOf.f k bt550.1 bt550.2.1 bt550.2.2).bind fun bt557 => ((impl_DistinctIn.f k bt550.1).bind fun bt561 => ((spec_DistinctIn.f k bt550.1).bind fun bt563 => (if (bt553.2 != bt557.2) = true then (laws_FnDoubled.j0 k bt550.1 bt550.2.1 bt553.1 bt553.2 true) else ((laws_sameInts.f k bt553.1 bt557.1).bind fun t565 => (if t565 = true then (if (bt561.2 != bt563.2) = true then (laws_FnDoubled.j0 k bt550.1 bt550.2.1 bt553.1 bt553.2 true) else (laws_FnDoubled.j0 k bt550.1 bt550.2.1 bt553.1 bt553.2 (bt561.1 != bt563.1))) else (laws_FnDoubled.j0 k bt550.1 bt550.2.1 bt553.1 bt553.2 true)))))))))
theorem laws_FnDoubled.mono_l : ∀ k, (∀ y0 y1 y2 y3 y4, LeO (laws_FnDoubled.j0 k y0 y1 y2 y3 y4) (laws_FnDoubled.j0 (k + 1) y0 y1 y2 y3 y4)) ∧ (∀ y0 y1 y2 y3 y4, LeO (laws_FnDoubled.j1 k y0 y1 y2 y3 y4) (laws_FnDoubled.j1 (k + 1) y0 y1 y2 y3 y4)) ∧ (∀ y0 y1 y2 y3 y4 y5, LeO (laws_FnDoubled.l0 k y0 y1 y2 y3 y4 y5) (laws_FnDoubled.l0 (k + 1) y0 y1 y2 y3 y4 y5)) ∧ (∀ y0 y1 y2 y3 y4 y5 y6 y7 y8, LeO (laws_FnDoubled.l1 k y0 y1 y2 y3 y4 y5 y6 y7 y8) (laws_FnDoubled.l1 (k + 1) y0 y1 y2 y3 y4 y5 y6 y7 y8)) ∧ (∀ y0 y1 y2 y3 y4 y5 y6 y7 y8 y9 y10 y11, LeO (laws_FnDoubled.j4 k y0 y1 y2 y3 y4 y5 y6 y7 y8 y9 y10 y11) (laws_FnDoubled.j4 (k + 1) y0 y1 y2 y3 y4 y5 y6 y7 y8 y9 y10 y11))
  | 0 => ⟨fun _ _ _ _ _ r h => by simp [laws_FnDoubled.j0] at h, fun _ _ _ _ _ r h => by simp [laws_FnDoubled.j1] at h, fun _ _ _ _ _ _ r h => by simp [laws_FnDoubled.l0] at h, fun _ _ _ _ _ _ _ _ _ r h => by simp [laws_FnDoubled.l1] at h, fun _ _ _ _ _ _ _ _ _ _ _ _ r h => by simp [laws_FnDoubled.j4] at h⟩
  | k + 1 => by
    obtain ⟨ih0, ih1, ih2, ih3, ih4⟩ := laws_FnDoubled.mono_l k
    refine ⟨?_, ?_, ?_, ?_, ?_⟩
    · intro y0 y1 y2 y3 y4
      unfold laws_FnDoubled.j0
      repeat' first
      | (with_reducible exact ih0 _ _ _ _ _)
      | (with_reducible exact ih1 _ _ _ _ _)
      | (with_reducible exact ih2 _ _ _ _ _ _)
      | (with_reducible exact ih3 _ _ _ _ _ _ _ _ _)
      | (with_reducible exact ih4 _ _ _ _ _ _ _ _ _ _ _ _)
      | (with_reducible exact impl_DistinctIn.mono _ _)
      | (with_reducible exact laws_sameInts.mono _ _ _)
      | (with_reducible exact spec_DistinctIn.mono _ _)
      | (with_reducible exact spec_DrawRankOf.mono _ _)
      | (with_reducible exact spec_RankOf.mono _ _ _ _)
      | (with_reducible exact LeO.refl _)
      | (with_reducible exact LeO.none _)
      | (with_reducible refine LeO.ite ?_ ?_)
      | (with_reducible refine LeO.bind ?_ (fun _ => ?_))
      | exact ih0 _ _ _ _ _
      | exact ih1 _ _ _ _ _
      | exact ih2 _ _ _ _ _ _
      | exact ih3 _ _ _ _ _ _ _ _ _
      | exact ih4 _ _ _ _ _ _ _ _ _ _ _ _
      | exact impl_DistinctIn.mono _ _
      | exact laws_sameInts.mono _ _ _
      | exact spec_DistinctIn.mono _ _
      | exact spec_DrawRankOf.mono _ _
      | exact spec_RankOf.mono _ _ _ _
      | exact LeO.none _
      | refine LeO.ite ?_ ?_
      | refine LeO.bind ?_ (fun _ => ?_)
    · intro y0 y1 y2 y3 y4
      unfold laws_FnDoubled.j1
      repeat' first
      | (with_reducible exact ih0 _ _ _ _ _)
      | (with_reducible exact ih1 _ _ _ _ _)
      | (with_reducible exact ih2 _ _ _ _ _ _)
      | (with_reducible exact ih3 _ _ _ _ _ _ _ _ _)
      | (with_reducible exact ih4 _ _ _ _ _ _ _ _ _ _ _ _)
      | (with_reducible exact impl_DistinctIn.mono _ _)
      | (with_reducible exact laws_sameInts.mono _ _ _)
      | (with_reducible exact spec_DistinctIn.mono _ _)
      | (with_reducible exact spec_DrawRankOf.mono _ _)
      | (with_reducible exact spec_RankOf.mono _ _ _ _)
      | (with_reducible exact LeO.refl _)
      | (with_reducible exact LeO.none _)
      | (with_reducible refine LeO.ite ?_ ?_)
      | (with_reducible refine LeO.bind ?_ (fun _ => ?_))
      | exact ih0 _ _ _ _ _
      | exact ih1 _ _ _ _ _
      | exact ih2 _ _ _ _ _ _
      | exact ih3 _ _ _ _ _ _ _ _ _
      | exact ih4 _ _ _ _ _ _ _ _ _ _ _ _
      | exact impl_DistinctIn.mono _ _
      | exact laws_sameInts.mono _ _ _
      | exact spec_DistinctIn.mono _ _
      | exact spec_DrawRankOf.mono _ _
      | exact spec_RankOf.mono _ _ _ _
      | exact LeO.none _
      | refine LeO.ite ?_ ?_
      | refine LeO.bind ?_ (fun _ => ?_)
    · intro y0 y1 y2 y3 y4 y5
      unfold laws_FnDoubled.l0
      repeat' first
      | (with_reducible exact ih0 _ _ _ _ _)
      | (with_reducible exact ih1 _ _ _ _ _)
      | (with_reducible exact ih2 _ _ _ _ _ _)
      | (with_reducible exact ih3 _ _ _ _ _ _ _ _ _)
      | (with_reducible exact ih4 _ _ _ _ _ _ _ _ _ _ _ _)
      | (with_reducible exact impl_DistinctIn.mono _ _)
      | (with_reducible exact laws_sameInts.mono _ _ _)
      | (with_reducible exact spec_DistinctIn.mono _ _)
      | (with_reducible exact spec_DrawRankOf.mono _ _)
      | (with_reducible exact spec_RankOf.mono _ _ _ _)
      | (with_reducible exact LeO.refl _)
      | (with_reducible exact LeO.none _)
      | (with_reducible refine LeO.ite ?_ ?_)
      | (with_reducible refine LeO.bind ?_ (fun _ => ?_))
      | exact ih0 _ _ _ _ _
      | exact ih1 _ _ _ _ _
      | exact ih2 _ _ _ _ _ _
      | exact ih3 _ _ _ _ _ _ _ _ _
      | exact ih4 _ _ _ _ _ _ _ _ _ _ _ _
      | exact impl_DistinctIn.mono _ _
      | exact laws_sameInts.mono _ _ _
      | exact spec_DistinctIn.mono _ _
      | exact spec_DrawRankOf.mono _ _
      | exact spec_RankOf.mono _ _ _ _
      | exact LeO.none _
      | refine LeO.ite ?_ ?_
      | refine LeO.bind ?_ (fun _ => ?_)
    · intro y0 y1 y2 y3 y4 y5 y6 y7 y8
      unfold laws_FnDoubled.l1
      repeat' first
      | (with_reducible exact ih0 _ _ _ _ _)
      | (with_reducible exact ih1 _ _ _ _ _)
      | (with_reducible exact ih2 _ _ _ _ _ _)
      | (with_reducible exact ih3 _ _ _ _ _ _ _ _ _)
      | (with_reducible exact ih4 _ _ _ _ _ _ _ _ _ _ _ _)
      | (with_reducible exact impl_DistinctIn.mono _ _)
      | (with_reducible exact laws_sameInts.mono _ _ _)
      | (with_reducible exact spec_DistinctIn.mono _ _)
      | (with_reducible exact spec_DrawRankOf.mono _ _)
      | (with_reducible exact spec_RankOf.mono _ _ _ _)
      | (with_reducible exact LeO.refl _)
      | (with_reducible exact LeO.none _)
      | (with_reducible refine LeO.ite ?_ ?_)
      | (with_reducible refine LeO.bind ?_ (fun _ => ?_))
      | exact ih0 _ _ _ _ _
      | exact ih1 _ _ _ _ _
      | exact ih2 _ _ _ _ _ _
      | exact ih3 _ _ _ _ _ _ _ _ _
      | exact ih4 _ _ _ _ _ _ _ _ _ _ _ _
      | exact impl_DistinctIn.mono _ _
      | exact laws_sameInts.mono _ _ _
      | exact spec_DistinctIn.mono _ _
      | exact spec_DrawRankOf.mono _ _
      | exact spec_RankOf.mono _ _ _ _
      | exact LeO.none _
      | refine LeO.ite ?_ ?_
      | refine LeO.bind ?_ (fun _ => ?_)
    · intro y0 y1 y2 y3 y4 y5 y6 y7 y8 y9 y10 y11
      unfold laws_FnDoubled.j4
      repeat' first
      | (with_reducible exact ih0 _ _ _ _ _)
      | (with_reducible exact ih1 _ _ _ _ _)
      | (with_reducible exact ih2 _ _ _ _ _ _)
      | (with_reducible exact ih3 _ _ _ _ _ _ _ _ _)
      | (with_reducible exact ih4 _ _ _ _ _ _ _ _ _ _ _ _)
      | (with_reducible exact impl_DistinctIn.mono _ _)
      | (with_reducible exact laws_sameInts.mono _ _ _)
      | (with_reducible exact spec_DistinctIn.mono _ _)
      | (with_reducible exact spec_DrawRankOf.mono _ _)
      | (with_reducible exact spec_RankOf.mono _ _ _ _)
      | (with_reducible exact LeO.refl _)
      | (with_reducible exact LeO.none _)
      | (with_reducible refine LeO.ite ?_ ?_)
      | (with_reducible refine LeO.bind ?_ (fun _ => ?_))
      | exact ih0 _ _ _ _ _
      | exact ih1 _ _ _ _ _
      | exact ih2 _ _ _ _ _ _
      | exact ih3 _ _ _ _ _ _ _ _ _
      | exact ih4 _ _ _ _ _ _ _ _ _ _ _ _
      | exact impl_DistinctIn.mono _ _
      | exact laws_sameInts.mono _ _ _
      | exact spec_DistinctIn.mono _ _
      | exact spec_DrawRankOf.mono _ _
      | exact spec_RankOf.mono _ _ _ _
      | exact LeO.none _
      | refine LeO.ite ?_ ?_
      | refine LeO.bind ?_ (fun _ => ?_)
theorem laws_FnDoubled.mono : ∀ a0 k, LeO (laws_FnDoubled.f k a0) (laws_FnDoubled.f (k + 1) a0) := by
  intro a0 k
  obtain ⟨ih0, ih1, ih2, ih3, ih4⟩ := laws_FnDoubled.mono_l k
  unfold laws_FnDoubled.f
  repeat' first
      | (with_reducible exact ih0 _ _ _ _ _)
      | (with_reducible exact ih1 _ _ _ _ _)
      | (with_reducible exact ih2 _ _ _ _ _ _)
      | (with_reducible exact ih3 _ _ _ _ _ _ _ _ _)
      | (with_reducible exact ih4 _ _ _ _ _ _ _ _ _ _ _ _)
      | (with_reducible exact impl_DistinctIn.mono _ _)
      | (with_reducible exact laws_sameInts.mono _ _ _)
      | (with_reducible exact spec_DistinctIn.mono _ _)
      | (with_reducible exact spec_DrawRankOf.mono _ _)
      | (with_reducible exact spec_RankOf.mono _ _ _ _)
      | (with_reducible exact LeO.refl _)
      | (with_reducible exact LeO.none _)
      | (with_reducible refine LeO.ite ?_ ?_)
      | (with_reducible refine LeO.bind ?_ (fun _ => ?_))
      | exact ih0 _ _ _ _ _
      | exact ih1 _ _ _ _ _
      | exact ih2 _ _ _ _ _ _
      | exact ih3 _ _ _ _ _ _ _ _ _
      | exact ih4 _ _ _ _ _ _ _ _ _ _ _ _
      | exact impl_DistinctIn.mono _ _
      | exact laws_sameInts.mono _ _ _
      | exact spec_DistinctIn.mono _ _
      | exact spec_DrawRankOf.mono _ _
      | exact spec_RankOf.mono _ _ _ _
      | exact LeO.none _
      | refine LeO.ite ?_ ?_
      | refine LeO.bind ?_ (fun _ => ?_)
set_option maxHeartbeats 8000000 in
set_option maxRecDepth 100000 in
theorem laws_FnDoubled.calls (k : Nat) (A0 : Option Addr) (c0 : Nat) (l0 : List Int) (r : Bool) (w : World) (hr0 : Kd.C (Kd.int .u8) w A0 l0.length l0) (hc0 : l0.length ≤ c0) (h : laws_FnDoubled.f k l0 = some r) :
    Calls Try.prog 11 #[.slice A0 l0.length c0] w fun e w' => e = .returned (.bool r) ∧ Below w.heap.size w w' := by
  have HR0 := Aside0.mk hr0
  have HC0 := Aside0.mk hc0
  clear hr0 hc0
  have HB := Aside0.mk (Below.refl w.heap.size w)
  have H : (if (l0.length : Int) > 1048576 then (some true) else ((spec_DrawRankOf.f k l0).bind fun bt550 => ((impl_RankOf.f bt550.1 bt550.2.1 bt550.2.2).bind fun bt553 => ((spec_RankOf.f k bt550.1 bt550.2.1 bt550.2.2).bind fun bt557 => ((impl_DistinctIn.f k bt550.1).bind fun bt561 => ((spec_DistinctIn.f k bt550.1).bind fun bt563 => (if (bt553.2 != bt557.2) = true then (laws_FnDoubled.j0 k bt550.1 bt550.2.1 bt553.1 bt553.2 true) else ((laws_sameInts.f k bt553.1 bt557.1).bind fun t565 => (if t565 = true then (if (bt561.2 != bt563.2) = true then (laws_FnDoubled.j0 k bt550.1 bt550.2.1 bt553.1 bt553.2 true) else (laws_FnDoubled.j0 k bt550.1 bt550.2.1 bt553.1 bt553.2 (bt561.1 != bt563.1))) else (laws_FnDoubled.j0 k bt550.1 bt550.2.1 bt553.1 bt553.2 true)))))))))) = some r := h
  clear h
  by_cases c2 : (l0.length : Int) > 1048576
  · rw [if_pos c2] at H
    have c2b0 : decide (1048576 < (l0.length : Int)) = true := decide_eq_true c2
    have c2b1 : decide (1048576 < l0.length) = true := decide_eq_true (by omega)
    clear c2
    obtain rfl := Option.some.inj H
    go_enter Try.func11, Try.ntmps11
    go_wp2
    repeat (go_quiet (fail); try go_wp2)
    go_ret
    exact ⟨by first | rfl | (simp [errW_none, errW_some] <;> rfl) | (simp [*, errW_none, errW_some] <;> rfl), by repeat (first | (with_reducible first | exact HB.out | apply below_alloc | apply pw_below_drewN | apply below_drew1) | exact HB.out)⟩
  · rw [if_neg c2] at H
    have c2b0 : decide (1048576 < (l0.length : Int)) = false := decide_eq_false c2
    have c2b1 : decide (1048576 < l0.length) = false := decide_eq_false (by omega)
    clear c2
    replace H := Option.bind_eq_some_iff.mp H
    obtain ⟨⟨t550, t551, t552⟩, A30, H⟩ := H
    replace H : ((impl_RankOf.f t550 t551 t552).bind fun bt553 => ((spec_RankOf.f k t550 t551 t552).bind fun bt557 => ((impl_DistinctIn.f k t550).bind fun bt561 => ((spec_DistinctIn.f k t550).bind fun bt563 => (if (bt553.2 != bt557.2) = true then (laws_FnDoubled.j0 k t550 t551 bt553.1 bt553.2 true) else ((laws_sameInts.f k bt553.1 bt557.1).bind fun t565 => (if t565 = true then (if (bt561.2 != bt563.2) = true then (laws_FnDoubled.j0 k t550 t551 bt553.1 bt553.2 true) else (laws_FnDoubled.j0 k t550 t551 bt553.1 bt553.2 (bt561.1 != bt563.1))) else (laws_FnDoubled.j0 k t550 t551 bt553.1 bt553.2 true)))))))) = some r := H
    have A3 := Aside0.mk A30
    clear A30
    replace H := Option.bind_eq_some_iff.mp H
    obtain ⟨⟨t553, t554⟩, A40, H⟩ := H
    replace H : ((spec_RankOf.f k t550 t551 t552).bind fun bt557 => ((impl_DistinctIn.f k t550).bind fun bt561 => ((spec_DistinctIn.f k t550).bind fun bt563 => (if (t554 != bt557.2) = true then (laws_FnDoubled.j0 k t550 t551 t553 t554 true) else ((laws_sameInts.f k t553 bt557.1).bind fun t565 => (if t565 = true then (if (bt561.2 != bt563.2) = true then (laws_FnDoubled.j0 k t550 t551 t553 t554 true) else (laws_FnDoubled.j0 k t550 t551 t553 t554 (bt561.1 != bt563.1))) else (laws_FnDoubled.j0 k t550 t551 t553 t554 true))))))) = some r := H
    have A4 := Aside0.mk A40
    clear A40
    replace H := Option.bind_eq_some_iff.mp H
    obtain ⟨⟨t557, t558⟩, A50, H⟩ := H
    replace H : ((impl_DistinctIn.f k t550).bind fun bt561 => ((spec_DistinctIn.f k t550).bind fun bt563 => (if (t554 != t558) = true then (laws_FnDoubled.j0 k t550 t551 t553 t554 true) else ((laws_sameInts.f k t553 t557).bind fun t565 => (if t565 = true then (if (bt561.2 != bt563.2) = true then (laws_FnDoubled.j0 k t550 t551 t553 t554 true) else (laws_FnDoubled.j0 k t550 t551 t553 t554 (bt561.1 != bt563.1))) else (laws_FnDoubled.j0 k t550 t551 t553 t554 true)))))) = some r := H
    have A5 := Aside0.mk A50
    clear A50
    replace H := Option.bind_eq_some_iff.mp H
    obtain ⟨⟨t561, t562⟩, A60, H⟩ := H
    replace H : ((spec_DistinctIn.f k t550).bind fun bt563 => (if (t554 != t558) = true then (laws_FnDoubled.j0 k t550 t551 t553 t554 true) else ((laws_sameInts.f k t553 t557).bind fun t565 => (if t565 = true then (if (t562 != bt563.2) = true then (laws_FnDoubled.j0 k t550 t551 t553 t554 true) else (laws_FnDoubled.j0 k t550 t551 t553 t554 (t561 != bt563.1))) else (laws_FnDoubled.j0 k t550 t551 t553 t554 true))))) = some r := H
    have A6 := Aside0.mk A60
    clear A60
    replace H := Option.bind_eq_some_iff.mp H
    obtain ⟨⟨t563, t564⟩, A70, H⟩ := H
    replace H : (if (t554 != t558) = true then (laws_FnDoubled.j0 k t550 t551 t553 t554 true) else ((laws_sameInts.f k t553 t557).bind fun t565 => (if t565 = true then (if (t562 != t564) = true then (laws_FnDoubled.j0 k t550 t551 t553 t554 true) else (laws_FnDoubled.j0 k t550 t551 t553 t554 (t561 != t563))) else (laws_FnDoubled.j0 k t550 t551 t553 t554 true)))) = some r := H
    have A7 := Aside0.mk A70
    clear A70
    have HC8 := Aside0.mk H
    clear H
    go_enter Try.func11, Try.ntmps11
    go_upto_region 8 with (first | (go_at_call 33; (try simp only [i64_w]); (with_reducible refine (spec_DrawRankOf.calls k _ _ l0 t550 t551 t552 _ ?side1 ?side2 A3.out).mono ?_); (case side1 => repeat (first | exact HR0.out | (with_reducible refine Kd.C_alloc ?_ _) | (with_reducible refine Kd.C_drewN ?_ _) | (with_reducible refine Kd.C_drew ?_))); (case side2 => exact HC0.out); rintro e w9 ⟨rfl, hb⟩; have n0_ := Aside0.mk (below_step (by repeat (first | (with_reducible first | exact HB.out | apply below_alloc | apply pw_below_drewN | apply below_drew1) | exact HB.out)) hb); clear HB; have HB := n0_; clear n0_; (try clear hb); (try clear hb2); (try clear hk); (try clear hi)) | (go_at_call 28; (try simp only [i64_w]); (with_reducible refine (impl_RankOf.calls t550 t551 t552 t553 t554 _ A4.out).mono ?_); rintro e w10 ⟨v555, rfl, ho0, hb⟩; have n0_ := Aside0.mk (Kd.R_lower ho0 (below_size (by repeat (first | (with_reducible first | exact HB.out | apply below_alloc | apply pw_below_drewN | apply below_drew1) | exact HB.out)))); have n1_ := Aside0.mk (below_step (by repeat (first | (with_reducible first | exact HB.out | apply below_alloc | apply pw_below_drewN | apply below_drew1) | exact HB.out)) hb); clear HB; have HO556 := n0_; have HB := n1_; clear n0_ n1_; (try clear hb); (try clear hb2); (try clear hk); (try clear hi); (try clear ho0)) | (go_at_call 27; (try simp only [i64_w]); (with_reducible refine (spec_RankOf.calls k t550 t551 t552 t557 t558 _ A5.out).mono ?_); rintro e w11 ⟨v559, rfl, ho0, hb⟩; have n0_ := Aside0.mk (Kd.R_elder' (by (with_reducible repeat (first | apply Kd.R_alloc | apply Kd.R_drewN | apply Kd.R_drew)); exact HO556.out) (Kd.R_base ho0) hb); have n1_ := Aside0.mk (Kd.R_lower (Kd.R_new' ho0 (Kd.R_lt (by (with_reducible repeat (first | apply Kd.R_alloc | apply Kd.R_drewN | apply Kd.R_drew)); exact HO556.out))) (below_size (by repeat (first | (with_reducible first | exact HB.out | apply below_alloc | apply pw_below_drewN | apply below_drew1) | exact HB.out)))); have n2_ := Aside0.mk (below_step (by repeat (first | (with_reducible first | exact HB.out | apply below_alloc | apply pw_below_drewN | apply below_drew1) | exact HB.out)) hb); clear HO556; clear HB; have HO556 := n0_; have HO560 := n1_; have HB := n2_; clear n0_ n1_ n2_; (try clear hb); (try clear hb2); (try clear hk); (try clear hi); (try clear ho0)) | (go_at_call 20; (try simp only [i64_w]); (with_reducible refine (impl_DistinctIn.calls k t550 t561 t562 _ A6.out).mono ?_); rintro e w12 ⟨rfl, hb⟩; have n0_ := Aside0.mk (Kd.R_below (by (with_reducible repeat (first | apply Kd.R_alloc | apply Kd.R_drewN | apply Kd.R_drew)); exact HO556.out) hb); have n1_ := Aside0.mk (Kd.R_below (by (with_reducible repeat (first | apply Kd.R_alloc | apply Kd.R_drewN | apply Kd.R_drew)); exact HO560.out) hb); have n2_ := Aside0.mk (below_step (by repeat (first | (with_reducible first | exact HB.out | apply below_alloc | apply pw_below_drewN | apply below_drew1) | exact HB.out)) hb); clear HO556; clear HO560; clear HB; have HO556 := n0_; have HO560 := n1_; have HB := n2_; clear n0_ n1_ n2_; (try clear hb); (try clear hb2); (try clear hk); (try clear hi)) | (go_at_call 19; (try simp only [i64_w]); (with_reducible refine (spec_DistinctIn.calls k t550 t563 t564 _ A7.out).mono ?_); rintro e w13 ⟨rfl, hb⟩; have n0_ := Aside0.mk (Kd.R_below (by (with_reducible repeat (first | apply Kd.R_alloc | apply Kd.R_drewN | apply Kd.R_drew)); exact HO556.out) hb); have n1_ := Aside0.mk (Kd.R_below (by (with_reducible repeat (first | apply Kd.R_alloc | apply Kd.R_drewN | apply Kd.R_drew)); exact HO560.out) hb); have n2_ := Aside0.mk (below_step (by repeat (first | (with_reducible first | exact HB.out | apply below_alloc | apply pw_below_drewN | apply below_drew1) | exact HB.out)) hb); clear HO556; clear HO560; clear HB; have HO556 := n0_; have HO560 := n1_; have HB := n2_; clear n0_ n1_ n2_; (try clear hb); (try clear hb2); (try clear hk); (try clear hi)))
    repeat (go_quiet (first | (go_at_call 33; (try simp only [i64_w]); (with_reducible refine (spec_DrawRankOf.calls k _ _ l0 t550 t551 t552 _ ?side1 ?side2 A3.out).mono ?_); (case side1 => repeat (first | exact HR0.out | (with_reducible refine Kd.C_alloc ?_ _) | (with_reducible refine Kd.C_drewN ?_ _) | (with_reducible refine Kd.C_drew ?_))); (case side2 => exact HC0.out); rintro e w9 ⟨rfl, hb⟩; have n0_ := Aside0.mk (below_step (by repeat (first | (with_reducible first | exact HB.out | apply below_alloc | apply pw_below_drewN | apply below_drew1) | exact HB.out)) hb); clear HB; have HB := n0_; clear n0_; (try clear hb); (try clear hb2); (try clear hk); (try clear hi)) | (go_at_call 28; (try simp only [i64_w]); (with_reducible refine (impl_RankOf.calls t550 t551 t552 t553 t554 _ A4.out).mono ?_); rintro e w10 ⟨v555, rfl, ho0, hb⟩; have n0_ := Aside0.mk (Kd.R_lower ho0 (below_size (by repeat (first | (with_reducible first | exact HB.out | apply below_alloc | apply pw_below_drewN | apply below_drew1) | exact HB.out)))); have n1_ := Aside0.mk (below_step (by repeat (first | (with_reducible first | exact HB.out | apply below_alloc | apply pw_below_drewN | apply below_drew1) | exact HB.out)) hb); clear HB; have HO556 := n0_; have HB := n1_; clear n0_ n1_; (try clear hb); (try clear hb2); (try clear hk); (try clear hi); (try clear ho0)) | (go_at_call 27; (try simp only [i64_w]); (with_reducible refine (spec_RankOf.calls k t550 t551 t552 t557 t558 _ A5.out).mono ?_); rintro e w11 ⟨v559, rfl, ho0, hb⟩; have n0_ := Aside0.mk (Kd.R_elder' (by (with_reducible repeat (first | apply Kd.R_alloc | apply Kd.R_drewN | apply Kd.R_drew)); exact HO556.out) (Kd.R_base ho0) hb); have n1_ := Aside0.mk (Kd.R_lower (Kd.R_new' ho0 (Kd.R_lt (by (with_reducible repeat (first | apply Kd.R_alloc | apply Kd.R_drewN | apply Kd.R_drew)); exact HO556.out))) (below_size (by repeat (first | (with_reducible first | exact HB.out | apply below_alloc | apply pw_below_drewN | apply below_drew1) | exact HB.out)))); have n2_ := Aside0.mk (below_step (by repeat (first | (with_reducible first | exact HB.out | apply below_alloc | apply pw_below_drewN | apply below_drew1) | exact HB.out)) hb); clear HO556; clear HB; have HO556 := n0_; have HO560 := n1_; have HB := n2_; clear n0_ n1_ n2_; (try clear hb); (try clear hb2); (try clear hk); (try clear hi); (try clear ho0)) | (go_at_call 20; (try simp only [i64_w]); (with_reducible refine (impl_DistinctIn.calls k t550 t561 t562 _ A6.out).mono ?_); rintro e w12 ⟨rfl, hb⟩; have n0_ := Aside0.mk (Kd.R_below (by (with_reducible repeat (first | apply Kd.R_alloc | apply Kd.R_drewN | apply Kd.R_drew)); exact HO556.out) hb); have n1_ := Aside0.mk (Kd.R_below (by (with_reducible repeat (first | apply Kd.R_alloc | apply Kd.R_drewN | apply Kd.R_drew)); exact HO560.out) hb); have n2_ := Aside0.mk (below_step (by repeat (first | (with_reducible first | exact HB.out | apply below_alloc | apply pw_below_drewN | apply below_drew1) | exact HB.out)) hb); clear HO556; clear HO560; clear HB; have HO556 := n0_; have HO560 := n1_; have HB := n2_; clear n0_ n1_ n2_; (try clear hb); (try clear hb2); (try clear hk); (try clear hi)) | (go_at_call 19; (try simp only [i64_w]); (with_reducible refine (spec_DistinctIn.calls k t550 t563 t564 _ A7.out).mono ?_); rintro e w13 ⟨rfl, hb⟩; have n0_ := Aside0.mk (Kd.R_below (by (with_reducible repeat (first | apply Kd.R_alloc | apply Kd.R_drewN | apply Kd.R_drew)); exact HO556.out) hb); have n1_ := Aside0.mk (Kd.R_below (by (with_reducible repeat (first | apply Kd.R_alloc | apply Kd.R_drewN | apply Kd.R_drew)); exact HO560.out) hb); have n2_ := Aside0.mk (below_step (by repeat (first | (with_reducible first | exact HB.out | apply below_alloc | apply pw_below_drewN | apply below_drew1) | exact HB.out)) hb); clear HO556; clear HO560; clear HB; have HO556 := n0_; have HO560 := n1_; have HB := n2_; clear n0_ n1_ n2_; (try clear hb); (try clear hb2); (try clear hk); (try clear hi))); go_upto_region 8 with (first | (go_at_call 33; (try simp only [i64_w]); (with_reducible refine (spec_DrawRankOf.calls k _ _ l0 t550 t551 t552 _ ?side1 ?side2 A3.out).mono ?_); (case side1 => repeat (first | exact HR0.out | (with_reducible refine Kd.C_alloc ?_ _) | (with_reducible refine Kd.C_drewN ?_ _) | (with_reducible refine Kd.C_drew ?_))); (case side2 => exact HC0.out); rintro e w9 ⟨rfl, hb⟩; have n0_ := Aside0.mk (below_step (by repeat (first | (with_reducible first | exact HB.out | apply below_alloc | apply pw_below_drewN | apply below_drew1) | exact HB.out)) hb); clear HB; have HB := n0_; clear n0_; (try clear hb); (try clear hb2); (try clear hk); (try clear hi)) | (go_at_call 28; (try simp only [i64_w]); (with_reducible refine (impl_RankOf.calls t550 t551 t552 t553 t554 _ A4.out).mono ?_); rintro e w10 ⟨v555, rfl, ho0, hb⟩; have n0_ := Aside0.mk (Kd.R_lower ho0 (below_size (by repeat (first | (with_reducible first | exact HB.out | apply below_alloc | apply pw_below_drewN | apply below_drew1) | exact HB.out)))); have n1_ := Aside0.mk (below_step (by repeat (first | (with_reducible first | exact HB.out | apply below_alloc | apply pw_below_drewN | apply below_drew1) | exact HB.out)) hb); clear HB; have HO556 := n0_; have HB := n1_; clear n0_ n1_; (try clear hb); (try clear hb2); (try clear hk); (try clear hi); (try clear ho0)) | (go_at_call 27; (try simp only [i64_w]); (with_reducible refine (spec_RankOf.calls k t550 t551 t552 t557 t558 _ A5.out).mono ?_); rintro e w11 ⟨v559, rfl, ho0, hb⟩; have n0_ := Aside0.mk (Kd.R_elder' (by (with_reducible repeat (first | apply Kd.R_alloc | apply Kd.R_drewN | apply Kd.R_drew)); exact HO556.out) (Kd.R_base ho0) hb); have n1_ := Aside0.mk (Kd.R_lower (Kd.R_new' ho0 (Kd.R_lt (by (with_reducible repeat (first | apply Kd.R_alloc | apply Kd.R_drewN | apply Kd.R_drew)); exact HO556.out))) (below_size (by repeat (first | (with_reducible first | exact HB.out | apply below_alloc | apply pw_below_drewN | apply below_drew1) | exact HB.out)))); have n2_ := Aside0.mk (below_step (by repeat (first | (with_reducible first | exact HB.out | apply below_alloc | apply pw_below_drewN | apply below_drew1) | exact HB.out)) hb); clear HO556; clear HB; have HO556 := n0_; have HO560 := n1_; have HB := n2_; clear n0_ n1_ n2_; (try clear hb); (try clear hb2); (try clear hk); (try clear hi); (try clear ho0)) | (go_at_call 20; (try simp only [i64_w]); (with_reducible refine (impl_DistinctIn.calls k t550 t561 t562 _ A6.out).mono ?_); rintro e w12 ⟨rfl, hb⟩; have n0_ := Aside0.mk (Kd.R_below (by (with_reducible repeat (first | apply Kd.R_alloc | apply Kd.R_drewN | apply Kd.R_drew)); exact HO556.out) hb); have n1_ := Aside0.mk (Kd.R_below (by (with_reducible repeat (first | apply Kd.R_alloc | apply Kd.R_drewN | apply Kd.R_drew)); exact HO560.out) hb); have n2_ := Aside0.mk (below_step (by repeat (first | (with_reducible first | exact HB.out | apply below_alloc | apply pw_below_drewN | apply below_drew1) | exact HB.out)) hb); clear HO556; clear HO560; clear HB; have HO556 := n0_; have HO560 := n1_; have HB := n2_; clear n0_ n1_ n2_; (try clear hb); (try clear hb2); (try clear hk); (try clear hi)) | (go_at_call 19; (try simp only [i64_w]); (with_reducible refine (spec_DistinctIn.calls k t550 t563 t564 _ A7.out).mono ?_); rintro e w13 ⟨rfl, hb⟩; have n0_ := Aside0.mk (Kd.R_below (by (with_reducible repeat (first | apply Kd.R_alloc | apply Kd.R_drewN | apply Kd.R_drew)); exact HO556.out) hb); have n1_ := Aside0.mk (Kd.R_below (by (with_reducible repeat (first | apply Kd.R_alloc | apply Kd.R_drewN | apply Kd.R_drew)); exact HO560.out) hb); have n2_ := Aside0.mk (below_step (by repeat (first | (with_reducible first | exact HB.out | apply below_alloc | apply pw_below_drewN | apply below_drew1) | exact HB.out)) hb); clear HO556; clear HO560; clear HB; have HO556 := n0_; have HO560 := n1_; have HB := n2_; clear n0_ n1_ n2_; (try clear hb); (try clear hb2); (try clear hk); (try clear hi))))
    (try simp only [Act.put, List.setIfInBounds_toArray, List.set_cons_zero, List.set_cons_succ])
    go_cut [74] (fun v74 wc => ∃ (kq : Nat) (x74_7 : Bool), v74 = .bool x74_7 ∧ Aside0 (laws_FnDoubled.j0 kq t550 t551 t553 t554 x74_7 = some r) ∧ Aside0 (kq ≤ k) ∧ Aside0 (Kd.R (Kd.int .i64) 3 wc w.heap.size (fun _ => True) v555 t553) ∧ Aside0 (Below w.heap.size w wc))
    case first =>
      have H := HC8.out
      clear HC8
      by_cases c14 : (t554 != t558) = true
      · rw [if_pos c14] at H
        have c14b0 : (t554 != t558) = true := c14
        (try (have c14b1 : decide (t554 = t558) = false := by simpa using c14))
        (try (have c14b2 : (t554 == t558) = false := by simpa using c14))
        (try (have c14b3 : ¬ (t554 = t558) := by simpa using c14))
        clear c14
        (first | rw [c14b0] | (simp only [i64_w, i32_w]; rw [c14b0]) | skip)
        have H' := Aside0.mk H
        clear H
        go_wp2
        repeat (go_quiet (fail); try go_wp2)
        go_meet
        case rel => exact ⟨_, (true), (by first | rfl | (simp; done) | (simp [*]; done)), H', ⟨by first | omega | exact Nat.le_refl _⟩, ⟨by (with_reducible repeat (first | apply Kd.R_alloc | apply Kd.R_drewN | apply Kd.R_drew)); exact Kd.R_mono HO556.out (fun _ hk => trivial)⟩, ⟨by repeat (first | (with_reducible first | exact HB.out | apply below_alloc | apply pw_below_drewN | apply below_drew1) | exact HB.out)⟩⟩
      · rw [if_neg c14] at H
        have c14b0 : (t554 != t558) = false := by simpa using c14
        (try (have c14b1 : decide (t554 = t558) = true := by simpa using c14))
        (try (have c14b2 : (t554 == t558) = true := by simpa using c14))
        clear c14
        (first | rw [c14b0] | (simp only [i64_w, i32_w]; rw [c14b0]) | skip)
        replace H := Option.bind_eq_some_iff.mp H
        obtain ⟨t565, A150, H⟩ := H
        replace H : (if t565 = true then (if (t562 != t564) = true then (laws_FnDoubled.j0 k t550 t551 t553 t554 true) else (laws_FnDoubled.j0 k t550 t551 t553 t554 (t561 != t563))) else (laws_FnDoubled.j0 k t550 t551 t553 t554 true)) = some r := H
        have A15 := Aside0.mk A150
        clear A150
        by_cases c16 : t565 = true
        · subst c16
          have H1 : (if (t562 != t564) = true then (laws_FnDoubled.j0 k t550 t551 t553 t554 true) else (laws_FnDoubled.j0 k t550 t551 t553 t554 (t561 != t563))) = some r := by rw [if_pos rfl] at H; exact H
          clear H
          have H := H1
          clear H1
          by_cases c17 : (t562 != t564) = true
          · rw [if_pos c17] at H
            have c17b0 : (t562 != t564) = true := c17
            (try (have c17b1 : decide (t562 = t564) = false := by simpa using c17))
            (try (have c17b2 : (t562 == t564) = false := by simpa using c17))
            (try (have c17b3 : ¬ (t562 = t564) := by simpa using c17))
            clear c17
            have H' := Aside0.mk H
            clear H
            obtain ⟨Ao18, co18, eo18⟩ := Kd.R_slice HO556.out
            subst eo18
            obtain ⟨Ao19, co19, eo19⟩ := Kd.R_slice HO560.out
            subst eo19
            go_wp2_with (first | (go_at_call 32; (try simp only [i64_w]); (with_reducible refine (laws_sameInts.calls k _ _ t553 _ _ t557 true _ ?side1 ?side2 ?side3 ?side4 A15.out).mono ?_); (case side1 => repeat (first | exact (Kd.R_reads' HO556.out).2.2 | (with_reducible refine Kd.C_alloc ?_ _) | (with_reducible refine Kd.C_drewN ?_ _) | (with_reducible refine Kd.C_drew ?_))); (case side2 => exact (Kd.R_reads' HO556.out).2.1); (case side3 => repeat (first | exact (Kd.R_reads' HO560.out).2.2 | (with_reducible refine Kd.C_alloc ?_ _) | (with_reducible refine Kd.C_drewN ?_ _) | (with_reducible refine Kd.C_drew ?_))); (case side4 => exact (Kd.R_reads' HO560.out).2.1); rintro e w' ⟨rfl, ⟨nd, rfl⟩⟩; (try first | exact ⟨rfl, _, World.drewN_drewN _ _ _⟩ | exact ⟨rfl, _, Eq.trans (World.drewN_drewN _ _ _) (congrArg (World.drewN _) (Nat.add_assoc _ _ _))⟩)))
            repeat (go_quiet (first | (go_at_call 32; (try simp only [i64_w]); (with_reducible refine (laws_sameInts.calls k _ _ t553 _ _ t557 true _ ?side1 ?side2 ?side3 ?side4 A15.out).mono ?_); (case side1 => repeat (first | exact (Kd.R_reads' HO556.out).2.2 | (with_reducible refine Kd.C_alloc ?_ _) | (with_reducible refine Kd.C_drewN ?_ _) | (with_reducible refine Kd.C_drew ?_))); (case side2 => exact (Kd.R_reads' HO556.out).2.1); (case side3 => repeat (first | exact (Kd.R_reads' HO560.out).2.2 | (with_reducible refine Kd.C_alloc ?_ _) | (with_reducible refine Kd.C_drewN ?_ _) | (with_reducible refine Kd.C_drew ?_))); (case side4 => exact (Kd.R_reads' HO560.out).2.1); rintro e w' ⟨rfl, ⟨nd, rfl⟩⟩; (try first | exact ⟨rfl, _, World.drewN_drewN _ _ _⟩ | exact ⟨rfl, _, Eq.trans (World.drewN_drewN _ _ _) (congrArg (World.drewN _) (Nat.add_assoc _ _ _))⟩))); try go_wp2_with (first | (go_at_call 32; (try simp only [i64_w]); (with_reducible refine (laws_sameInts.calls k _ _ t553 _ _ t557 true _ ?side1 ?side2 ?side3 ?side4 A15.out).mono ?_); (case side1 => repeat (first | exact (Kd.R_reads' HO556.out).2.2 | (with_reducible refine Kd.C_alloc ?_ _) | (with_reducible refine Kd.C_drewN ?_ _) | (with_reducible refine Kd.C_drew ?_))); (case side2 => exact (Kd.R_reads' HO556.out).2.1); (case side3 => repeat (first | exact (Kd.R_reads' HO560.out).2.2 | (with_reducible refine Kd.C_alloc ?_ _) | (with_reducible refine Kd.C_drewN ?_ _) | (with_reducible refine Kd.C_drew ?_))); (case side4 => exact (Kd.R_reads' HO560.out).2.1); rintro e w' ⟨rfl, ⟨nd, rfl⟩⟩; (try first | exact ⟨rfl, _, World.drewN_drewN _ _ _⟩ | exact ⟨rfl, _, Eq.trans (World.drewN_drewN _ _ _) (congrArg (World.drewN _) (Nat.add_assoc _ _ _))⟩))))
            go_meet
            case rel => exact ⟨_, (true), (by first | rfl | (simp; done) | (simp [*]; done)), H', ⟨by first | omega | exact Nat.le_refl _⟩, ⟨by (with_reducible repeat (first | apply Kd.R_alloc | apply Kd.R_drewN | apply Kd.R_drew)); exact Kd.R_mono HO556.out (fun _ hk => trivial)⟩, ⟨by repeat (first | (with_reducible first | exact HB.out | apply below_alloc | apply pw_below_drewN | apply below_drew1) | exact HB.out)⟩⟩
          · rw [if_neg c17] at H
            have c17b0 : (t562 != t564) = false := by simpa using c17
            (try (have c17b1 : decide (t562 = t564) = true := by simpa using c17))
            (try (have c17b2 : (t562 == t564) = true := by simpa using c17))
            clear c17
            have H' := Aside0.mk H
            clear H
            obtain ⟨Ao20, co20, eo20⟩ := Kd.R_slice HO556.out
            subst eo20
            obtain ⟨Ao21, co21, eo21⟩ := Kd.R_slice HO560.out
            subst eo21
            go_wp2_with (first | (go_at_call 32; (try simp only [i64_w]); (with_reducible refine (laws_sameInts.calls k _ _ t553 _ _ t557 true _ ?side1 ?side2 ?side3 ?side4 A15.out).mono ?_); (case side1 => repeat (first | exact (Kd.R_reads' HO556.out).2.2 | (with_reducible refine Kd.C_alloc ?_ _) | (with_reducible refine Kd.C_drewN ?_ _) | (with_reducible refine Kd.C_drew ?_))); (case side2 => exact (Kd.R_reads' HO556.out).2.1); (case side3 => repeat (first | exact (Kd.R_reads' HO560.out).2.2 | (with_reducible refine Kd.C_alloc ?_ _) | (with_reducible refine Kd.C_drewN ?_ _) | (with_reducible refine Kd.C_drew ?_))); (case side4 => exact (Kd.R_reads' HO560.out).2.1); rintro e w' ⟨rfl, ⟨nd, rfl⟩⟩; (try first | exact ⟨rfl, _, World.drewN_drewN _ _ _⟩ | exact ⟨rfl, _, Eq.trans (World.drewN_drewN _ _ _) (congrArg (World.drewN _) (Nat.add_assoc _ _ _))⟩)))
            repeat (go_quiet (first | (go_at_call 32; (try simp only [i64_w]); (with_reducible refine (laws_sameInts.calls k _ _ t553 _ _ t557 true _ ?side1 ?side2 ?side3 ?side4 A15.out).mono ?_); (case side1 => repeat (first | exact (Kd.R_reads' HO556.out).2.2 | (with_reducible refine Kd.C_alloc ?_ _) | (with_reducible refine Kd.C_drewN ?_ _) | (with_reducible refine Kd.C_drew ?_))); (case side2 => exact (Kd.R_reads' HO556.out).2.1); (case side3 => repeat (first | exact (Kd.R_reads' HO560.out).2.2 | (with_reducible refine Kd.C_alloc ?_ _) | (with_reducible refine Kd.C_drewN ?_ _) | (with_reducible refine Kd.C_drew ?_))); (case side4 => exact (Kd.R_reads' HO560.out).2.1); rintro e w' ⟨rfl, ⟨nd, rfl⟩⟩; (try first | exact ⟨rfl, _, World.drewN_drewN _ _ _⟩ | exact ⟨rfl, _, Eq.trans (World.drewN_drewN _ _ _) (congrArg (World.drewN _) (Nat.add_assoc _ _ _))⟩))); try go_wp2_with (first | (go_at_call 32; (try simp only [i64_w]); (with_reducible refine (laws_sameInts.calls k _ _ t553 _ _ t557 true _ ?side1 ?side2 ?side3 ?side4 A15.out).mono ?_); (case side1 => repeat (first | exact (Kd.R_reads' HO556.out).2.2 | (with_reducible refine Kd.C_alloc ?_ _) | (with_reducible refine Kd.C_drewN ?_ _) | (with_reducible refine Kd.C_drew ?_))); (case side2 => exact (Kd.R_reads' HO556.out).2.1); (case side3 => repeat (first | exact (Kd.R_reads' HO560.out).2.2 | (with_reducible refine Kd.C_alloc ?_ _) | (with_reducible refine Kd.C_drewN ?_ _) | (with_reducible refine Kd.C_drew ?_))); (case side4 => exact (Kd.R_reads' HO560.out).2.1); rintro e w' ⟨rfl, ⟨nd, rfl⟩⟩; (try first | exact ⟨rfl, _, World.drewN_drewN _ _ _⟩ | exact ⟨rfl, _, Eq.trans (World.drewN_drewN _ _ _) (congrArg (World.drewN _) (Nat.add_assoc _ _ _))⟩))))
            go_meet
            case rel => exact ⟨_, ((t561 != t563)), (by first | rfl | (simp; done) | (simp [*]; done)), H', ⟨by first | omega | exact Nat.le_refl _⟩, ⟨by (with_reducible repeat (first | apply Kd.R_alloc | apply Kd.R_drewN | apply Kd.R_drew)); exact Kd.R_mono HO556.out (fun _ hk => trivial)⟩, ⟨by repeat (first | (with_reducible first | exact HB.out | apply below_alloc | apply pw_below_drewN | apply below_drew1) | exact HB.out)⟩⟩
        · replace c16 := Bool.eq_false_iff.mpr c16
          subst c16
          have H1 : (laws_FnDoubled.j0 k t550 t551 t553 t554 true) = some r := by rw [if_neg (show ¬ (false = true) by decide)] at H; exact H
          clear H
          have H := H1
          clear H1
          have H' := Aside0.mk H
          clear H
          obtain ⟨Ao22, co22, eo22⟩ := Kd.R_slice HO556.out
          subst eo22
          obtain ⟨Ao23, co23, eo23⟩ := Kd.R_slice HO560.out
          subst eo23
          go_wp2_with (first | (go_at_call 32; (try simp only [i64_w]); (with_reducible refine (laws_sameInts.calls k _ _ t553 _ _ t557 false _ ?side1 ?side2 ?side3 ?side4 A15.out).mono ?_); (case side1 => repeat (first | exact (Kd.R_reads' HO556.out).2.2 | (with_reducible refine Kd.C_alloc ?_ _) | (with_reducible refine Kd.C_drewN ?_ _) | (with_reducible refine Kd.C_drew ?_))); (case side2 => exact (Kd.R_reads' HO556.out).2.1); (case side3 => repeat (first | exact (Kd.R_reads' HO560.out).2.2 | (with_reducible refine Kd.C_alloc ?_ _) | (with_reducible refine Kd.C_drewN ?_ _) | (with_reducible refine Kd.C_drew ?_))); (case side4 => exact (Kd.R_reads' HO560.out).2.1); rintro e w' ⟨rfl, ⟨nd, rfl⟩⟩; (try first | exact ⟨rfl, _, World.drewN_drewN _ _ _⟩ | exact ⟨rfl, _, Eq.trans (World.drewN_drewN _ _ _) (congrArg (World.drewN _) (Nat.add_assoc _ _ _))⟩)))
          repeat (go_quiet (first | (go_at_call 32; (try simp only [i64_w]); (with_reducible refine (laws_sameInts.calls k _ _ t553 _ _ t557 false _ ?side1 ?side2 ?side3 ?side4 A15.out).mono ?_); (case side1 => repeat (first | exact (Kd.R_reads' HO556.out).2.2 | (with_reducible refine Kd.C_alloc ?_ _) | (with_reducible refine Kd.C_drewN ?_ _) | (with_reducible refine Kd.C_drew ?_))); (case side2 => exact (Kd.R_reads' HO556.out).2.1); (case side3 => repeat (first | exact (Kd.R_reads' HO560.out).2.2 | (with_reducible refine Kd.C_alloc ?_ _) | (with_reducible refine Kd.C_drewN ?_ _) | (with_reducible refine Kd.C_drew ?_))); (case side4 => exact (Kd.R_reads' HO560.out).2.1); rintro e w' ⟨rfl, ⟨nd, rfl⟩⟩; (try first | exact ⟨rfl, _, World.drewN_drewN _ _ _⟩ | exact ⟨rfl, _, Eq.trans (World.drewN_drewN _ _ _) (congrArg (World.drewN _) (Nat.add_assoc _ _ _))⟩))); try go_wp2_with (first | (go_at_call 32; (try simp only [i64_w]); (with_reducible refine (laws_sameInts.calls k _ _ t553 _ _ t557 false _ ?side1 ?side2 ?side3 ?side4 A15.out).mono ?_); (case side1 => repeat (first | exact (Kd.R_reads' HO556.out).2.2 | (with_reducible refine Kd.C_alloc ?_ _) | (with_reducible refine Kd.C_drewN ?_ _) | (with_reducible refine Kd.C_drew ?_))); (case side2 => exact (Kd.R_reads' HO556.out).2.1); (case side3 => repeat (first | exact (Kd.R_reads' HO560.out).2.2 | (with_reducible refine Kd.C_alloc ?_ _) | (with_reducible refine Kd.C_drewN ?_ _) | (with_reducible refine Kd.C_drew ?_))); (case side4 => exact (Kd.R_reads' HO560.out).2.1); rintro e w' ⟨rfl, ⟨nd, rfl⟩⟩; (try first | exact ⟨rfl, _, World.drewN_drewN _ _ _⟩ | exact ⟨rfl, _, Eq.trans (World.drewN_drewN _ _ _) (congrArg (World.drewN _) (Nat.add_assoc _ _ _))⟩))))
          go_meet
          case rel => exact ⟨_, (true), (by first | rfl | (simp; done) | (simp [*]; done)), H', ⟨by first | omega | exact Nat.le_refl _⟩, ⟨by (with_reducible repeat (first | apply Kd.R_alloc | apply Kd.R_drewN | apply Kd.R_drew)); exact Kd.R_mono HO556.out (fun _ hk => trivial)⟩, ⟨by repeat (first | (with_reducible first | exact HB.out | apply below_alloc | apply pw_below_drewN | apply below_drew1) | exact HB.out)⟩⟩
    case rest =>
      clear HC8
      try clear c1
      try clear c2
      try clear c2b0
      try clear c2b1
      try clear p2
      try clear c11
      try clear c14
      try clear c14b0
      try clear c14b1
      try clear c14b2
      try clear c16
      try clear c17
      try clear c17b0
      try clear c17b1
      try clear c17b2
      obtain ⟨kq, x74_7, rfl, HA, HJ7, HO_6, HB⟩ := hcut
      cases kq with
      | zero => exact absurd HA.out (by simp [laws_FnDoubled.j0])
      | succ kj7 =>
        have H := HA.out
        clear HA
        simp only [laws_FnDoubled.j0] at H
        by_cases c24 : x74_7 = true
        · subst c24
          have H1 : (some false) = some r := by rw [if_pos rfl] at H; exact H
          clear H
          have H := H1
          clear H1
          obtain rfl := Option.some.inj H
          go_wp2
          repeat (go_quiet (fail); try go_wp2)
          go_ret
          exact ⟨by first | rfl | (simp [errW_none, errW_some] <;> rfl) | (simp [*, errW_none, errW_some] <;> rfl), by repeat (first | (with_reducible first | exact HB.out | apply below_alloc | apply pw_below_drewN | apply below_drew1) | exact HB.out)⟩
        · replace c24 := Bool.eq_false_iff.mpr c24
          subst c24
          have H1 : (if t554 = true then ((impl_RankOf.f t550 t551 0).bind fun bt566 => ((impl_RankOf.f t550 t551 1).bind fun bt570 => (if bt566.2 = true then (if bt570.2 = true then (if (bt566.1.length : Int) = (t550.size : Int) then (laws_FnDoubled.j1 kj7 t550 t551 bt566.1 bt570.1 ((bt570.1.length : Int) != (t550.size : Int))) else (laws_FnDoubled.j1 kj7 t550 t551 bt566.1 bt570.1 true)) else (laws_FnDoubled.j1 kj7 t550 t551 bt566.1 bt570.1 true)) else (laws_FnDoubled.j1 kj7 t550 t551 bt566.1 bt570.1 true)))) else (some ((t553.length : Int) == 0))) = some r := by rw [if_neg (show ¬ (false = true) by decide)] at H; exact H
          clear H
          have H := H1
          clear H1
          by_cases c25 : t554 = true
          · subst c25
            have H1 : ((impl_RankOf.f t550 t551 0).bind fun bt566 => ((impl_RankOf.f t550 t551 1).bind fun bt570 => (if bt566.2 = true then (if bt570.2 = true then (if (bt566.1.length : Int) = (t550.size : Int) then (laws_FnDoubled.j1 kj7 t550 t551 bt566.1 bt570.1 ((bt570.1.length : Int) != (t550.size : Int))) else (laws_FnDoubled.j1 kj7 t550 t551 bt566.1 bt570.1 true)) else (laws_FnDoubled.j1 kj7 t550 t551 bt566.1 bt570.1 true)) else (laws_FnDoubled.j1 kj7 t550 t551 bt566.1 bt570.1 true)))) = some r := by rw [if_pos rfl] at H; exact H
            clear H
            have H := H1
            clear H1
            replace H := Option.bind_eq_some_iff.mp H
            obtain ⟨⟨t566, t567⟩, A260, H⟩ := H
            replace H : ((impl_RankOf.f t550 t551 1).bind fun bt570 => (if t567 = true then (if bt570.2 = true then (if (t566.length : Int) = (t550.size : Int) then (laws_FnDoubled.j1 kj7 t550 t551 t566 bt570.1 ((bt570.1.length : Int) != (t550.size : Int))) else (laws_FnDoubled.j1 kj7 t550 t551 t566 bt570.1 true)) else (laws_FnDoubled.j1 kj7 t550 t551 t566 bt570.1 true)) else (laws_FnDoubled.j1 kj7 t550 t551 t566 bt570.1 true))) = some r := H
            have A26 := Aside0.mk A260
            clear A260
            replace H := Option.bind_eq_some_iff.mp H
            obtain ⟨⟨t570, t571⟩, A270, H⟩ := H
            replace H : (if t567 = true then (if t571 = true then (if (t566.length : Int) = (t550.size : Int) then (laws_FnDoubled.j1 kj7 t550 t551 t566 t570 ((t570.length : Int) != (t550.size : Int))) else (laws_FnDoubled.j1 kj7 t550 t551 t566 t570 true)) else (laws_FnDoubled.j1 kj7 t550 t551 t566 t570 true)) else (laws_FnDoubled.j1 kj7 t550 t551 t566 t570 true)) = some r := H
            have A27 := Aside0.mk A270
            clear A270
            have HC28 := Aside0.mk H
            clear H
            go_upto_region 14 with (first | (go_at_call 28; (try simp only [i64_w]); (with_reducible refine (impl_RankOf.calls t550 t551 0 t566 t567 _ A26.out).mono ?_); rintro e w29 ⟨v568, rfl, ho0, hb⟩; have n0_ := Aside0.mk (Kd.R_elder' (by (with_reducible repeat (first | apply Kd.R_alloc | apply Kd.R_drewN | apply Kd.R_drew)); exact HO_6.out) (Kd.R_base ho0) hb); have n1_ := Aside0.mk (Kd.R_lower (Kd.R_new' ho0 (Kd.R_lt (by (with_reducible repeat (first | apply Kd.R_alloc | apply Kd.R_drewN | apply Kd.R_drew)); exact HO_6.out))) (below_size (by repeat (first | (with_reducible first | exact HB.out | apply below_alloc | apply pw_below_drewN | apply below_drew1) | exact HB.out)))); have n2_ := Aside0.mk (below_step (by repeat (first | (with_reducible first | exact HB.out | apply below_alloc | apply pw_below_drewN | apply below_drew1) | exact HB.out)) hb); clear HO_6; clear HB; have HO_6 := n0_; have HO569 := n1_; have HB := n2_; clear n0_ n1_ n2_; (try clear hb); (try clear hb2); (try clear hk); (try clear hi); (try clear ho0)) | (go_at_call 28; (try simp only [i64_w]); (with_reducible refine (impl_RankOf.calls t550 t551 1 t570 t571 _ A27.out).mono ?_); rintro e w30 ⟨v572, rfl, ho0, hb⟩; have n0_ := Aside0.mk (Kd.R_elder' (by (with_reducible repeat (first | apply Kd.R_alloc | apply Kd.R_drewN | apply Kd.R_drew)); exact HO_6.out) (Kd.R_base ho0) hb); have n1_ := Aside0.mk (Kd.R_elder' (by (with_reducible repeat (first | apply Kd.R_alloc | apply Kd.R_drewN | apply Kd.R_drew)); exact HO569.out) (Kd.R_base ho0) hb); have n2_ := Aside0.mk (Kd.R_lower (Kd.R_new' (Kd.R_new' ho0 (Kd.R_lt (by (with_reducible repeat (first | apply Kd.R_alloc | apply Kd.R_drewN | apply Kd.R_drew)); exact HO_6.out))) (Kd.R_lt (by (with_reducible repeat (first | apply Kd.R_alloc | apply Kd.R_drewN | apply Kd.R_drew)); exact HO569.out))) (below_size (by repeat (first | (with_reducible first | exact HB.out | apply below_alloc | apply pw_below_drewN | apply below_drew1) | exact HB.out)))); have n3_ := Aside0.mk (below_step (by repeat (first | (with_reducible first | exact HB.out | apply below_alloc | apply pw_below_drewN | apply below_drew1) | exact HB.out)) hb); clear HO_6; clear HO569; clear HB; have HO_6 := n0_; have HO569 := n1_; have HO573 := n2_; have HB := n3_; clear n0_ n1_ n2_ n3_; (try clear hb); (try clear hb2); (try clear hk); (try clear hi); (try clear ho0)))
            repeat (go_quiet (first | (go_at_call 28; (try simp only [i64_w]); (with_reducible refine (impl_RankOf.calls t550 t551 0 t566 t567 _ A26.out).mono ?_); rintro e w29 ⟨v568, rfl, ho0, hb⟩; have n0_ := Aside0.mk (Kd.R_elder' (by (with_reducible repeat (first | apply Kd.R_alloc | apply Kd.R_drewN | apply Kd.R_drew)); exact HO_6.out) (Kd.R_base ho0) hb); have n1_ := Aside0.mk (Kd.R_lower (Kd.R_new' ho0 (Kd.R_lt (by (with_reducible repeat (first | apply Kd.R_alloc | apply Kd.R_drewN | apply Kd.R_drew)); exact HO_6.out))) (below_size (by repeat (first | (with_reducible first | exact HB.out | apply below_alloc | apply pw_below_drewN | apply below_drew1) | exact HB.out)))); have n2_ := Aside0.mk (below_step (by repeat (first | (with_reducible first | exact HB.out | apply below_alloc | apply pw_below_drewN | apply below_drew1) | exact HB.out)) hb); clear HO_6; clear HB; have HO_6 := n0_; have HO569 := n1_; have HB := n2_; clear n0_ n1_ n2_; (try clear hb); (try clear hb2); (try clear hk); (try clear hi); (try clear ho0)) | (go_at_call 28; (try simp only [i64_w]); (with_reducible refine (impl_RankOf.calls t550 t551 1 t570 t571 _ A27.out).mono ?_); rintro e w30 ⟨v572, rfl, ho0, hb⟩; have n0_ := Aside0.mk (Kd.R_elder' (by (with_reducible repeat (first | apply Kd.R_alloc | apply Kd.R_drewN | apply Kd.R_drew)); exact HO_6.out) (Kd.R_base ho0) hb); have n1_ := Aside0.mk (Kd.R_elder' (by (with_reducible repeat (first | apply Kd.R_alloc | apply Kd.R_drewN | apply Kd.R_drew)); exact HO569.out) (Kd.R_base ho0) hb); have n2_ := Aside0.mk (Kd.R_lower (Kd.R_new' (Kd.R_new' ho0 (Kd.R_lt (by (with_reducible repeat (first | apply Kd.R_alloc | apply Kd.R_drewN | apply Kd.R_drew)); exact HO_6.out))) (Kd.R_lt (by (with_reducible repeat (first | apply Kd.R_alloc | apply Kd.R_drewN | apply Kd.R_drew)); exact HO569.out))) (below_size (by repeat (first | (with_reducible first | exact HB.out | apply below_alloc | apply pw_below_drewN | apply below_drew1) | exact HB.out)))); have n3_ := Aside0.mk (below_step (by repeat (first | (with_reducible first | exact HB.out | apply below_alloc | apply pw_below_drewN | apply below_drew1) | exact HB.out)) hb); clear HO_6; clear HO569; clear HB; have HO_6 := n0_; have HO569 := n1_; have HO573 := n2_; have HB := n3_; clear n0_ n1_ n2_ n3_; (try clear hb); (try clear hb2); (try clear hk); (try clear hi); (try clear ho0))); go_upto_region 14 with (first | (go_at_call 28; (try simp only [i64_w]); (with_reducible refine (impl_RankOf.calls t550 t551 0 t566 t567 _ A26.out).mono ?_); rintro e w29 ⟨v568, rfl, ho0, hb⟩; have n0_ := Aside0.mk (Kd.R_elder' (by (with_reducible repeat (first | apply Kd.R_alloc | apply Kd.R_drewN | apply Kd.R_drew)); exact HO_6.out) (Kd.R_base ho0) hb); have n1_ := Aside0.mk (Kd.R_lower (Kd.R_new' ho0 (Kd.R_lt (by (with_reducible repeat (first | apply Kd.R_alloc | apply Kd.R_drewN | apply Kd.R_drew)); exact HO_6.out))) (below_size (by repeat (first | (with_reducible first | exact HB.out | apply below_alloc | apply pw_below_drewN | apply below_drew1) | exact HB.out)))); have n2_ := Aside0.mk (below_step (by repeat (first | (with_reducible first | exact HB.out | apply below_alloc | apply pw_below_drewN | apply below_drew1) | exact HB.out)) hb); clear HO_6; clear HB; have HO_6 := n0_; have HO569 := n1_; have HB := n2_; clear n0_ n1_ n2_; (try clear hb); (try clear hb2); (try clear hk); (try clear hi); (try clear ho0)) | (go_at_call 28; (try simp only [i64_w]); (with_reducible refine (impl_RankOf.calls t550 t551 1 t570 t571 _ A27.out).mono ?_); rintro e w30 ⟨v572, rfl, ho0, hb⟩; have n0_ := Aside0.mk (Kd.R_elder' (by (with_reducible repeat (first | apply Kd.R_alloc | apply Kd.R_drewN | apply Kd.R_drew)); exact HO_6.out) (Kd.R_base ho0) hb); have n1_ := Aside0.mk (Kd.R_elder' (by (with_reducible repeat (first | apply Kd.R_alloc | apply Kd.R_drewN | apply Kd.R_drew)); exact HO569.out) (Kd.R_base ho0) hb); have n2_ := Aside0.mk (Kd.R_lower (Kd.R_new' (Kd.R_new' ho0 (Kd.R_lt (by (with_reducible repeat (first | apply Kd.R_alloc | apply Kd.R_drewN | apply Kd.R_drew)); exact HO_6.out))) (Kd.R_lt (by (with_reducible repeat (first | apply Kd.R_alloc | apply Kd.R_drewN | apply Kd.R_drew)); exact HO569.out))) (below_size (by repeat (first | (with_reducible first | exact HB.out | apply below_alloc | apply pw_below_drewN | apply below_drew1) | exact HB.out)))); have n3_ := Aside0.mk (below_step (by repeat (first | (with_reducible first | exact HB.out | apply below_alloc | apply pw_below_drewN | apply below_drew1) | exact HB.out)) hb); clear HO_6; clear HO569; clear HB; have HO_6 := n0_; have HO569 := n1_; have HO573 := n2_; have HB := n3_; clear n0_ n1_ n2_ n3_; (try clear hb); (try clear hb2); (try clear hk); (try clear hi); (try clear ho0))))
            (try simp only [Act.put, List.setIfInBounds_toArray, List.set_cons_zero, List.set_cons_succ])
            go_cut [111] (fun v111 wc => ∃ (kq : Nat) (x111_27 : Bool), v111 = .bool x111_27 ∧ Aside0 (laws_FnDoubled.j1 kq t550 t551 t566 t570 x111_27 = some r) ∧ Aside0 (kq ≤ kj7) ∧ Aside0 (Kd.R (Kd.int .i64) 3 wc w.heap.size (fun k_ => some k_ ≠ (v572 : Value).ownBlock) v568 t566) ∧ Aside0 (Kd.R (Kd.int .i64) 3 wc w.heap.size (fun k_ => some k_ ≠ (v568 : Value).ownBlock) v572 t570) ∧ Aside0 (Below w.heap.size w wc))
            case first =>
              have H := HC28.out
              clear HC28
              by_cases c31 : t567 = true
              · subst c31
                have H1 : (if t571 = true then (if (t566.length : Int) = (t550.size : Int) then (laws_FnDoubled.j1 kj7 t550 t551 t566 t570 ((t570.length : Int) != (t550.size : Int))) else (laws_FnDoubled.j1 kj7 t550 t551 t566 t570 true)) else (laws_FnDoubled.j1 kj7 t550 t551 t566 t570 true)) = some r := by rw [if_pos rfl] at H; exact H
                clear H
                have H := H1
                clear H1
                by_cases c32 : t571 = true
                · subst c32
                  have H1 : (if (t566.length : Int) = (t550.size : Int) then (laws_FnDoubled.j1 kj7 t550 t551 t566 t570 ((t570.length : Int) != (t550.size : Int))) else (laws_FnDoubled.j1 kj7 t550 t551 t566 t570 true)) = some r := by rw [if_pos rfl] at H; exact H
                  clear H
                  have H := H1
                  clear H1
                  by_cases c33 : (t566.length : Int) = (t550.size : Int)
                  · rw [if_pos c33] at H
                    have c33b0 : ((t566.length : Int) == (t550.size : Int)) = true := beq_iff_eq.mpr c33
                    have c33b1 : ((t566.length : Int) != (t550.size : Int)) = false := bne_eq_false_iff_eq.mpr c33
                    have c33b2 : (t566.length == t550.size) = true := by first | simpa using c33 | (simp at c33 ⊢; omega)
                    clear c33
                    (first | rw [c33b0] | (simp only [i64_w, i32_w]; rw [c33b0]) | skip)
                    have H' := Aside0.mk H
                    clear H
                    obtain ⟨Ao34, co34, eo34⟩ := Kd.R_slice HO569.out
                    subst eo34
                    obtain ⟨Ao35, co35, eo35⟩ := Kd.R_slice HO573.out
                    subst eo35
                    go_wp2
                    repeat (go_quiet (fail); try go_wp2)
                    go_meet
                    case rel => exact ⟨_, (((t570.length : Int) != (t550.size : Int))), (by first | rfl | (simp; done) | (simp [*]; done)), H', ⟨by have := HJ7.out; first | omega | exact Nat.le_refl _⟩, ⟨by (with_reducible repeat (first | apply Kd.R_alloc | apply Kd.R_drewN | apply Kd.R_drew)); exact Kd.R_mono HO569.out (fun _ hk => hk.2)⟩, ⟨by (with_reducible repeat (first | apply Kd.R_alloc | apply Kd.R_drewN | apply Kd.R_drew)); exact Kd.R_mono HO573.out (fun _ hk => hk.2)⟩, ⟨by repeat (first | (with_reducible first | exact HB.out | apply below_alloc | apply pw_below_drewN | apply below_drew1) | exact HB.out)⟩⟩
                  · rw [if_neg c33] at H
                    have c33b0 : ((t566.length : Int) == (t550.size : Int)) = false := beq_eq_false_iff_ne.mpr c33
                    have c33b1 : ((t566.length : Int) != (t550.size : Int)) = true := bne_iff_ne.mpr c33
                    have c33b2 : (t566.length == t550.size) = false := by first | simpa using c33 | (simp at c33 ⊢; omega)
                    (first | rw [c33b0] | (simp only [i64_w, i32_w]; rw [c33b0]) | skip)
                    have H' := Aside0.mk H
                    clear H
                    obtain ⟨Ao36, co36, eo36⟩ := Kd.R_slice HO569.out
                    subst eo36
                    go_wp2
                    repeat (go_quiet (fail); try go_wp2)
                    go_meet
                    case rel => exact ⟨_, (true), (by first | rfl | (simp; done) | (simp [*]; done)), H', ⟨by have := HJ7.out; first | omega | exact Nat.le_refl _⟩, ⟨by (with_reducible repeat (first | apply Kd.R_alloc | apply Kd.R_drewN | apply Kd.R_drew)); exact Kd.R_mono HO569.out (fun _ hk => hk.2)⟩, ⟨by (with_reducible repeat (first | apply Kd.R_alloc | apply Kd.R_drewN | apply Kd.R_drew)); exact Kd.R_mono HO573.out (fun _ hk => hk.2)⟩, ⟨by repeat (first | (with_reducible first | exact HB.out | apply below_alloc | apply pw_below_drewN | apply below_drew1) | exact HB.out)⟩⟩
                · replace c32 := Bool.eq_false_iff.mpr c32
                  subst c32
                  have H1 : (laws_FnDoubled.j1 kj7 t550 t551 t566 t570 true) = some r := by rw [if_neg (show ¬ (false = true) by decide)] at H; exact H
                  clear H
                  have H := H1
                  clear H1
                  have H' := Aside0.mk H
                  clear H
                  go_wp2
                  repeat (go_quiet (fail); try go_wp2)
                  go_meet
                  case rel => exact ⟨_, (true), (by first | rfl | (simp; done) | (simp [*]; done)), H', ⟨by have := HJ7.out; first | omega | exact Nat.le_refl _⟩, ⟨by (with_reducible repeat (first | apply Kd.R_alloc | apply Kd.R_drewN | apply Kd.R_drew)); exact Kd.R_mono HO569.out (fun _ hk => hk.2)⟩, ⟨by (with_reducible repeat (first | apply Kd.R_alloc | apply Kd.R_drewN | apply Kd.R_drew)); exact Kd.R_mono HO573.out (fun _ hk => hk.2)⟩, ⟨by repeat (first | (with_reducible first | exact HB.out | apply below_alloc | apply pw_below_drewN | apply below_drew1) | exact HB.out)⟩⟩
              · replace c31 := Bool.eq_false_iff.mpr c31
                subst c31
                have H1 : (laws_FnDoubled.j1 kj7 t550 t551 t566 t570 true) = some r := by rw [if_neg (show ¬ (false = true) by decide)] at H; exact H
                clear H
                have H := H1
                clear H1
                have H' := Aside0.mk H
                clear H
                go_wp2
                repeat (go_quiet (fail); try go_wp2)
                go_meet
                case rel => exact ⟨_, (true), (by first | rfl | (simp; done) | (simp [*]; done)), H', ⟨by have := HJ7.out; first | omega | exact Nat.le_refl _⟩, ⟨by (with_reducible repeat (first | apply Kd.R_alloc | apply Kd.R_drewN | apply Kd.R_drew)); exact Kd.R_mono HO569.out (fun _ hk => hk.2)⟩, ⟨by (with_reducible repeat (first | apply Kd.R_alloc | apply Kd.R_drewN | apply Kd.R_drew)); exact Kd.R_mono HO573.out (fun _ hk => hk.2)⟩, ⟨by repeat (first | (with_reducible first | exact HB.out | apply below_alloc | apply pw_below_drewN | apply below_drew1) | exact HB.out)⟩⟩
            case rest =>
              clear HC28
              try clear c1
              try clear c2
              try clear c2b0
              try clear c2b1
              try clear p2
              try clear c3
              try clear c11
              try clear c14
              try clear c14b0
              try clear c14b1
              try clear c14b2
              try clear c16
              try clear c17
              try clear c17b0
              try clear c17b1
              try clear c17b2
              try clear c24
              try clear c25
              try clear c31
              try clear c32
              try clear c33
              try clear c33b0
              try clear c33b1
              try clear c33b2
              try clear p2
              obtain ⟨kq, x111_27, rfl, HA, HJ27, HO_14, HO_16, HB⟩ := hcut
              cases kq with
              | zero => exact absurd HA.out (by simp [laws_FnDoubled.j1])
              | succ kj27 =>
                have H := HA.out
                clear HA
                simp only [laws_FnDoubled.j1] at H
                by_cases c37 : x111_27 = true
                · subst c37
                  have H1 : (some false) = some r := by rw [if_pos rfl] at H; exact H
                  clear H
                  have H := H1
                  clear H1
                  obtain rfl := Option.some.inj H
                  go_wp2
                  repeat (go_quiet (fail); try go_wp2)
                  go_ret
                  exact ⟨by first | rfl | (simp [errW_none, errW_some] <;> rfl) | (simp [*, errW_none, errW_some] <;> rfl), by repeat (first | (with_reducible first | exact HB.out | apply below_alloc | apply pw_below_drewN | apply below_drew1) | exact HB.out)⟩
                · replace c37 := Bool.eq_false_iff.mpr c37
                  subst c37
                  have H1 : (laws_FnDoubled.l0 kj27 t550 t551 t566 t570 (t566.length : Int) 0) = some r := by rw [if_neg (show ¬ (false = true) by decide)] at H; exact H
                  clear H
                  have H := H1
                  clear H1
                  have H' := Aside0.mk H
                  clear H
                  obtain ⟨Ao38, co38, eo38⟩ := Kd.R_slice HO_14.out
                  subst eo38
                  go_wp2
                  repeat (go_quiet (fail); try go_wp2)
                  go_loopg [114] kj27 (fun kq v114 w' => ∃ (x114_3 : Int), v114 = .int .i64 x114_3 ∧ Aside0 (laws_FnDoubled.l0 kq t550 t551 t566 t570 (t566.length : Int) x114_3 = some r) ∧ Aside0 (kq ≤ kj27) ∧ Aside0 (Kd.R (Kd.int .i64) 3 w' w.heap.size (fun k_ => some k_ ≠ (v572 : Value).ownBlock) (.slice Ao38 t566.length co38) t566) ∧ Aside0 (Kd.R (Kd.int .i64) 3 w' w.heap.size (fun k_ => some k_ ≠ ((.slice Ao38 t566.length co38) : Value).ownBlock) v572 t570) ∧ Aside0 (Below w.heap.size w w'))
                  case atStart => exact ⟨(0), (by first | rfl | (simp; done) | (simp [*]; done)), H', ⟨Nat.le_refl _⟩, ⟨by (with_reducible repeat (first | apply Kd.R_alloc | apply Kd.R_drewN | apply Kd.R_drew)); exact HO_14.out⟩, ⟨by (with_reducible repeat (first | apply Kd.R_alloc | apply Kd.R_drewN | apply Kd.R_drew)); exact HO_16.out⟩, ⟨by repeat (first | (with_reducible first | exact HB.out | apply below_alloc | apply pw_below_drewN | apply below_drew1) | exact HB.out)⟩⟩
                  case round =>
                    clear H'
                    try clear c1
                    try clear c2
                    try clear c2b0
                    try clear c2b1
                    try clear p2
                    try clear c3
                    try clear c11
                    try clear c14
                    try clear c14b0
                    try clear c14b1
                    try clear c14b2
                    try clear c16
                    try clear c17
                    try clear c17b0
                    try clear c17b1
                    try clear c17b2
                    try clear c24
                    try clear c25
                    try clear c31
                    try clear c32
                    try clear c33
                    try clear c33b0
                    try clear c33b1
                    try clear c33b2
                    try clear c37
                    try clear p2
                    obtain ⟨x114_3, rfl, HA, HK3, HO_14, HO_16, HB⟩ := hrel
                    cases gk with
                    | zero => exact absurd HA.out (by simp [laws_FnDoubled.l0])
                    | succ k3 =>
                      have H := HA.out
                      clear HA
                      simp only [laws_FnDoubled.l0] at H
                      by_cases c39 : x114_3 < (t566.length : Int)
                      · rw [if_pos c39] at H
                        have c39b0 : decide (x114_3 < (t566.length : Int)) = true := decide_eq_true c39
                        clear c39
                        have H' := Aside0.mk H
                        clear H
                        go_wp2
                        repeat (go_quiet (fail); try go_wp2)
                        go_loopg [119] k3 (fun kq v119 w' => ∃ (x119_4 : Int), v119 = .int .i64 x119_4 ∧ Aside0 (laws_FnDoubled.l1 kq t550 t551 t566 t570 x114_3 (t566.length : Int) x114_3 (t566.length : Int) x119_4 = some r) ∧ Aside0 (kq ≤ k3) ∧ Aside0 (Kd.R (Kd.int .i64) 3 w' w.heap.size (fun k_ => some k_ ≠ (v572 : Value).ownBlock) (.slice Ao38 t566.length co38) t566) ∧ Aside0 (Kd.R (Kd.int .i64) 3 w' w.heap.size (fun k_ => some k_ ≠ ((.slice Ao38 t566.length co38) : Value).ownBlock) v572 t570) ∧ Aside0 (Below w.heap.size w w'))
                        case atStart => exact ⟨(0), (by first | rfl | (simp; done) | (simp [*]; done)), H', ⟨Nat.le_refl _⟩, ⟨by (with_reducible repeat (first | apply Kd.R_alloc | apply Kd.R_drewN | apply Kd.R_drew)); exact HO_14.out⟩, ⟨by (with_reducible repeat (first | apply Kd.R_alloc | apply Kd.R_drewN | apply Kd.R_drew)); exact HO_16.out⟩, ⟨by repeat (first | (with_reducible first | exact HB.out | apply below_alloc | apply pw_below_drewN | apply below_drew1) | exact HB.out)⟩⟩
                        case round =>
                          clear H'
                          try clear c1
                          try clear c2
                          try clear c2b0
                          try clear c2b1
                          try clear p2
                          try clear c3
                          try clear c11
                          try clear c14
                          try clear c14b0
                          try clear c14b1
                          try clear c14b2
                          try clear c16
                          try clear c17
                          try clear c17b0
                          try clear c17b1
                          try clear c17b2
                          try clear c24
                          try clear c25
                          try clear c31
                          try clear c32
                          try clear c33
                          try clear c33b0
                          try clear c33b1
                          try clear c33b2
                          try clear c37
                          try clear c39
                          try clear c39b0
                          try clear p2
                          obtain ⟨x119_4, rfl, HA, HK4, HO_14, HO_16, HB⟩ := hrel
                          cases gk with
                          | zero => exact absurd HA.out (by simp [laws_FnDoubled.l1])
                          | succ k4 =>
                            have H := HA.out
                            clear HA
                            simp only [laws_FnDoubled.l1] at H
                            by_cases c40 : x119_4 < (t566.length : Int)
                            · rw [if_pos c40] at H
                              have c40b0 : decide (x119_4 < (t566.length : Int)) = true := decide_eq_true c40
                              clear c40
                              have HC41 := Aside0.mk H
                              clear H
                              go_upto_if 127 with (fail)
                              repeat (go_quiet (fail); go_upto_if 127 with (fail))
                              go_cut [20] (fun v20 wc => ∃ (kq : Nat) (x20_40 : Int), v20 = .int .i64 x20_40 ∧ Aside0 (laws_FnDoubled.j4 kq t550 t551 t566 t570 x114_3 x119_4 x20_40 (-1) (t566.length : Int) x114_3 (t566.length : Int) x119_4 = some r) ∧ Aside0 (kq ≤ k4) ∧ Aside0 (Kd.R (Kd.int .i64) 3 wc w.heap.size (fun k_ => some k_ ≠ (v572 : Value).ownBlock) (.slice Ao38 t566.length co38) t566) ∧ Aside0 (Kd.R (Kd.int .i64) 3 wc w.heap.size (fun k_ => some k_ ≠ ((.slice Ao38 t566.length co38) : Value).ownBlock) v572 t570) ∧ Aside0 (Below w.heap.size w wc))
                              case first =>
                                have H := HC41.out
                                clear HC41
                                by_cases c42 : (wrap64 (x114_3 + t551)) < (t550.size : Int)
                                · rw [if_pos c42] at H
                                  have c42b0 : decide ((wrap64 (x114_3 + t551)) < (t550.size : Int)) = true := decide_eq_true c42
                                  clear c42
                                  (first | rw [c42b0] | (simp only [i64_w, i32_w]; rw [c42b0]) | skip)
                                  obtain ⟨ji43, hji43⟩ : ∃ j_ : Int, (wrap64 (x114_3 + t551)) = j_ := ⟨_, rfl⟩
                                  replace H : (if 0 ≤ (ji43) then (if (ji43) < (t566.length : Int) then (laws_FnDoubled.j4 k4 t550 t551 t566 t570 x114_3 x119_4 (rd t566 (ji43)) (-1) (t566.length : Int) x114_3 (t566.length : Int) x119_4) else (none)) else (none)) = some r := by first | (rw [hji43] at H; exact H) | (simp only [hji43] at H ⊢; exact H)
                                  (try rw [hji43] at c42b0)
                                  have hji43w : (IntKind.i64.wrap (x114_3 + t551)) = ji43 := (i64_w _).trans hji43
                                  by_cases c44 : 0 ≤ (ji43)
                                  · rw [if_pos c44] at H
                                    have c44b0 : decide (0 ≤ (ji43)) = true := decide_eq_true c44
                                    clear c44
                                    by_cases c45 : (ji43) < (t566.length : Int)
                                    · rw [if_pos c45] at H
                                      have c45b0 : decide ((ji43) < (t566.length : Int)) = true := decide_eq_true c45
                                      clear c45
                                      have H' := Aside0.mk H
                                      clear H
                                      have p574 : 0 ≤ ((ji43) : Int) := of_decide_eq_true (by first | (with_reducible assumption) | assumption)
                                      have q574 : (ji43) < (t566.length : Int) := of_decide_eq_true (by first | (with_reducible assumption) | assumption)
                                      obtain ⟨ad574, e574, hx574_0⟩ := Kd.at_int (Kd.R_reads' HO_14.out).2.2 (ji43) p574 q574
                                      cases e574
                                      replace p574 := eq_true p574
                                      replace q574 := eq_true q574
                                      go_wp2
                                      repeat (go_quiet (fail); try go_wp2)
                                      go_meet
                                      case rel => exact ⟨_, (rd t566 (ji43)), (by first | rfl | (simp; done) | (simp only [← hji43] <;> (first | rfl | simp)) | (simp [*]; done)), H', ⟨by have := HJ7.out; have := HJ27.out; have := HK3.out; have := HK4.out; first | omega | exact Nat.le_refl _⟩, ⟨by (with_reducible repeat (first | apply Kd.R_alloc | apply Kd.R_drewN | apply Kd.R_drew)); exact HO_14.out⟩, ⟨by (with_reducible repeat (first | apply Kd.R_alloc | apply Kd.R_drewN | apply Kd.R_drew)); exact HO_16.out⟩, ⟨by repeat (first | (with_reducible first | exact HB.out | apply below_alloc | apply pw_below_drewN | apply below_drew1) | exact HB.out)⟩⟩
                                    · rw [if_neg c45] at H
                                      exact absurd H (by simp)
                                  · rw [if_neg c44] at H
                                    exact absurd H (by simp)
                                · rw [if_neg c42] at H
                                  have c42b0 : decide ((wrap64 (x114_3 + t551)) < (t550.size : Int)) = false := decide_eq_false c42
                                  clear c42
                                  (first | rw [c42b0] | (simp only [i64_w, i32_w]; rw [c42b0]) | skip)
                                  have H' := Aside0.mk H
                                  clear H
                                  go_wp2
                                  repeat (go_quiet (fail); try go_wp2)
                                  go_meet
                                  case rel => exact ⟨_, ((-1)), (by first | rfl | (simp; done) | (simp [*]; done)), H', ⟨by have := HJ7.out; have := HJ27.out; have := HK3.out; have := HK4.out; first | omega | exact Nat.le_refl _⟩, ⟨by (with_reducible repeat (first | apply Kd.R_alloc | apply Kd.R_drewN | apply Kd.R_drew)); exact HO_14.out⟩, ⟨by (with_reducible repeat (first | apply Kd.R_alloc | apply Kd.R_drewN | apply Kd.R_drew)); exact HO_16.out⟩, ⟨by repeat (first | (with_reducible first | exact HB.out | apply below_alloc | apply pw_below_drewN | apply below_drew1) | exact HB.out)⟩⟩
                              case rest =>
                                clear HC41
                                try clear c1
                                try clear c2
                                try clear c2b0
                                try clear c2b1
                                try clear p2
                                try clear c3
                                try clear c4
                                try clear p5
                                try clear q5
                                try clear hx5
                                try clear p6
                                try clear c11
                                try clear c14
                                try clear c14b0
                                try clear c14b1
                                try clear c14b2
                                try clear c16
                                try clear c17
                                try clear c17b0
                                try clear c17b1
                                try clear c17b2
                                try clear c24
                                try clear c25
                                try clear c31
                                try clear c32
                                try clear c33
                                try clear c33b0
                                try clear c33b1
                                try clear c33b2
                                try clear c37
                                try clear c39
                                try clear c39b0
                                try clear c40
                                try clear c40b0
                                try clear c42
                                try clear c42b0
                                try clear c44
                                try clear c44b0
                                try clear c45
                                try clear c45b0
                                try clear hx574_0
                                try clear p2
                                try clear p574
                                try clear q574
                                obtain ⟨kq, x20_40, rfl, HA, HJ40, HO_14, HO_16, HB⟩ := hcut
                                cases kq with
                                | zero => exact absurd HA.out (by simp [laws_FnDoubled.j4])
                                | succ kj40 =>
                                  have H := HA.out
                                  clear HA
                                  simp only [laws_FnDoubled.j4] at H
                                  by_cases c46 : (wrap64 (x119_4 + t551)) < (t550.size : Int)
                                  · rw [if_pos c46] at H
                                    have c46b0 : decide ((wrap64 (x119_4 + t551)) < (t550.size : Int)) = true := decide_eq_true c46
                                    clear c46
                                    obtain ⟨ji47, hji47⟩ : ∃ j_ : Int, (wrap64 (x119_4 + t551)) = j_ := ⟨_, rfl⟩
                                    replace H : (if 0 ≤ (ji47) then (if (ji47) < (t566.length : Int) then (if 0 ≤ x114_3 then (if x114_3 < (t566.length : Int) then (if 0 ≤ x119_4 then (if x119_4 < (t566.length : Int) then (if (rd t566 x114_3) < (rd t566 x119_4) then (if x114_3 < (t570.length : Int) then (if x119_4 < (t570.length : Int) then (if (true != (decide ((rd t570 x114_3) < (rd t570 x119_4)))) = true then (some false) else (laws_FnDoubled.l1 kj40 t550 t551 t566 t570 x114_3 (t566.length : Int) x114_3 (t566.length : Int) (wrap64 (x119_4 + 1)))) else (none)) else (none)) else (if (rd t566 x114_3) = (rd t566 x119_4) then (if x114_3 < (t570.length : Int) then (if x119_4 < (t570.length : Int) then (if ((decide (x20_40 < (rd t566 (ji47)))) != (decide ((rd t570 x114_3) < (rd t570 x119_4)))) = true then (some false) else (laws_FnDoubled.l1 kj40 t550 t551 t566 t570 x114_3 (t566.length : Int) x114_3 (t566.length : Int) (wrap64 (x119_4 + 1)))) else (none)) else (none)) else (if x114_3 < (t570.length : Int) then (if x119_4 < (t570.length : Int) then (if (false != (decide ((rd t570 x114_3) < (rd t570 x119_4)))) = true then (some false) else (laws_FnDoubled.l1 kj40 t550 t551 t566 t570 x114_3 (t566.length : Int) x114_3 (t566.length : Int) (wrap64 (x119_4 + 1)))) else (none)) else (none)))) else (none)) else (none)) else (none)) else (none)) else (none)) else (none)) = some r := by first | (rw [hji47] at H; exact H) | (simp only [hji47] at H ⊢; exact H)
                                    (try rw [hji47] at c46b0)
                                    have hji47w : (IntKind.i64.wrap (x119_4 + t551)) = ji47 := (i64_w _).trans hji47
                                    by_cases c48 : 0 ≤ (ji47)
                                    · rw [if_pos c48] at H
                                      have c48b0 : decide (0 ≤ (ji47)) = true := decide_eq_true c48
                                      clear c48
                                      by_cases c49 : (ji47) < (t566.length : Int)
                                      · rw [if_pos c49] at H
                                        have c49b0 : decide ((ji47) < (t566.length : Int)) = true := decide_eq_true c49
                                        clear c49
                                        by_cases c50 : 0 ≤ x114_3
                                        · rw [if_pos c50] at H
                                          have c50b0 : decide (0 ≤ x114_3) = true := decide_eq_true c50
                                          clear c50
                                          by_cases c51 : x114_3 < (t566.length : Int)
                                          · rw [if_pos c51] at H
                                            have c51b0 : decide (x114_3 < (t566.length : Int)) = true := decide_eq_true c51
                                            clear c51
                                            by_cases c52 : 0 ≤ x119_4
                                            · rw [if_pos c52] at H
                                              have c52b0 : decide (0 ≤ x119_4) = true := decide_eq_true c52
                                              clear c52
                                              by_cases c53 : x119_4 < (t566.length : Int)
                                              · rw [if_pos c53] at H
                                                have c53b0 : decide (x119_4 < (t566.length : Int)) = true := decide_eq_true c53
                                                clear c53
                                                by_cases c54 : (rd t566 x114_3) < (rd t566 x119_4)
                                                · rw [if_pos c54] at H
                                                  have c54b0 : decide ((rd t566 x114_3) < (rd t566 x119_4)) = true := decide_eq_true c54
                                                  clear c54
                                                  by_cases c55 : x114_3 < (t570.length : Int)
                                                  · rw [if_pos c55] at H
                                                    have c55b0 : decide (x114_3 < (t570.length : Int)) = true := decide_eq_true c55
                                                    clear c55
                                                    by_cases c56 : x119_4 < (t570.length : Int)
                                                    · rw [if_pos c56] at H
                                                      have c56b0 : decide (x119_4 < (t570.length : Int)) = true := decide_eq_true c56
                                                      clear c56
                                                      by_cases c57 : (true != (decide ((rd t570 x114_3) < (rd t570 x119_4)))) = true
                                                      · rw [if_pos c57] at H
                                                        have c57b0 : (true != (decide ((rd t570 x114_3) < (rd t570 x119_4)))) = true := c57
                                                        (try (have c57b1 : decide (true = (decide ((rd t570 x114_3) < (rd t570 x119_4)))) = false := by simpa using c57))
                                                        (try (have c57b2 : (true == (decide ((rd t570 x114_3) < (rd t570 x119_4)))) = false := by simpa using c57))
                                                        (try (have c57b3 : ¬ (true = (decide ((rd t570 x114_3) < (rd t570 x119_4)))) := by simpa using c57))
                                                        clear c57
                                                        obtain rfl := Option.some.inj H
                                                        have p575 : 0 ≤ ((ji47) : Int) := of_decide_eq_true (by first | (with_reducible assumption) | assumption)
                                                        have q575 : (ji47) < (t566.length : Int) := of_decide_eq_true (by first | (with_reducible assumption) | assumption)
                                                        obtain ⟨ad575, e575, hx575_0⟩ := Kd.at_int (Kd.R_reads' HO_14.out).2.2 (ji47) p575 q575
                                                        cases e575
                                                        replace p575 := eq_true p575
                                                        replace q575 := eq_true q575
                                                        have p576 : 0 ≤ (x114_3 : Int) := of_decide_eq_true (by first | (with_reducible assumption) | assumption)
                                                        have q576 : x114_3 < (t566.length : Int) := of_decide_eq_true (by first | (with_reducible assumption) | assumption)
                                                        obtain ⟨ad576, e576, hx576_0⟩ := Kd.at_int (Kd.R_reads' HO_14.out).2.2 x114_3 p576 q576
                                                        obtain rfl : ad575 = ad576 := (by injection e576)
                                                        replace p576 := eq_true p576
                                                        replace q576 := eq_true q576
                                                        have p577 : 0 ≤ (x119_4 : Int) := of_decide_eq_true (by first | (with_reducible assumption) | assumption)
                                                        have q577 : x119_4 < (t566.length : Int) := of_decide_eq_true (by first | (with_reducible assumption) | assumption)
                                                        obtain ⟨ad577, e577, hx577_0⟩ := Kd.at_int (Kd.R_reads' HO_14.out).2.2 x119_4 p577 q577
                                                        obtain rfl : ad575 = ad577 := (by injection e577)
                                                        replace p577 := eq_true p577
                                                        replace q577 := eq_true q577
                                                        obtain ⟨Ao58, co58, eo58⟩ := Kd.R_slice HO_16.out
                                                        subst eo58
                                                        have p578 : 0 ≤ (x114_3 : Int) := of_decide_eq_true (by first | (with_reducible assumption) | assumption)
                                                        have q578 : x114_3 < (t570.length : Int) := of_decide_eq_true (by first | (with_reducible assumption) | assumption)
                                                        obtain ⟨ad578, e578, hx578_0⟩ := Kd.at_int (Kd.R_reads' HO_16.out).2.2 x114_3 p578 q578
                                                        cases e578
                                                        replace p578 := eq_true p578
                                                        replace q578 := eq_true q578
                                                        have p579 : 0 ≤ (x119_4 : Int) := of_decide_eq_true (by first | (with_reducible assumption) | assumption)
                                                        have q579 : x119_4 < (t570.length : Int) := of_decide_eq_true (by first | (with_reducible assumption) | assumption)
                                                        obtain ⟨ad579, e579, hx579_0⟩ := Kd.at_int (Kd.R_reads' HO_16.out).2.2 x119_4 p579 q579
                                                        obtain rfl : ad578 = ad579 := (by injection e579)
                                                        replace p579 := eq_true p579
                                                        replace q579 := eq_true q579
                                                        go_wp2
                                                        repeat (go_quiet (fail); try go_wp2)
                                                        go_ret
                                                        exact ⟨by first | rfl | (simp [errW_none, errW_some] <;> rfl) | (simp only [← hji47]; first | rfl | (simp [errW_none, errW_some] <;> rfl)) | (simp [*, errW_none, errW_some] <;> rfl), by repeat (first | (with_reducible first | exact HB.out | apply below_alloc | apply pw_below_drewN | apply below_drew1) | exact HB.out)⟩
                                                      · rw [if_neg c57] at H
                                                        have c57b0 : (true != (decide ((rd t570 x114_3) < (rd t570 x119_4)))) = false := by simpa using c57
                                                        (try (have c57b1 : decide (true = (decide ((rd t570 x114_3) < (rd t570 x119_4)))) = true := by simpa using c57))
                                                        (try (have c57b2 : (true == (decide ((rd t570 x114_3) < (rd t570 x119_4)))) = true := by simpa using c57))
                                                        clear c57
                                                        have H' := Aside0.mk H
                                                        clear H
                                                        have p575 : 0 ≤ ((ji47) : Int) := of_decide_eq_true (by first | (with_reducible assumption) | assumption)
                                                        have q575 : (ji47) < (t566.length : Int) := of_decide_eq_true (by first | (with_reducible assumption) | assumption)
                                                        obtain ⟨ad575, e575, hx575_0⟩ := Kd.at_int (Kd.R_reads' HO_14.out).2.2 (ji47) p575 q575
                                                        cases e575
                                                        replace p575 := eq_true p575
                                                        replace q575 := eq_true q575
                                                        have p576 : 0 ≤ (x114_3 : Int) := of_decide_eq_true (by first | (with_reducible assumption) | assumption)
                                                        have q576 : x114_3 < (t566.length : Int) := of_decide_eq_true (by first | (with_reducible assumption) | assumption)
                                                        obtain ⟨ad576, e576, hx576_0⟩ := Kd.at_int (Kd.R_reads' HO_14.out).2.2 x114_3 p576 q576
                                                        obtain rfl : ad575 = ad576 := (by injection e576)
                                                        replace p576 := eq_true p576
                                                        replace q576 := eq_true q576
                                                        have p577 : 0 ≤ (x119_4 : Int) := of_decide_eq_true (by first | (with_reducible assumption) | assumption)
                                                        have q577 : x119_4 < (t566.length : Int) := of_decide_eq_true (by first | (with_reducible assumption) | assumption)
                                                        obtain ⟨ad577, e577, hx577_0⟩ := Kd.at_int (Kd.R_reads' HO_14.out).2.2 x119_4 p577 q577
                                                        obtain rfl : ad575 = ad577 := (by injection e577)
                                                        replace p577 := eq_true p577
                                                        replace q577 := eq_true q577
                                                        obtain ⟨Ao59, co59, eo59⟩ := Kd.R_slice HO_16.out
                                                        subst eo59
                                                        have p578 : 0 ≤ (x114_3 : Int) := of_decide_eq_true (by first | (with_reducible assumption) | assumption)
                                                        have q578 : x114_3 < (t570.length : Int) := of_decide_eq_true (by first | (with_reducible assumption) | assumption)
                                                        obtain ⟨ad578, e578, hx578_0⟩ := Kd.at_int (Kd.R_reads' HO_16.out).2.2 x114_3 p578 q578
                                                        cases e578
                                                        replace p578 := eq_true p578
                                                        replace q578 := eq_true q578
                                                        have p579 : 0 ≤ (x119_4 : Int) := of_decide_eq_true (by first | (with_reducible assumption) | assumption)
                                                        have q579 : x119_4 < (t570.length : Int) := of_decide_eq_true (by first | (with_reducible assumption) | assumption)
                                                        obtain ⟨ad579, e579, hx579_0⟩ := Kd.at_int (Kd.R_reads' HO_16.out).2.2 x119_4 p579 q579
                                                        obtain rfl : ad578 = ad579 := (by injection e579)
                                                        replace p579 := eq_true p579
                                                        replace q579 := eq_true q579
                                                        go_wp2
                                                        repeat (go_quiet (fail); try go_wp2)
                                                        go_roundg kj40
                                                        case measure => have := HJ7.out; have := HJ27.out; have := HK3.out; have := HK4.out; have := HJ40.out; omega
                                                        case rel => exact ⟨(wrap64 (x119_4 + 1)), (by first | rfl | (simp; done) | (simp [*]; done)), H', ⟨by have := HJ7.out; have := HJ27.out; have := HK3.out; have := HK4.out; have := HJ40.out; omega⟩, ⟨by (with_reducible repeat (first | apply Kd.R_alloc | apply Kd.R_drewN | apply Kd.R_drew)); exact HO_14.out⟩, ⟨by (with_reducible repeat (first | apply Kd.R_alloc | apply Kd.R_drewN | apply Kd.R_drew)); exact HO_16.out⟩, ⟨by repeat (first | (with_reducible first | exact HB.out | apply below_alloc | apply pw_below_drewN | apply below_drew1) | exact HB.out)⟩⟩
                                                    · rw [if_neg c56] at H
                                                      exact absurd H (by simp)
                                                  · rw [if_neg c55] at H
                                                    exact absurd H (by simp)
                                                · rw [if_neg c54] at H
                                                  have c54b0 : decide ((rd t566 x114_3) < (rd t566 x119_4)) = false := decide_eq_false c54
                                                  clear c54
                                                  by_cases c60 : (rd t566 x114_3) = (rd t566 x119_4)
                                                  · rw [if_pos c60] at H
                                                    have c60b0 : ((rd t566 x114_3) == (rd t566 x119_4)) = true := beq_iff_eq.mpr c60
                                                    have c60b1 : ((rd t566 x114_3) != (rd t566 x119_4)) = false := bne_eq_false_iff_eq.mpr c60
                                                    clear c60
                                                    by_cases c61 : x114_3 < (t570.length : Int)
                                                    · rw [if_pos c61] at H
                                                      have c61b0 : decide (x114_3 < (t570.length : Int)) = true := decide_eq_true c61
                                                      clear c61
                                                      by_cases c62 : x119_4 < (t570.length : Int)
                                                      · rw [if_pos c62] at H
                                                        have c62b0 : decide (x119_4 < (t570.length : Int)) = true := decide_eq_true c62
                                                        clear c62
                                                        by_cases c63 : ((decide (x20_40 < (rd t566 (ji47)))) != (decide ((rd t570 x114_3) < (rd t570 x119_4)))) = true
                                                        · rw [if_pos c63] at H
                                                          have c63b0 : ((decide (x20_40 < (rd t566 (ji47)))) != (decide ((rd t570 x114_3) < (rd t570 x119_4)))) = true := c63
                                                          (try (have c63b1 : decide ((decide (x20_40 < (rd t566 (ji47)))) = (decide ((rd t570 x114_3) < (rd t570 x119_4)))) = false := by simpa using c63))
                                                          (try (have c63b2 : ((decide (x20_40 < (rd t566 (ji47)))) == (decide ((rd t570 x114_3) < (rd t570 x119_4)))) = false := by simpa using c63))
                                                          (try (have c63b3 : ¬ ((decide (x20_40 < (rd t566 (ji47)))) = (decide ((rd t570 x114_3) < (rd t570 x119_4)))) := by simpa using c63))
                                                          clear c63
                                                          obtain rfl := Option.some.inj H
                                                          have p575 : 0 ≤ ((ji47) : Int) := of_decide_eq_true (by first | (with_reducible assumption) | assumption)
                                                          have q575 : (ji47) < (t566.length : Int) := of_decide_eq_true (by first | (with_reducible assumption) | assumption)
                                                          obtain ⟨ad575, e575, hx575_0⟩ := Kd.at_int (Kd.R_reads' HO_14.out).2.2 (ji47) p575 q575
                                                          cases e575
                                                          replace p575 := eq_true p575
                                                          replace q575 := eq_true q575
                                                          have p576 : 0 ≤ (x114_3 : Int) := of_decide_eq_true (by first | (with_reducible assumption) | assumption)
                                                          have q576 : x114_3 < (t566.length : Int) := of_decide_eq_true (by first | (with_reducible assumption) | assumption)
                                                          obtain ⟨ad576, e576, hx576_0⟩ := Kd.at_int (Kd.R_reads' HO_14.out).2.2 x114_3 p576 q576
                                                          obtain rfl : ad575 = ad576 := (by injection e576)
                                                          replace p576 := eq_true p576
                                                          replace q576 := eq_true q576
                                                          have p577 : 0 ≤ (x119_4 : Int) := of_decide_eq_true (by first | (with_reducible assumption) | assumption)
                                                          have q577 : x119_4 < (t566.length : Int) := of_decide_eq_true (by first | (with_reducible assumption) | assumption)
                                                          obtain ⟨ad577, e577, hx577_0⟩ := Kd.at_int (Kd.R_reads' HO_14.out).2.2 x119_4 p577 q577
                                                          obtain rfl : ad575 = ad577 := (by injection e577)
                                                          replace p577 := eq_true p577
                                                          replace q577 := eq_true q577
                                                          have p580 : 0 ≤ (x114_3 : Int) := of_decide_eq_true (by first | (with_reducible assumption) | assumption)
                                                          have q580 : x114_3 < (t566.length : Int) := of_decide_eq_true (by first | (with_reducible assumption) | assumption)
                                                          obtain ⟨ad580, e580, hx580_0⟩ := Kd.at_int (Kd.R_reads' HO_14.out).2.2 x114_3 p580 q580
                                                          obtain rfl : ad575 = ad580 := (by injection e580)
                                                          replace p580 := eq_true p580
                                                          replace q580 := eq_true q580
                                                          have p581 : 0 ≤ (x119_4 : Int) := of_decide_eq_true (by first | (with_reducible assumption) | assumption)
                                                          have q581 : x119_4 < (t566.length : Int) := of_decide_eq_true (by first | (with_reducible assumption) | assumption)
                                                          obtain ⟨ad581, e581, hx581_0⟩ := Kd.at_int (Kd.R_reads' HO_14.out).2.2 x119_4 p581 q581
                                                          obtain rfl : ad575 = ad581 := (by injection e581)
                                                          replace p581 := eq_true p581
                                                          replace q581 := eq_true q581
                                                          obtain ⟨Ao64, co64, eo64⟩ := Kd.R_slice HO_16.out
                                                          subst eo64
                                                          have p582 : 0 ≤ (x114_3 : Int) := of_decide_eq_true (by first | (with_reducible assumption) | assumption)
                                                          have q582 : x114_3 < (t570.length : Int) := of_decide_eq_true (by first | (with_reducible assumption) | assumption)
                                                          obtain ⟨ad582, e582, hx582_0⟩ := Kd.at_int (Kd.R_reads' HO_16.out).2.2 x114_3 p582 q582
                                                          cases e582
                                                          replace p582 := eq_true p582
                                                          replace q582 := eq_true q582
                                                          have p583 : 0 ≤ (x119_4 : Int) := of_decide_eq_true (by first | (with_reducible assumption) | assumption)
                                                          have q583 : x119_4 < (t570.length : Int) := of_decide_eq_true (by first | (with_reducible assumption) | assumption)
                                                          obtain ⟨ad583, e583, hx583_0⟩ := Kd.at_int (Kd.R_reads' HO_16.out).2.2 x119_4 p583 q583
                                                          obtain rfl : ad582 = ad583 := (by injection e583)
                                                          replace p583 := eq_true p583
                                                          replace q583 := eq_true q583
                                                          go_wp2
                                                          repeat (go_quiet (fail); try go_wp2)
                                                          go_ret
                                                          exact ⟨by first | rfl | (simp [errW_none, errW_some] <;> rfl) | (simp only [← hji47]; first | rfl | (simp [errW_none, errW_some] <;> rfl)) | (simp [*, errW_none, errW_some] <;> rfl), by repeat (first | (with_reducible first | exact HB.out | apply below_alloc | apply pw_below_drewN | apply below_drew1) | exact HB.out)⟩
                                                        · rw [if_neg c63] at H
                                                          have c63b0 : ((decide (x20_40 < (rd t566 (ji47)))) != (decide ((rd t570 x114_3) < (rd t570 x119_4)))) = false := by simpa using c63
                                                          (try (have c63b1 : decide ((decide (x20_40 < (rd t566 (ji47)))) = (decide ((rd t570 x114_3) < (rd t570 x119_4)))) = true := by simpa using c63))
                                                          (try (have c63b2 : ((decide (x20_40 < (rd t566 (ji47)))) == (decide ((rd t570 x114_3) < (rd t570 x119_4)))) = true := by simpa using c63))
                                                          clear c63
                                                          have H' := Aside0.mk H
                                                          clear H
                                                          have p575 : 0 ≤ ((ji47) : Int) := of_decide_eq_true (by first | (with_reducible assumption) | assumption)
                                                          have q575 : (ji47) < (t566.length : Int) := of_decide_eq_true (by first | (with_reducible assumption) | assumption)
                                                          obtain ⟨ad575, e575, hx575_0⟩ := Kd.at_int (Kd.R_reads' HO_14.out).2.2 (ji47) p575 q575
                                                          cases e575
                                                          replace p575 := eq_true p575
                                                          replace q575 := eq_true q575
                                                          have p576 : 0 ≤ (x114_3 : Int) := of_decide_eq_true (by first | (with_reducible assumption) | assumption)
                                                          have q576 : x114_3 < (t566.length : Int) := of_decide_eq_true (by first | (with_reducible assumption) | assumption)
                                                          obtain ⟨ad576, e576, hx576_0⟩ := Kd.at_int (Kd.R_reads' HO_14.out).2.2 x114_3 p576 q576
                                                          obtain rfl : ad575 = ad576 := (by injection e576)
                                                          replace p576 := eq_true p576
                                                          replace q576 := eq_true q576
                                                          have p577 : 0 ≤ (x119_4 : Int) := of_decide_eq_true (by first | (with_reducible assumption) | assumption)
                                                          have q577 : x119_4 < (t566.length : Int) := of_decide_eq_true (by first | (with_reducible assumption) | assumption)
                                                          obtain ⟨ad577, e577, hx577_0⟩ := Kd.at_int (Kd.R_reads' HO_14.out).2.2 x119_4 p577 q577
                                                          obtain rfl : ad575 = ad577 := (by injection e577)
                                                          replace p577 := eq_true p577
                                                          replace q577 := eq_true q577
                                                          have p580 : 0 ≤ (x114_3 : Int) := of_decide_eq_true (by first | (with_reducible assumption) | assumption)
                                                          have q580 : x114_3 < (t566.length : Int) := of_decide_eq_true (by first | (with_reducible assumption) | assumption)
                                                          obtain ⟨ad580, e580, hx580_0⟩ := Kd.at_int (Kd.R_reads' HO_14.out).2.2 x114_3 p580 q580
                                                          obtain rfl : ad575 = ad580 := (by injection e580)
                                                          replace p580 := eq_true p580
                                                          replace q580 := eq_true q580
                                                          have p581 : 0 ≤ (x119_4 : Int) := of_decide_eq_true (by first | (with_reducible assumption) | assumption)
                                                          have q581 : x119_4 < (t566.length : Int) := of_decide_eq_true (by first | (with_reducible assumption) | assumption)
                                                          obtain ⟨ad581, e581, hx581_0⟩ := Kd.at_int (Kd.R_reads' HO_14.out).2.2 x119_4 p581 q581
                                                          obtain rfl : ad575 = ad581 := (by injection e581)
                                                          replace p581 := eq_true p581
                                                          replace q581 := eq_true q581
                                                          obtain ⟨Ao65, co65, eo65⟩ := Kd.R_slice HO_16.out
                                                          subst eo65
                                                          have p582 : 0 ≤ (x114_3 : Int) := of_decide_eq_true (by first | (with_reducible assumption) | assumption)
                                                          have q582 : x114_3 < (t570.length : Int) := of_decide_eq_true (by first | (with_reducible assumption) | assumption)
                                                          obtain ⟨ad582, e582, hx582_0⟩ := Kd.at_int (Kd.R_reads' HO_16.out).2.2 x114_3 p582 q582
                                                          cases e582
                                                          replace p582 := eq_true p582
                                                          replace q582 := eq_true q582
                                                          have p583 : 0 ≤ (x119_4 : Int) := of_decide_eq_true (by first | (with_reducible assumption) | assumption)
                                                          have q583 : x119_4 < (t570.length : Int) := of_decide_eq_true (by first | (with_reducible assumption) | assumption)
                                                          obtain ⟨ad583, e583, hx583_0⟩ := Kd.at_int (Kd.R_reads' HO_16.out).2.2 x119_4 p583 q583
                                                          obtain rfl : ad582 = ad583 := (by injection e583)
                                                          replace p583 := eq_true p583
                                                          replace q583 := eq_true q583
                                                          go_wp2
                                                          repeat (go_quiet (fail); try go_wp2)
                                                          go_roundg kj40
                                                          case measure => have := HJ7.out; have := HJ27.out; have := HK3.out; have := HK4.out; have := HJ40.out; omega
                                                          case rel => exact ⟨(wrap64 (x119_4 + 1)), (by first | rfl | (simp; done) | (simp [*]; done)), H', ⟨by have := HJ7.out; have := HJ27.out; have := HK3.out; have := HK4.out; have := HJ40.out; omega⟩, ⟨by (with_reducible repeat (first | apply Kd.R_alloc | apply Kd.R_drewN | apply Kd.R_drew)); exact HO_14.out⟩, ⟨by (with_reducible repeat (first | apply Kd.R_alloc | apply Kd.R_drewN | apply Kd.R_drew)); exact HO_16.out⟩, ⟨by repeat (first | (with_reducible first | exact HB.out | apply below_alloc | apply pw_below_drewN | apply below_drew1) | exact HB.out)⟩⟩
                                                      · rw [if_neg c62] at H
                                                        exact absurd H (by simp)
                                                    · rw [if_neg c61] at H
                                                      exact absurd H (by simp)
                                                  · rw [if_neg c60] at H
                                                    have c60b0 : ((rd t566 x114_3) == (rd t566 x119_4)) = false := beq_eq_false_iff_ne.mpr c60
                                                    have c60b1 : ((rd t566 x114_3) != (rd t566 x119_4)) = true := bne_iff_ne.mpr c60
                                                    by_cases c66 : x114_3 < (t570.length : Int)
                                                    · rw [if_pos c66] at H
                                                      have c66b0 : decide (x114_3 < (t570.length : Int)) = true := decide_eq_true c66
                                                      clear c66
                                                      by_cases c67 : x119_4 < (t570.length : Int)
                                                      · rw [if_pos c67] at H
                                                        have c67b0 : decide (x119_4 < (t570.length : Int)) = true := decide_eq_true c67
                                                        clear c67
                                                        by_cases c68 : (false != (decide ((rd t570 x114_3) < (rd t570 x119_4)))) = true
                                                        · rw [if_pos c68] at H
                                                          have c68b0 : (false != (decide ((rd t570 x114_3) < (rd t570 x119_4)))) = true := c68
                                                          (try (have c68b1 : decide (false = (decide ((rd t570 x114_3) < (rd t570 x119_4)))) = false := by simpa using c68))
                                                          (try (have c68b2 : (false == (decide ((rd t570 x114_3) < (rd t570 x119_4)))) = false := by simpa using c68))
                                                          (try (have c68b3 : ¬ (false = (decide ((rd t570 x114_3) < (rd t570 x119_4)))) := by simpa using c68))
                                                          clear c68
                                                          obtain rfl := Option.some.inj H
                                                          have p575 : 0 ≤ ((ji47) : Int) := of_decide_eq_true (by first | (with_reducible assumption) | assumption)
                                                          have q575 : (ji47) < (t566.length : Int) := of_decide_eq_true (by first | (with_reducible assumption) | assumption)
                                                          obtain ⟨ad575, e575, hx575_0⟩ := Kd.at_int (Kd.R_reads' HO_14.out).2.2 (ji47) p575 q575
                                                          cases e575
                                                          replace p575 := eq_true p575
                                                          replace q575 := eq_true q575
                                                          have p576 : 0 ≤ (x114_3 : Int) := of_decide_eq_true (by first | (with_reducible assumption) | assumption)
                                                          have q576 : x114_3 < (t566.length : Int) := of_decide_eq_true (by first | (with_reducible assumption) | assumption)
                                                          obtain ⟨ad576, e576, hx576_0⟩ := Kd.at_int (Kd.R_reads' HO_14.out).2.2 x114_3 p576 q576
                                                          obtain rfl : ad575 = ad576 := (by injection e576)
                                                          replace p576 := eq_true p576
                                                          replace q576 := eq_true q576
                                                          have p577 : 0 ≤ (x119_4 : Int) := of_decide_eq_true (by first | (with_reducible assumption) | assumption)
                                                          have q577 : x119_4 < (t566.length : Int) := of_decide_eq_true (by first | (with_reducible assumption) | assumption)
                                                          obtain ⟨ad577, e577, hx577_0⟩ := Kd.at_int (Kd.R_reads' HO_14.out).2.2 x119_4 p577 q577
                                                          obtain rfl : ad575 = ad577 := (by injection e577)
                                                          replace p577 := eq_true p577
                                                          replace q577 := eq_true q577
                                                          have p580 : 0 ≤ (x114_3 : Int) := of_decide_eq_true (by first | (with_reducible assumption) | assumption)
                                                          have q580 : x114_3 < (t566.length : Int) := of_decide_eq_true (by first | (with_reducible assumption) | assumption)
                                                          obtain ⟨ad580, e580, hx580_0⟩ := Kd.at_int (Kd.R_reads' HO_14.out).2.2 x114_3 p580 q580
                                                          obtain rfl : ad575 = ad580 := (by injection e580)
                                                          replace p580 := eq_true p580
                                                          replace q580 := eq_true q580
                                                          have p581 : 0 ≤ (x119_4 : Int) := of_decide_eq_true (by first | (with_reducible assumption) | assumption)
                                                          have q581 : x119_4 < (t566.length : Int) := of_decide_eq_true (by first | (with_reducible assumption) | assumption)
                                                          obtain ⟨ad581, e581, hx581_0⟩ := Kd.at_int (Kd.R_reads' HO_14.out).2.2 x119_4 p581 q581
                                                          obtain rfl : ad575 = ad581 := (by injection e581)
                                                          replace p581 := eq_true p581
                                                          replace q581 := eq_true q581
                                                          obtain ⟨Ao69, co69, eo69⟩ := Kd.R_slice HO_16.out
                                                          subst eo69
                                                          have p584 : 0 ≤ (x114_3 : Int) := of_decide_eq_true (by first | (with_reducible assumption) | assumption)
                                                          have q584 : x114_3 < (t570.length : Int) := of_decide_eq_true (by first | (with_reducible assumption) | assumption)
                                                          obtain ⟨ad584, e584, hx584_0⟩ := Kd.at_int (Kd.R_reads' HO_16.out).2.2 x114_3 p584 q584
                                                          cases e584
                                                          replace p584 := eq_true p584
                                                          replace q584 := eq_true q584
                                                          have p585 : 0 ≤ (x119_4 : Int) := of_decide_eq_true (by first | (with_reducible assumption) | assumption)
                                                          have q585 : x119_4 < (t570.length : Int) := of_decide_eq_true (by first | (with_reducible assumption) | assumption)
                                                          obtain ⟨ad585, e585, hx585_0⟩ := Kd.at_int (Kd.R_reads' HO_16.out).2.2 x119_4 p585 q585
                                                          obtain rfl : ad584 = ad585 := (by injection e585)
                                                          replace p585 := eq_true p585
                                                          replace q585 := eq_true q585
                                                          go_wp2
                                                          repeat (go_quiet (fail); try go_wp2)
                                                          go_ret
                                                          exact ⟨by first | rfl | (simp [errW_none, errW_some] <;> rfl) | (simp only [← hji47]; first | rfl | (simp [errW_none, errW_some] <;> rfl)) | (simp [*, errW_none, errW_some] <;> rfl), by repeat (first | (with_reducible first | exact HB.out | apply below_alloc | apply pw_below_drewN | apply below_drew1) | exact HB.out)⟩
                                                        · rw [if_neg c68] at H
                                                          have c68b0 : (false != (decide ((rd t570 x114_3) < (rd t570 x119_4)))) = false := by simpa using c68
                                                          (try (have c68b1 : decide (false = (decide ((rd t570 x114_3) < (rd t570 x119_4)))) = true := by simpa using c68))
                                                          (try (have c68b2 : (false == (decide ((rd t570 x114_3) < (rd t570 x119_4)))) = true := by simpa using c68))
                                                          clear c68
                                                          have H' := Aside0.mk H
                                                          clear H
                                                          have p575 : 0 ≤ ((ji47) : Int) := of_decide_eq_true (by first | (with_reducible assumption) | assumption)
                                                          have q575 : (ji47) < (t566.length : Int) := of_decide_eq_true (by first | (with_reducible assumption) | assumption)
                                                          obtain ⟨ad575, e575, hx575_0⟩ := Kd.at_int (Kd.R_reads' HO_14.out).2.2 (ji47) p575 q575
                                                          cases e575
                                                          replace p575 := eq_true p575
                                                          replace q575 := eq_true q575
                                                          have p576 : 0 ≤ (x114_3 : Int) := of_decide_eq_true (by first | (with_reducible assumption) | assumption)
                                                          have q576 : x114_3 < (t566.length : Int) := of_decide_eq_true (by first | (with_reducible assumption) | assumption)
                                                          obtain ⟨ad576, e576, hx576_0⟩ := Kd.at_int (Kd.R_reads' HO_14.out).2.2 x114_3 p576 q576
                                                          obtain rfl : ad575 = ad576 := (by injection e576)
                                                          replace p576 := eq_true p576
                                                          replace q576 := eq_true q576
                                                          have p577 : 0 ≤ (x119_4 : Int) := of_decide_eq_true (by first | (with_reducible assumption) | assumption)
                                                          have q577 : x119_4 < (t566.length : Int) := of_decide_eq_true (by first | (with_reducible assumption) | assumption)
                                                          obtain ⟨ad577, e577, hx577_0⟩ := Kd.at_int (Kd.R_reads' HO_14.out).2.2 x119_4 p577 q577
                                                          obtain rfl : ad575 = ad577 := (by injection e577)
                                                          replace p577 := eq_true p577
                                                          replace q577 := eq_true q577
                                                          have p580 : 0 ≤ (x114_3 : Int) := of_decide_eq_true (by first | (with_reducible assumption) | assumption)
                                                          have q580 : x114_3 < (t566.length : Int) := of_decide_eq_true (by first | (with_reducible assumption) | assumption)
                                                          obtain ⟨ad580, e580, hx580_0⟩ := Kd.at_int (Kd.R_reads' HO_14.out).2.2 x114_3 p580 q580
                                                          obtain rfl : ad575 = ad580 := (by injection e580)
                                                          replace p580 := eq_true p580
                                                          replace q580 := eq_true q580
                                                          have p581 : 0 ≤ (x119_4 : Int) := of_decide_eq_true (by first | (with_reducible assumption) | assumption)
                                                          have q581 : x119_4 < (t566.length : Int) := of_decide_eq_true (by first | (with_reducible assumption) | assumption)
                                                          obtain ⟨ad581, e581, hx581_0⟩ := Kd.at_int (Kd.R_reads' HO_14.out).2.2 x119_4 p581 q581
                                                          obtain rfl : ad575 = ad581 := (by injection e581)
                                                          replace p581 := eq_true p581
                                                          replace q581 := eq_true q581
                                                          obtain ⟨Ao70, co70, eo70⟩ := Kd.R_slice HO_16.out
                                                          subst eo70
                                                          have p584 : 0 ≤ (x114_3 : Int) := of_decide_eq_true (by first | (with_reducible assumption) | assumption)
                                                          have q584 : x114_3 < (t570.length : Int) := of_decide_eq_true (by first | (with_reducible assumption) | assumption)
                                                          obtain ⟨ad584, e584, hx584_0⟩ := Kd.at_int (Kd.R_reads' HO_16.out).2.2 x114_3 p584 q584
                                                          cases e584
                                                          replace p584 := eq_true p584
                                                          replace q584 := eq_true q584
                                                          have p585 : 0 ≤ (x119_4 : Int) := of_decide_eq_true (by first | (with_reducible assumption) | assumption)
                                                          have q585 : x119_4 < (t570.length : Int) := of_decide_eq_true (by first | (with_reducible assumption) | assumption)
                                                          obtain ⟨ad585, e585, hx585_0⟩ := Kd.at_int (Kd.R_reads' HO_16.out).2.2 x119_4 p585 q585
                                                          obtain rfl : ad584 = ad585 := (by injection e585)
                                                          replace p585 := eq_true p585
                                                          replace q585 := eq_true q585
                                                          go_wp2
                                                          repeat (go_quiet (fail); try go_wp2)
                                                          go_roundg kj40
                                                          case measure => have := HJ7.out; have := HJ27.out; have := HK3.out; have := HK4.out; have := HJ40.out; omega
                                                          case rel => exact ⟨(wrap64 (x119_4 + 1)), (by first | rfl | (simp; done) | (simp [*]; done)), H', ⟨by have := HJ7.out; have := HJ27.out; have := HK3.out; have := HK4.out; have := HJ40.out; omega⟩, ⟨by (with_reducible repeat (first | apply Kd.R_alloc | apply Kd.R_drewN | apply Kd.R_drew)); exact HO_14.out⟩, ⟨by (with_reducible repeat (first | apply Kd.R_alloc | apply Kd.R_drewN | apply Kd.R_drew)); exact HO_16.out⟩, ⟨by repeat (first | (with_reducible first | exact HB.out | apply below_alloc | apply pw_below_drewN | apply below_drew1) | exact HB.out)⟩⟩
                                                      · rw [if_neg c67] at H
                                                        exact absurd H (by simp)
                                                    · rw [if_neg c66] at H
                                                      exact absurd H (by simp)
                                              · rw [if_neg c53] at H
                                                exact absurd H (by simp)
                                            · rw [if_neg c52] at H
                                              exact absurd H (by simp)
                                          · rw [if_neg c51] at H
                                            exact absurd H (by simp)
                                        · rw [if_neg c50] at H
                                          exact absurd H (by simp)
                                      · rw [if_neg c49] at H
                                        exact absurd H (by simp)
                                    · rw [if_neg c48] at H
                                      exact absurd H (by simp)
                                  · rw [if_neg c46] at H
                                    have c46b0 : decide ((wrap64 (x119_4 + t551)) < (t550.size : Int)) = false := decide_eq_false c46
                                    clear c46
                                    by_cases c71 : 0 ≤ x114_3
                                    · rw [if_pos c71] at H
                                      have c71b0 : decide (0 ≤ x114_3) = true := decide_eq_true c71
                                      clear c71
                                      by_cases c72 : x114_3 < (t566.length : Int)
                                      · rw [if_pos c72] at H
                                        have c72b0 : decide (x114_3 < (t566.length : Int)) = true := decide_eq_true c72
                                        clear c72
                                        by_cases c73 : 0 ≤ x119_4
                                        · rw [if_pos c73] at H
                                          have c73b0 : decide (0 ≤ x119_4) = true := decide_eq_true c73
                                          clear c73
                                          by_cases c74 : x119_4 < (t566.length : Int)
                                          · rw [if_pos c74] at H
                                            have c74b0 : decide (x119_4 < (t566.length : Int)) = true := decide_eq_true c74
                                            clear c74
                                            by_cases c75 : (rd t566 x114_3) < (rd t566 x119_4)
                                            · rw [if_pos c75] at H
                                              have c75b0 : decide ((rd t566 x114_3) < (rd t566 x119_4)) = true := decide_eq_true c75
                                              clear c75
                                              by_cases c76 : x114_3 < (t570.length : Int)
                                              · rw [if_pos c76] at H
                                                have c76b0 : decide (x114_3 < (t570.length : Int)) = true := decide_eq_true c76
                                                clear c76
                                                by_cases c77 : x119_4 < (t570.length : Int)
                                                · rw [if_pos c77] at H
                                                  have c77b0 : decide (x119_4 < (t570.length : Int)) = true := decide_eq_true c77
                                                  clear c77
                                                  by_cases c78 : (true != (decide ((rd t570 x114_3) < (rd t570 x119_4)))) = true
                                                  · rw [if_pos c78] at H
                                                    have c78b0 : (true != (decide ((rd t570 x114_3) < (rd t570 x119_4)))) = true := c78
                                                    (try (have c78b1 : decide (true = (decide ((rd t570 x114_3) < (rd t570 x119_4)))) = false := by simpa using c78))
                                                    (try (have c78b2 : (true == (decide ((rd t570 x114_3) < (rd t570 x119_4)))) = false := by simpa using c78))
                                                    (try (have c78b3 : ¬ (true = (decide ((rd t570 x114_3) < (rd t570 x119_4)))) := by simpa using c78))
                                                    clear c78
                                                    obtain rfl := Option.some.inj H
                                                    have p586 : 0 ≤ (x114_3 : Int) := of_decide_eq_true (by first | (with_reducible assumption) | assumption)
                                                    have q586 : x114_3 < (t566.length : Int) := of_decide_eq_true (by first | (with_reducible assumption) | assumption)
                                                    obtain ⟨ad586, e586, hx586_0⟩ := Kd.at_int (Kd.R_reads' HO_14.out).2.2 x114_3 p586 q586
                                                    cases e586
                                                    replace p586 := eq_true p586
                                                    replace q586 := eq_true q586
                                                    have p587 : 0 ≤ (x119_4 : Int) := of_decide_eq_true (by first | (with_reducible assumption) | assumption)
                                                    have q587 : x119_4 < (t566.length : Int) := of_decide_eq_true (by first | (with_reducible assumption) | assumption)
                                                    obtain ⟨ad587, e587, hx587_0⟩ := Kd.at_int (Kd.R_reads' HO_14.out).2.2 x119_4 p587 q587
                                                    obtain rfl : ad586 = ad587 := (by injection e587)
                                                    replace p587 := eq_true p587
                                                    replace q587 := eq_true q587
                                                    obtain ⟨Ao79, co79, eo79⟩ := Kd.R_slice HO_16.out
                                                    subst eo79
                                                    have p588 : 0 ≤ (x114_3 : Int) := of_decide_eq_true (by first | (with_reducible assumption) | assumption)
                                                    have q588 : x114_3 < (t570.length : Int) := of_decide_eq_true (by first | (with_reducible assumption) | assumption)
                                                    obtain ⟨ad588, e588, hx588_0⟩ := Kd.at_int (Kd.R_reads' HO_16.out).2.2 x114_3 p588 q588
                                                    cases e588
                                                    replace p588 := eq_true p588
                                                    replace q588 := eq_true q588
                                                    have p589 : 0 ≤ (x119_4 : Int) := of_decide_eq_true (by first | (with_reducible assumption) | assumption)
                                                    have q589 : x119_4 < (t570.length : Int) := of_decide_eq_true (by first | (with_reducible assumption) | assumption)
                                                    obtain ⟨ad589, e589, hx589_0⟩ := Kd.at_int (Kd.R_reads' HO_16.out).2.2 x119_4 p589 q589
                                                    obtain rfl : ad588 = ad589 := (by injection e589)
                                                    replace p589 := eq_true p589
                                                    replace q589 := eq_true q589
                                                    go_wp2
                                                    repeat (go_quiet (fail); try go_wp2)
                                                    go_ret
                                                    exact ⟨by first | rfl | (simp [errW_none, errW_some] <;> rfl) | (simp [*, errW_none, errW_some] <;> rfl), by repeat (first | (with_reducible first | exact HB.out | apply below_alloc | apply pw_below_drewN | apply below_drew1) | exact HB.out)⟩
                                                  · rw [if_neg c78] at H
                                                    have c78b0 : (true != (decide ((rd t570 x114_3) < (rd t570 x119_4)))) = false := by simpa using c78
                                                    (try (have c78b1 : decide (true = (decide ((rd t570 x114_3) < (rd t570 x119_4)))) = true := by simpa using c78))
                                                    (try (have c78b2 : (true == (decide ((rd t570 x114_3) < (rd t570 x119_4)))) = true := by simpa using c78))
                                                    clear c78
                                                    have H' := Aside0.mk H
                                                    clear H
                                                    have p586 : 0 ≤ (x114_3 : Int) := of_decide_eq_true (by first | (with_reducible assumption) | assumption)
                                                    have q586 : x114_3 < (t566.length : Int) := of_decide_eq_true (by first | (with_reducible assumption) | assumption)
                                                    obtain ⟨ad586, e586, hx586_0⟩ := Kd.at_int (Kd.R_reads' HO_14.out).2.2 x114_3 p586 q586
                                                    cases e586
                                                    replace p586 := eq_true p586
                                                    replace q586 := eq_true q586
                                                    have p587 : 0 ≤ (x119_4 : Int) := of_decide_eq_true (by first | (with_reducible assumption) | assumption)
                                                    have q587 : x119_4 < (t566.length : Int) := of_decide_eq_true (by first | (with_reducible assumption) | assumption)
                                                    obtain ⟨ad587, e587, hx587_0⟩ := Kd.at_int (Kd.R_reads' HO_14.out).2.2 x119_4 p587 q587
                                                    obtain rfl : ad586 = ad587 := (by injection e587)
                                                    replace p587 := eq_true p587
                                                    replace q587 := eq_true q587
                                                    obtain ⟨Ao80, co80, eo80⟩ := Kd.R_slice HO_16.out
                                                    subst eo80
                                                    have p588 : 0 ≤ (x114_3 : Int) := of_decide_eq_true (by first | (with_reducible assumption) | assumption)
                                                    have q588 : x114_3 < (t570.length : Int) := of_decide_eq_true (by first | (with_reducible assumption) | assumption)
                                                    obtain ⟨ad588, e588, hx588_0⟩ := Kd.at_int (Kd.R_reads' HO_16.out).2.2 x114_3 p588 q588
                                                    cases e588
                                                    replace p588 := eq_true p588
                                                    replace q588 := eq_true q588
                                                    have p589 : 0 ≤ (x119_4 : Int) := of_decide_eq_true (by first | (with_reducible assumption) | assumption)
                                                    have q589 : x119_4 < (t570.length : Int) := of_decide_eq_true (by first | (with_reducible assumption) | assumption)
                                                    obtain ⟨ad589, e589, hx589_0⟩ := Kd.at_int (Kd.R_reads' HO_16.out).2.2 x119_4 p589 q589
                                                    obtain rfl : ad588 = ad589 := (by injection e589)
                                                    replace p589 := eq_true p589
                                                    replace q589 := eq_true q589
                                                    go_wp2
                                                    repeat (go_quiet (fail); try go_wp2)
                                                    go_roundg kj40
                                                    case measure => have := HJ7.out; have := HJ27.out; have := HK3.out; have := HK4.out; have := HJ40.out; omega
                                                    case rel => exact ⟨(wrap64 (x119_4 + 1)), (by first | rfl | (simp; done) | (simp [*]; done)), H', ⟨by have := HJ7.out; have := HJ27.out; have := HK3.out; have := HK4.out; have := HJ40.out; omega⟩, ⟨by (with_reducible repeat (first | apply Kd.R_alloc | apply Kd.R_drewN | apply Kd.R_drew)); exact HO_14.out⟩, ⟨by (with_reducible repeat (first | apply Kd.R_alloc | apply Kd.R_drewN | apply Kd.R_drew)); exact HO_16.out⟩, ⟨by repeat (first | (with_reducible first | exact HB.out | apply below_alloc | apply pw_below_drewN | apply below_drew1) | exact HB.out)⟩⟩
                                                · rw [if_neg c77] at H
                                                  exact absurd H (by simp)
                                              · rw [if_neg c76] at H
                                                exact absurd H (by simp)
                                            · rw [if_neg c75] at H
                                              have c75b0 : decide ((rd t566 x114_3) < (rd t566 x119_4)) = false := decide_eq_false c75
                                              clear c75
                                              by_cases c81 : (rd t566 x114_3) = (rd t566 x119_4)
                                              · rw [if_pos c81] at H
                                                have c81b0 : ((rd t566 x114_3) == (rd t566 x119_4)) = true := beq_iff_eq.mpr c81
                                                have c81b1 : ((rd t566 x114_3) != (rd t566 x119_4)) = false := bne_eq_false_iff_eq.mpr c81
                                                clear c81
                                                by_cases c82 : x114_3 < (t570.length : Int)
                                                · rw [if_pos c82] at H
                                                  have c82b0 : decide (x114_3 < (t570.length : Int)) = true := decide_eq_true c82
                                                  clear c82
                                                  by_cases c83 : x119_4 < (t570.length : Int)
                                                  · rw [if_pos c83] at H
                                                    have c83b0 : decide (x119_4 < (t570.length : Int)) = true := decide_eq_true c83
                                                    clear c83
                                                    by_cases c84 : ((decide (x20_40 < (-1))) != (decide ((rd t570 x114_3) < (rd t570 x119_4)))) = true
                                                    · rw [if_pos c84] at H
                                                      have c84b0 : ((decide (x20_40 < (-1))) != (decide ((rd t570 x114_3) < (rd t570 x119_4)))) = true := c84
                                                      (try (have c84b1 : decide ((decide (x20_40 < (-1))) = (decide ((rd t570 x114_3) < (rd t570 x119_4)))) = false := by simpa using c84))
                                                      (try (have c84b2 : ((decide (x20_40 < (-1))) == (decide ((rd t570 x114_3) < (rd t570 x119_4)))) = false := by simpa using c84))
                                                      (try (have c84b3 : ¬ ((decide (x20_40 < (-1))) = (decide ((rd t570 x114_3) < (rd t570 x119_4)))) := by simpa using c84))
                                                      clear c84
                                                      obtain rfl := Option.some.inj H
                                                      have p586 : 0 ≤ (x114_3 : Int) := of_decide_eq_true (by first | (with_reducible assumption) | assumption)
                                                      have q586 : x114_3 < (t566.length : Int) := of_decide_eq_true (by first | (with_reducible assumption) | assumption)
                                                      obtain ⟨ad586, e586, hx586_0⟩ := Kd.at_int (Kd.R_reads' HO_14.out).2.2 x114_3 p586 q586
                                                      cases e586
                                                      replace p586 := eq_true p586
                                                      replace q586 := eq_true q586
                                                      have p587 : 0 ≤ (x119_4 : Int) := of_decide_eq_true (by first | (with_reducible assumption) | assumption)
                                                      have q587 : x119_4 < (t566.length : Int) := of_decide_eq_true (by first | (with_reducible assumption) | assumption)
                                                      obtain ⟨ad587, e587, hx587_0⟩ := Kd.at_int (Kd.R_reads' HO_14.out).2.2 x119_4 p587 q587
                                                      obtain rfl : ad586 = ad587 := (by injection e587)
                                                      replace p587 := eq_true p587
                                                      replace q587 := eq_true q587
                                                      have p590 : 0 ≤ (x114_3 : Int) := of_decide_eq_true (by first | (with_reducible assumption) | assumption)
                                                      have q590 : x114_3 < (t566.length : Int) := of_decide_eq_true (by first | (with_reducible assumption) | assumption)
                                                      obtain ⟨ad590, e590, hx590_0⟩ := Kd.at_int (Kd.R_reads' HO_14.out).2.2 x114_3 p590 q590
                                                      obtain rfl : ad586 = ad590 := (by injection e590)
                                                      replace p590 := eq_true p590
                                                      replace q590 := eq_true q590
                                                      have p591 : 0 ≤ (x119_4 : Int) := of_decide_eq_true (by first | (with_reducible assumption) | assumption)
                                                      have q591 : x119_4 < (t566.length : Int) := of_decide_eq_true (by first | (with_reducible assumption) | assumption)
                                                      obtain ⟨ad591, e591, hx591_0⟩ := Kd.at_int (Kd.R_reads' HO_14.out).2.2 x119_4 p591 q591
                                                      obtain rfl : ad586 = ad591 := (by injection e591)
                                                      replace p591 := eq_true p591
                                                      replace q591 := eq_true q591
                                                      obtain ⟨Ao85, co85, eo85⟩ := Kd.R_slice HO_16.out
                                                      subst eo85
                                                      have p592 : 0 ≤ (x114_3 : Int) := of_decide_eq_true (by first | (with_reducible assumption) | assumption)
                                                      have q592 : x114_3 < (t570.length : Int) := of_decide_eq_true (by first | (with_reducible assumption) | assumption)
                                                      obtain ⟨ad592, e592, hx592_0⟩ := Kd.at_int (Kd.R_reads' HO_16.out).2.2 x114_3 p592 q592
                                                      cases e592
                                                      replace p592 := eq_true p592
                                                      replace q592 := eq_true q592
                                                      have p593 : 0 ≤ (x119_4 : Int) := of_decide_eq_true (by first | (with_reducible assumption) | assumption)
                                                      have q593 : x119_4 < (t570.length : Int) := of_decide_eq_true (by first | (with_reducible assumption) | assumption)
                                                      obtain ⟨ad593, e593, hx593_0⟩ := Kd.at_int (Kd.R_reads' HO_16.out).2.2 x119_4 p593 q593
                                                      obtain rfl : ad592 = ad593 := (by injection e593)
                                                      replace p593 := eq_true p593
                                                      replace q593 := eq_true q593
                                                      go_wp2
                                                      repeat (go_quiet (fail); try go_wp2)
                                                      go_ret
                                                      exact ⟨by first | rfl | (simp [errW_none, errW_some] <;> rfl) | (simp [*, errW_none, errW_some] <;> rfl), by repeat (first | (with_reducible first | exact HB.out | apply below_alloc | apply pw_below_drewN | apply below_drew1) | exact HB.out)⟩
                                                    · rw [if_neg c84] at H
                                                      have c84b0 : ((decide (x20_40 < (-1))) != (decide ((rd t570 x114_3) < (rd t570 x119_4)))) = false := by simpa using c84
                                                      (try (have c84b1 : decide ((decide (x20_40 < (-1))) = (decide ((rd t570 x114_3) < (rd t570 x119_4)))) = true := by simpa using c84))
                                                      (try (have c84b2 : ((decide (x20_40 < (-1))) == (decide ((rd t570 x114_3) < (rd t570 x119_4)))) = true := by simpa using c84))
                                                      clear c84
                                                      have H' := Aside0.mk H
                                                      clear H
                                                      have p586 : 0 ≤ (x114_3 : Int) := of_decide_eq_true (by first | (with_reducible assumption) | assumption)
                                                      have q586 : x114_3 < (t566.length : Int) := of_decide_eq_true (by first | (with_reducible assumption) | assumption)
                                                      obtain ⟨ad586, e586, hx586_0⟩ := Kd.at_int (Kd.R_reads' HO_14.out).2.2 x114_3 p586 q586
                                                      cases e586
                                                      replace p586 := eq_true p586
                                                      replace q586 := eq_true q586
                                                      have p587 : 0 ≤ (x119_4 : Int) := of_decide_eq_true (by first | (with_reducible assumption) | assumption)
                                                      have q587 : x119_4 < (t566.length : Int) := of_decide_eq_true (by first | (with_reducible assumption) | assumption)
                                                      obtain ⟨ad587, e587, hx587_0⟩ := Kd.at_int (Kd.R_reads' HO_14.out).2.2 x119_4 p587 q587
                                                      obtain rfl : ad586 = ad587 := (by injection e587)
                                                      replace p587 := eq_true p587
                                                      replace q587 := eq_true q587
                                                      have p590 : 0 ≤ (x114_3 : Int) := of_decide_eq_true (by first | (with_reducible assumption) | assumption)
                                                      have q590 : x114_3 < (t566.length : Int) := of_decide_eq_true (by first | (with_reducible assumption) | assumption)
                                                      obtain ⟨ad590, e590, hx590_0⟩ := Kd.at_int (Kd.R_reads' HO_14.out).2.2 x114_3 p590 q590
                                                      obtain rfl : ad586 = ad590 := (by injection e590)
                                                      replace p590 := eq_true p590
                                                      replace q590 := eq_true q590
                                                      have p591 : 0 ≤ (x119_4 : Int) := of_decide_eq_true (by first | (with_reducible assumption) | assumption)
                                                      have q591 : x119_4 < (t566.length : Int) := of_decide_eq_true (by first | (with_reducible assumption) | assumption)
                                                      obtain ⟨ad591, e591, hx591_0⟩ := Kd.at_int (Kd.R_reads' HO_14.out).2.2 x119_4 p591 q591
                                                      obtain rfl : ad586 = ad591 := (by injection e591)
                                                      replace p591 := eq_true p591
                                                      replace q591 := eq_true q591
                                                      obtain ⟨Ao86, co86, eo86⟩ := Kd.R_slice HO_16.out
                                                      subst eo86
                                                      have p592 : 0 ≤ (x114_3 : Int) := of_decide_eq_true (by first | (with_reducible assumption) | assumption)
                                                      have q592 : x114_3 < (t570.length : Int) := of_decide_eq_true (by first | (with_reducible assumption) | assumption)
                                                      obtain ⟨ad592, e592, hx592_0⟩ := Kd.at_int (Kd.R_reads' HO_16.out).2.2 x114_3 p592 q592
                                                      cases e592
                                                      replace p592 := eq_true p592
                                                      replace q592 := eq_true q592
                                                      have p593 : 0 ≤ (x119_4 : Int) := of_decide_eq_true (by first | (with_reducible assumption) | assumption)
                                                      have q593 : x119_4 < (t570.length : Int) := of_decide_eq_true (by first | (with_reducible assumption) | assumption)
                                                      obtain ⟨ad593, e593, hx593_0⟩ := Kd.at_int (Kd.R_reads' HO_16.out).2.2 x119_4 p593 q593
                                                      obtain rfl : ad592 = ad593 := (by injection e593)
                                                      replace p593 := eq_true p593
                                                      replace q593 := eq_true q593
                                                      go_wp2
                                                      repeat (go_quiet (fail); try go_wp2)
                                                      go_roundg kj40
                                                      case measure => have := HJ7.out; have := HJ27.out; have := HK3.out; have := HK4.out; have := HJ40.out; omega
                                                      case rel => exact ⟨(wrap64 (x119_4 + 1)), (by first | rfl | (simp; done) | (simp [*]; done)), H', ⟨by have := HJ7.out; have := HJ27.out; have := HK3.out; have := HK4.out; have := HJ40.out; omega⟩, ⟨by (with_reducible repeat (first | apply Kd.R_alloc | apply Kd.R_drewN | apply Kd.R_drew)); exact HO_14.out⟩, ⟨by (with_reducible repeat (first | apply Kd.R_alloc | apply Kd.R_drewN | apply Kd.R_drew)); exact HO_16.out⟩, ⟨by repeat (first | (with_reducible first | exact HB.out | apply below_alloc | apply pw_below_drewN | apply below_drew1) | exact HB.out)⟩⟩
                                                  · rw [if_neg c83] at H
                                                    exact absurd H (by simp)
                                                · rw [if_neg c82] at H
                                                  exact absurd H (by simp)
                                              · rw [if_neg c81] at H
                                                have c81b0 : ((rd t566 x114_3) == (rd t566 x119_4)) = false := beq_eq_false_iff_ne.mpr c81
                                                have c81b1 : ((rd t566 x114_3) != (rd t566 x119_4)) = true := bne_iff_ne.mpr c81
                                                by_cases c87 : x114_3 < (t570.length : Int)
                                                · rw [if_pos c87] at H
                                                  have c87b0 : decide (x114_3 < (t570.length : Int)) = true := decide_eq_true c87
                                                  clear c87
                                                  by_cases c88 : x119_4 < (t570.length : Int)
                                                  · rw [if_pos c88] at H
                                                    have c88b0 : decide (x119_4 < (t570.length : Int)) = true := decide_eq_true c88
                                                    clear c88
                                                    by_cases c89 : (false != (decide ((rd t570 x114_3) < (rd t570 x119_4)))) = true
                                                    · rw [if_pos c89] at H
                                                      have c89b0 : (false != (decide ((rd t570 x114_3) < (rd t570 x119_4)))) = true := c89
                                                      (try (have c89b1 : decide (false = (decide ((rd t570 x114_3) < (rd t570 x119_4)))) = false := by simpa using c89))
                                                      (try (have c89b2 : (false == (decide ((rd t570 x114_3) < (rd t570 x119_4)))) = false := by simpa using c89))
                                                      (try (have c89b3 : ¬ (false = (decide ((rd t570 x114_3) < (rd t570 x119_4)))) := by simpa using c89))
                                                      clear c89
                                                      obtain rfl := Option.some.inj H
                                                      have p586 : 0 ≤ (x114_3 : Int) := of_decide_eq_true (by first | (with_reducible assumption) | assumption)
                                                      have q586 : x114_3 < (t566.length : Int) := of_decide_eq_true (by first | (with_reducible assumption) | assumption)
                                                      obtain ⟨ad586, e586, hx586_0⟩ := Kd.at_int (Kd.R_reads' HO_14.out).2.2 x114_3 p586 q586
                                                      cases e586
                                                      replace p586 := eq_true p586
                                                      replace q586 := eq_true q586
                                                      have p587 : 0 ≤ (x119_4 : Int) := of_decide_eq_true (by first | (with_reducible assumption) | assumption)
                                                      have q587 : x119_4 < (t566.length : Int) := of_decide_eq_true (by first | (with_reducible assumption) | assumption)
                                                      obtain ⟨ad587, e587, hx587_0⟩ := Kd.at_int (Kd.R_reads' HO_14.out).2.2 x119_4 p587 q587
                                                      obtain rfl : ad586 = ad587 := (by injection e587)
                                                      replace p587 := eq_true p587
                                                      replace q587 := eq_true q587
                                                      have p590 : 0 ≤ (x114_3 : Int) := of_decide_eq_true (by first | (with_reducible assumption) | assumption)
                                                      have q590 : x114_3 < (t566.length : Int) := of_decide_eq_true (by first | (with_reducible assumption) | assumption)
                                                      obtain ⟨ad590, e590, hx590_0⟩ := Kd.at_int (Kd.R_reads' HO_14.out).2.2 x114_3 p590 q590
                                                      obtain rfl : ad586 = ad590 := (by injection e590)
                                                      replace p590 := eq_true p590
                                                      replace q590 := eq_true q590
                                                      have p591 : 0 ≤ (x119_4 : Int) := of_decide_eq_true (by first | (with_reducible assumption) | assumption)
                                                      have q591 : x119_4 < (t566.length : Int) := of_decide_eq_true (by first | (with_reducible assumption) | assumption)
                                                      obtain ⟨ad591, e591, hx591_0⟩ := Kd.at_int (Kd.R_reads' HO_14.out).2.2 x119_4 p591 q591
                                                      obtain rfl : ad586 = ad591 := (by injection e591)
                                                      replace p591 := eq_true p591
                                                      replace q591 := eq_true q591
                                                      obtain ⟨Ao90, co90, eo90⟩ := Kd.R_slice HO_16.out
                                                      subst eo90
                                                      have p594 : 0 ≤ (x114_3 : Int) := of_decide_eq_true (by first | (with_reducible assumption) | assumption)
                                                      have q594 : x114_3 < (t570.length : Int) := of_decide_eq_true (by first | (with_reducible assumption) | assumption)
                                                      obtain ⟨ad594, e594, hx594_0⟩ := Kd.at_int (Kd.R_reads' HO_16.out).2.2 x114_3 p594 q594
                                                      cases e594
                                                      replace p594 := eq_true p594
                                                      replace q594 := eq_true q594
                                                      have p595 : 0 ≤ (x119_4 : Int) := of_decide_eq_true (by first | (with_reducible assumption) | assumption)
                                                      have q595 : x119_4 < (t570.length : Int) := of_decide_eq_true (by first | (with_reducible assumption) | assumption)
                                                      obtain ⟨ad595, e595, hx595_0⟩ := Kd.at_int (Kd.R_reads' HO_16.out).2.2 x119_4 p595 q595
                                                      obtain rfl : ad594 = ad595 := (by injection e595)
                                                      replace p595 := eq_true p595
                                                      replace q595 := eq_true q595
                                                      go_wp2
                                                      repeat (go_quiet (fail); try go_wp2)
                                                      go_ret
                                                      exact ⟨by first | rfl | (simp [errW_none, errW_some] <;> rfl) | (simp [*, errW_none, errW_some] <;> rfl), by repeat (first | (with_reducible first | exact HB.out | apply below_alloc | apply pw_below_drewN | apply below_drew1) | exact HB.out)⟩
                                                    · rw [if_neg c89] at H
                                                      have c89b0 : (false != (decide ((rd t570 x114_3) < (rd t570 x119_4)))) = false := by simpa using c89
                                                      (try (have c89b1 : decide (false = (decide ((rd t570 x114_3) < (rd t570 x119_4)))) = true := by simpa using c89))
                                                      (try (have c89b2 : (false == (decide ((rd t570 x114_3) < (rd t570 x119_4)))) = true := by simpa using c89))
                                                      clear c89
                                                      have H' := Aside0.mk H
                                                      clear H
                                                      have p586 : 0 ≤ (x114_3 : Int) := of_decide_eq_true (by first | (with_reducible assumption) | assumption)
                                                      have q586 : x114_3 < (t566.length : Int) := of_decide_eq_true (by first | (with_reducible assumption) | assumption)
                                                      obtain ⟨ad586, e586, hx586_0⟩ := Kd.at_int (Kd.R_reads' HO_14.out).2.2 x114_3 p586 q586
                                                      cases e586
                                                      replace p586 := eq_true p586
                                                      replace q586 := eq_true q586
                                                      have p587 : 0 ≤ (x119_4 : Int) := of_decide_eq_true (by first | (with_reducible assumption) | assumption)
                                                      have q587 : x119_4 < (t566.length : Int) := of_decide_eq_true (by first | (with_reducible assumption) | assumption)
                                                      obtain ⟨ad587, e587, hx587_0⟩ := Kd.at_int (Kd.R_reads' HO_14.out).2.2 x119_4 p587 q587
                                                      obtain rfl : ad586 = ad587 := (by injection e587)
                                                      replace p587 := eq_true p587
                                                      replace q587 := eq_true q587
                                                      have p590 : 0 ≤ (x114_3 : Int) := of_decide_eq_true (by first | (with_reducible assumption) | assumption)
                                                      have q590 : x114_3 < (t566.length : Int) := of_decide_eq_true (by first | (with_reducible assumption) | assumption)
                                                      obtain ⟨ad590, e590, hx590_0⟩ := Kd.at_int (Kd.R_reads' HO_14.out).2.2 x114_3 p590 q590
                                                      obtain rfl : ad586 = ad590 := (by injection e590)
                                                      replace p590 := eq_true p590
                                                      replace q590 := eq_true q590
                                                      have p591 : 0 ≤ (x119_4 : Int) := of_decide_eq_true (by first | (with_reducible assumption) | assumption)
                                                      have q591 : x119_4 < (t566.length : Int) := of_decide_eq_true (by first | (with_reducible assumption) | assumption)
                                                      obtain ⟨ad591, e591, hx591_0⟩ := Kd.at_int (Kd.R_reads' HO_14.out).2.2 x119_4 p591 q591
                                                      obtain rfl : ad586 = ad591 := (by injection e591)
                                                      replace p591 := eq_true p591
                                                      replace q591 := eq_true q591
                                                      obtain ⟨Ao91, co91, eo91⟩ := Kd.R_slice HO_16.out
                                                      subst eo91
                                                      have p594 : 0 ≤ (x114_3 : Int) := of_decide_eq_true (by first | (with_reducible assumption) | assumption)
                                                      have q594 : x114_3 < (t570.length : Int) := of_decide_eq_true (by first | (with_reducible assumption) | assumption)
                                                      obtain ⟨ad594, e594, hx594_0⟩ := Kd.at_int (Kd.R_reads' HO_16.out).2.2 x114_3 p594 q594
                                                      cases e594
                                                      replace p594 := eq_true p594
                                                      replace q594 := eq_true q594
                                                      have p595 : 0 ≤ (x119_4 : Int) := of_decide_eq_true (by first | (with_reducible assumption) | assumption)
                                                      have q595 : x119_4 < (t570.length : Int) := of_decide_eq_true (by first | (with_reducible assumption) | assumption)
                                                      obtain ⟨ad595, e595, hx595_0⟩ := Kd.at_int (Kd.R_reads' HO_16.out).2.2 x119_4 p595 q595
                                                      obtain rfl : ad594 = ad595 := (by injection e595)
                                                      replace p595 := eq_true p595
                                                      replace q595 := eq_true q595
                                                      go_wp2
                                                      repeat (go_quiet (fail); try go_wp2)
                                                      go_roundg kj40
                                                      case measure => have := HJ7.out; have := HJ27.out; have := HK3.out; have := HK4.out; have := HJ40.out; omega
                                                      case rel => exact ⟨(wrap64 (x119_4 + 1)), (by first | rfl | (simp; done) | (simp [*]; done)), H', ⟨by have := HJ7.out; have := HJ27.out; have := HK3.out; have := HK4.out; have := HJ40.out; omega⟩, ⟨by (with_reducible repeat (first | apply Kd.R_alloc | apply Kd.R_drewN | apply Kd.R_drew)); exact HO_14.out⟩, ⟨by (with_reducible repeat (first | apply Kd.R_alloc | apply Kd.R_drewN | apply Kd.R_drew)); exact HO_16.out⟩, ⟨by repeat (first | (with_reducible first | exact HB.out | apply below_alloc | apply pw_below_drewN | apply below_drew1) | exact HB.out)⟩⟩
                                                  · rw [if_neg c88] at H
                                                    exact absurd H (by simp)
                                                · rw [if_neg c87] at H
                                                  exact absurd H (by simp)
                                          · rw [if_neg c74] at H
                                            exact absurd H (by simp)
                                        · rw [if_neg c73] at H
                                          exact absurd H (by simp)
                                      · rw [if_neg c72] at H
                                        exact absurd H (by simp)
                                    · rw [if_neg c71] at H
                                      exact absurd H (by simp)
                            · rw [if_neg c40] at H
                              have c40b0 : decide (x119_4 < (t566.length : Int)) = false := decide_eq_false c40
                              clear c40
                              have H' := Aside0.mk H
                              clear H
                              go_wp2
                              repeat (go_quiet (fail); try go_wp2)
                              go_roundg k4
                              case measure => have := HJ7.out; have := HJ27.out; have := HK3.out; have := HK4.out; omega
                              case rel => exact ⟨(wrap64 (x114_3 + 1)), (by first | rfl | (simp; done) | (simp [*]; done)), H', ⟨by have := HJ7.out; have := HJ27.out; have := HK3.out; have := HK4.out; omega⟩, ⟨by (with_reducible repeat (first | apply Kd.R_alloc | apply Kd.R_drewN | apply Kd.R_drew)); exact HO_14.out⟩, ⟨by (with_reducible repeat (first | apply Kd.R_alloc | apply Kd.R_drewN | apply Kd.R_drew)); exact HO_16.out⟩, ⟨by repeat (first | (with_reducible first | exact HB.out | apply below_alloc | apply pw_below_drewN | apply below_drew1) | exact HB.out)⟩⟩
                      · rw [if_neg c39] at H
                        have c39b0 : decide (x114_3 < (t566.length : Int)) = false := decide_eq_false c39
                        clear c39
                        obtain rfl := Option.some.inj H
                        go_wp2
                        repeat (go_quiet (fail); try go_wp2)
                        go_ret
                        exact ⟨by first | rfl | (simp [errW_none, errW_some] <;> rfl) | (simp [*, errW_none, errW_some] <;> rfl), by repeat (first | (with_reducible first | exact HB.out | apply below_alloc | apply pw_below_drewN | apply below_drew1) | exact HB.out)⟩
          · replace c25 := Bool.eq_false_iff.mpr c25
            subst c25
            have H1 : (some ((t553.length : Int) == 0)) = some r := by rw [if_neg (show ¬ (false = true) by decide)] at H; exact H
            clear H
            have H := H1
            clear H1
            obtain rfl := Option.some.inj H
            obtain ⟨Ao92, co92, eo92⟩ := Kd.R_slice HO_6.out
            subst eo92
            go_wp2
            repeat (go_quiet (fail); try go_wp2)
            go_ret
            exact ⟨by first | rfl | (simp [errW_none, errW_some] <;> rfl) | (simp [*, errW_none, errW_some] <;> rfl), by repeat (first | (with_reducible first | exact HB.out | apply below_alloc | apply pw_below_drewN | apply below_drew1) | exact HB.out)⟩

/-- THE ONE PURE STATEMENT of laws_FnDoubled: yours. -/
def laws_FnDoubled.Pure : Prop := ∀ (l0 : List Int), l0.length ≤ maxLen → l0.length * 1 ≤ 140737488351232 → (∀ x ∈ l0, (Lit.int .u8 x).wf = true) → ∃ k, laws_FnDoubled.f k l0 = some true
theorem laws_FnDoubled.walk (P : laws_FnDoubled.Pure) (a0 : Option Addr) (len0 cap0 : Nat) (z0 : List Int) (w : World) (w0 : (a0 = none ∧ len0 = 0 ∧ cap0 = 0 ∧ z0 = []) ∨ ∃ x, a0 = some x ∧ len0 ≤ cap0 ∧ cap0 ≤ maxLen ∧ z0.length = cap0 ∧ (∀ i, i < z0.length → w.cell? (x.add i) = some (.int .u8 (z0.getD i 0))) ∧ ∀ n ∈ z0, (Lit.int .u8 n).wf = true) (y0 : len0 * 1 ≤ 140737488351232) :
    Calls Try.prog 11 #[.slice a0 len0 cap0] w fun e w' => e = .returned (.bool true) ∧ Below w.heap.size w w' := by
  obtain ⟨l0, rfl, hr0, hm0, hw0, hc0⟩ := ReadsInt.ofRowC w0
  obtain ⟨k, h⟩ := P l0 hm0 y0 hw0
  refine (laws_FnDoubled.calls k _ _ l0 true w (Kd.C_of_reads (d := (0 : Int)) (h1 := fun _ => rfl) hr0) hc0 h).mono ?_
  rintro e w' ⟨rfl, hd⟩
  exact ⟨rfl, hd⟩

end Go.Proofs.Ytppmigiknidjhaa.PQ
end

section
/- The law FnDoubled returns true at all choices. No conditions. -/
namespace Go.Proofs.Ytppmigiknidjhaa.Rk
set_option linter.unusedVariables false
open Go.RowKit Go.Proofs.Ytppmigiknidjhaa.PQ Go.Proofs.YtppmigiknidjhaaW.PrintWords Go.Proofs.YtppmigiknidjhaaW.PrintLast Go.Proofs.Ytppmigiknidjhaa.Pre
theorem dbl_loop (s : ByteArray) (hs : s.size ≤ 120) (K : Nat) (hK : K ≤ 120) (ra rb : Nat → Nat) (A B : List Int) (hA : A.length = s.size) (hB : B.length = s.size) (hrA : ∀ i : Nat, i < s.size → rd A (i : Int) = ((ra i : Nat) : Int)) (hrB : ∀ i : Nat, i < s.size → rd B (i : Int) = ((rb i : Nat) : Int))
    (D : ∀ i j, i < s.size → j < s.size → ((ra i < ra j ∨ (ra i = ra j ∧ beh s.size ra K i < beh s.size ra K j)) ↔ rb i < rb j)) :
    ∀ (n i : Nat), i + n = s.size → Evt (fun k => laws_FnDoubled.l0 k s (K : Int) A B (A.length : Int) (i : Int)) true := by
  intro n
  induction n with
  | zero =>
    intro i hi
    exact Evt.step (fun k => laws_FnDoubled.l0.eq_2 _ _ _ _ _ _ k) (Evt.neg (by omega) (Evt.const _))
  | succ n ih =>
    intro i hi
    have hnext := ih (i + 1) (by omega)
    have hi2 : i < s.size := by omega
    refine Evt.step (fun k => laws_FnDoubled.l0.eq_2 _ _ _ _ _ _ k) (Evt.pos (by omega) ?_)
    have inner : ∀ (m j : Nat), j + m = s.size → Evt (fun k => laws_FnDoubled.l1 k s (K : Int) A B (i : Int) (A.length : Int) (i : Int) (A.length : Int) (j : Int)) true := by
      intro m
      induction m with
      | zero =>
        intro j hj
        refine Evt.step (fun k => laws_FnDoubled.l1.eq_2 _ _ _ _ _ _ _ _ _ k) (Evt.neg (by omega) ?_)
        rw [w64 (n := (i : Int) + 1) (by omega) (by omega), show (i : Int) + 1 = ((i + 1 : Nat) : Int) by omega]
        exact hnext
      | succ m ihm =>
        intro j hj
        have hjn := ihm (j + 1) (by omega)
        have hj2 : j < s.size := by omega
        have d := D i j hi2 hj2
        have j4 : Evt (fun k => laws_FnDoubled.j4 k s (K : Int) A B (i : Int) (j : Int) (beh s.size ra K i) (-1) (A.length : Int) (i : Int) (A.length : Int) (j : Int)) true := by
          refine Evt.step (fun k => laws_FnDoubled.j4.eq_2 _ _ _ _ _ _ _ _ _ _ _ _ k) ?_
          rw [w64 (n := (j : Int) + (K : Int)) (by omega) (by omega), show (j : Int) + (K : Int) = ((j + K : Nat) : Int) by omega, w64 (n := (j : Int) + 1) (by omega) (by omega), show (j : Int) + 1 = ((j + 1 : Nat) : Int) by omega]
          rw [hrA i hi2, hrA j hj2, hrB i hi2, hrB j hj2]
          by_cases hjk : j + K < s.size
          · rw [hrA (j + K) hjk]
            have eb : beh s.size ra K j = ((ra (j + K) : Nat) : Int) := if_pos hjk
            rw [eb] at d
            clear eb
            refine Evt.pos (by omega) (Evt.pos (by omega) (Evt.pos (by omega) (Evt.pos (by omega) (Evt.pos (by omega) (Evt.pos (by omega) (Evt.pos (by omega) ?_))))))
            by_cases h1 : ra i < ra j
            · have h2 : rb i < rb j := d.1 (.inl h1)
              exact Evt.pos (by omega) (Evt.pos (by omega) (Evt.pos (by omega) (Evt.neg (by simp [h2]) hjn)))
            · refine Evt.neg (by omega) ?_
              by_cases h3 : ra i = ra j
              · refine Evt.pos (by omega) (Evt.pos (by omega) (Evt.pos (by omega) (Evt.neg ?_ hjn)))
                have h4 : decide (beh s.size ra K i < ((ra (j + K) : Nat) : Int)) = decide (((rb i : Nat) : Int) < ((rb j : Nat) : Int)) := by
                  apply decide_eq_decide.2
                  constructor
                  · intro h
                    have := d.1 (.inr ⟨h3, h⟩)
                    omega
                  · intro h
                    rcases d.2 (by omega) with h5 | h5
                    · exact absurd h5 h1
                    · exact h5.2
                rw [h4]
                simp
              · have h2 : ¬ rb i < rb j := fun h => by
                  rcases d.2 h with h5 | h5
                  · exact h1 h5
                  · exact h3 h5.1
                exact Evt.neg (by omega) (Evt.pos (by omega) (Evt.pos (by omega) (Evt.neg (by simp; omega) hjn)))
          · have eb : beh s.size ra K j = -1 := if_neg hjk
            rw [eb] at d
            clear eb
            refine Evt.neg (by omega) (Evt.pos (by omega) (Evt.pos (by omega) (Evt.pos (by omega) (Evt.pos (by omega) ?_))))
            by_cases h1 : ra i < ra j
            · have h2 : rb i < rb j := d.1 (.inl h1)
              exact Evt.pos (by omega) (Evt.pos (by omega) (Evt.pos (by omega) (Evt.neg (by simp [h2]) hjn)))
            · refine Evt.neg (by omega) ?_
              by_cases h3 : ra i = ra j
              · refine Evt.pos (by omega) (Evt.pos (by omega) (Evt.pos (by omega) (Evt.neg ?_ hjn)))
                have h4 : decide (beh s.size ra K i < -1) = decide (((rb i : Nat) : Int) < ((rb j : Nat) : Int)) := by
                  apply decide_eq_decide.2
                  constructor
                  · intro h
                    have := d.1 (.inr ⟨h3, h⟩)
                    omega
                  · intro h
                    rcases d.2 (by omega) with h5 | h5
                    · exact absurd h5 h1
                    · exact h5.2
                rw [h4]
                simp
              · have h2 : ¬ rb i < rb j := fun h => by
                  rcases d.2 h with h5 | h5
                  · exact h1 h5
                  · exact h3 h5.1
                exact Evt.neg (by omega) (Evt.pos (by omega) (Evt.pos (by omega) (Evt.neg (by simp; omega) hjn)))
        clear d
        refine Evt.step (fun k => laws_FnDoubled.l1.eq_2 _ _ _ _ _ _ _ _ _ k) (Evt.pos (by omega) ?_)
        rw [w64 (n := (i : Int) + (K : Int)) (by omega) (by omega), show (i : Int) + (K : Int) = ((i + K : Nat) : Int) by omega]
        by_cases hik : i + K < s.size
        · rw [hrA (i + K) hik]
          have eb : beh s.size ra K i = ((ra (i + K) : Nat) : Int) := if_pos hik
          rw [eb] at j4
          clear eb
          exact Evt.pos (by omega) (Evt.pos (by omega) (Evt.pos (by omega) j4))
        · have eb : beh s.size ra K i = -1 := if_neg hik
          rw [eb] at j4
          clear eb
          exact Evt.neg (by omega) j4
    exact inner s.size 0 (by omega)
theorem rd_ranks (s : ByteArray) (z i : Nat) (hi : i < s.size) : rd (ranks s z) (i : Int) = ((rank s z i : Nat) : Int) := by
  rw [Ints.rd_get _ i (by simp [ranks]; exact hi)]
  simp [ranks]
theorem ranks_len (s : ByteArray) (z : Nat) : (ranks s z).length = s.size := by simp [ranks]
end Go.Proofs.Ytppmigiknidjhaa.Rk
namespace Go.Proofs.Ytppmigiknidjhaa.Pure
open Go.RowKit Go.Proofs.Ytppmigiknidjhaa.PQ Go.Proofs.YtppmigiknidjhaaW.PrintWords Go.Proofs.YtppmigiknidjhaaW.PrintLast Go.Proofs.Ytppmigiknidjhaa.Pre Go.Proofs.Ytppmigiknidjhaa.Rk
theorem FnDoubled : laws_FnDoubled.Pure := by
  intro l0 _ _ w0
  refine Evt.ex (r := true) ?_
  unfold laws_FnDoubled.f
  by_cases hbig : (l0.length : Int) > 1048576
  · exact Evt.pos hbig (Evt.const _)
  · obtain ⟨s, a, d, hd, hz⟩ := DrS.drawRank (Cur.bytes_wf w0)
    have hl := ansRank_len s a d
    refine Evt.neg hbig (Evt.bind hd (Evt.bsome (Evt.bind (specRank_ev s a d) (Evt.bind (Suf.implDist_ev s) (Evt.bind (Suf.specDist_ev s) (Evt.neg (by simp) (Evt.bind (Suf.same_self (ansRank s a d).1 (by omega)) (Evt.pos rfl (Evt.neg (by simp) ?_)))))))))
    have e0 : ((Suf.ansDist s).1 != (Suf.ansDist s).1) = false := by simp
    rw [e0]
    by_cases hg : s.size ≤ 120 ∧ 1 ≤ a ∧ a ≤ 120 ∧ 0 ≤ d ∧ d ≤ 1
    · have e1 : ansRank s a d = (ranks s (if d = 1 then a * 2 else a).toNat, true) := by unfold ansRank; rw [if_pos hg]
      obtain ⟨K, hK⟩ : ∃ K : Nat, a = (K : Int) := ⟨a.toNat, by omega⟩
      subst hK
      have e2 : ansRank s (K : Int) 0 = (ranks s K, true) := by
        unfold ansRank
        rw [if_pos ⟨hg.1, hg.2.1, hg.2.2.1, by omega, by omega⟩, if_neg (by omega), Int.toNat_natCast]
      have e3 : ansRank s (K : Int) 1 = (ranks s (K + K), true) := by
        unfold ansRank
        rw [if_pos ⟨hg.1, hg.2.1, hg.2.2.1, by omega, by omega⟩, if_pos rfl, show ((K : Int) * 2).toNat = K + K by omega]
      rw [e1]
      refine Evt.step (fun k => laws_FnDoubled.j0.eq_2 _ _ _ _ _ k) (Evt.neg (by simp) (Evt.pos rfl ?_))
      unfold impl_RankOf.f
      rw [e2, e3]
      refine Evt.bsome (Evt.bsome (Evt.pos rfl (Evt.pos rfl (Evt.pos (by simp [ranks_len]) ?_))))
      have e4 : (((ranks s (K + K)).length : Int) != (s.size : Int)) = false := by simp [ranks_len]
      rw [e4]
      refine Evt.step (fun k => laws_FnDoubled.j1.eq_2 _ _ _ _ _ k) (Evt.neg (by simp) ?_)
      exact dbl_loop s hg.1 K (by omega) (rank s K) (rank s (K + K)) (ranks s K) (ranks s (K + K)) (ranks_len s K) (ranks_len s (K + K)) (rd_ranks s K) (rd_ranks s (K + K)) (fun i j hi hj => doubled s K i j (by omega) hi hj) s.size 0 (by omega)
    · have e1 : ansRank s a d = ([], false) := by unfold ansRank; rw [if_neg hg]
      rw [e1]
      exact Evt.step (fun k => laws_FnDoubled.j0.eq_2 _ _ _ _ _ k) (Evt.neg (by simp) (Evt.neg (by simp) ((Evt.const _).eq (by simp))))
end Go.Proofs.Ytppmigiknidjhaa.Pure
end
