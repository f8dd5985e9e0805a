/- Several texts in one: what the claim's last text rests on. No conditions. -/
import Derived.Test.YtjknkeipginpcaaMTg14
import Derived.Lib.Overlaps
import Derived.Lib.AppendZerosOnto
import Derived.Lib.AppendZeros
import Derived.Laws.Externs
import Derived.Laws.IdiomCopy
import Derived.Test.YtjknkeipginpcaaMTg5
import Derived.Test.YtjknkeipginpcaaMTg13
import Derived.Test.YtjknkeipginpcaaMTg11
import Derived.Test.YtjknkeipginpcaaMTg12
import Derived.Deep.QuietTactic
import Derived.BigQuiet
import Derived.Test.YtjknkeipginpcaaMTg6
section
/- Treaps: slices.Insert at pairs, one element. No conditions. -/
namespace Go.Proofs.Ytjknkeipginpcaa.TrG
set_option linter.unusedVariables false
set_option linter.unusedSimpArgs false
open Go.RowKit Go.Proofs.Ytjknkeipginpcaa.PQ Go.Proofs.YtjknkeipginpcaaW.PrintWords Go.Proofs.YtjknkeipginpcaaW.PrintLast Go.Proofs.YtjknkeipginpcaaW.PrintMore Go.Proofs.Ytjknkeipginpcaa.Pre Go.Proofs.Ytjknkeipginpcaa.Tr Go.Proofs.Ytjknkeipginpcaa.Pr Go.Proofs.Ytjknkeipginpcaa.Po

/-! The operation copy, its run known. -/
section
variable {P : Program} {ops : Array Oper} {rest : List Oper} {o : Oper} {a : Act} {Q : Exit → Act → World → Prop} {Kc : Act → World → Prop}
end
/-! A new row. -/
end Go.Proofs.Ytjknkeipginpcaa.TrG
end

section
/- Treaps: slices.Insert at pairs, all roads. No conditions. -/
namespace Go.Proofs.Ytjknkeipginpcaa.TrG
set_option linter.unusedVariables false
set_option linter.unusedSimpArgs false
open Go.RowKit Go.Proofs.Ytjknkeipginpcaa.PQ Go.Proofs.YtjknkeipginpcaaW.PrintWords Go.Proofs.YtjknkeipginpcaaW.PrintLast Go.Proofs.YtjknkeipginpcaaW.PrintMore Go.Proofs.Ytjknkeipginpcaa.Pre Go.Proofs.Ytjknkeipginpcaa.Tr Go.Proofs.Ytjknkeipginpcaa.Pr Go.Proofs.Ytjknkeipginpcaa.Po

end Go.Proofs.Ytjknkeipginpcaa.TrG
end

section
/- impl.PutKey, by hand. No conditions. -/
namespace Go.Proofs.Ytjknkeipginpcaa.TrG
set_option linter.unusedVariables false
set_option linter.unusedSimpArgs false
open Go.RowKit Go.Proofs.Ytjknkeipginpcaa.PQ Go.Proofs.YtjknkeipginpcaaW.PrintWords Go.Proofs.YtjknkeipginpcaaW.PrintLast Go.Proofs.YtjknkeipginpcaaW.PrintMore Go.Proofs.Ytjknkeipginpcaa.Pre Go.Proofs.Ytjknkeipginpcaa.Tr Go.Proofs.Ytjknkeipginpcaa.Pr Go.Proofs.Ytjknkeipginpcaa.Po

end Go.Proofs.Ytjknkeipginpcaa.TrG
end

section
-- Written by a program of this session (pprint.py) out of the translation's print; Lean checks it.
namespace Go.Proofs.Ytjknkeipginpcaa.PQ
open Go.RowKit Go.Proofs.YtjknkeipginpcaaW.PrintWords Go.Proofs.YtjknkeipginpcaaW.PrintLast Go.Proofs.YtjknkeipginpcaaW.PrintMore
attribute [local go_sem] max2_int min2_int max_two min_two max_three min_three max_four min_four   -- for this text's walks alone
set_option linter.unusedVariables false
set_option linter.unusedSimpArgs false

--OWNPART impl_PutKey
/-! ### impl_PutKey: function 41, by hand -/
--NEEDS loop.example/g00274/impl.GoodTreap
--NEEDS loop.example/g00274/spec.l7Of
--IMPORT TrY
end Go.Proofs.Ytjknkeipginpcaa.PQ
end

section
/- Treaps: keys put, cut and split: both sides at once. No conditions. -/
namespace Go.Proofs.Ytjknkeipginpcaa.TrG
set_option linter.unusedVariables false
set_option linter.unusedSimpArgs false
open Go.RowKit Go.Proofs.Ytjknkeipginpcaa.PQ Go.Proofs.YtjknkeipginpcaaW.PrintWords Go.Proofs.Ytjknkeipginpcaa.Pre Go.Proofs.Ytjknkeipginpcaa.Tr Go.Proofs.Ytjknkeipginpcaa.Pr Go.Proofs.Ytjknkeipginpcaa.Po

end Go.Proofs.Ytjknkeipginpcaa.TrG
end

section
/- Treaps: slices.Grow of nil, slices.Concat of two, at pairs. No conditions. -/
namespace Go.Proofs.Ytjknkeipginpcaa.TrG
set_option linter.unusedVariables false
set_option linter.unusedSimpArgs false
open Go.RowKit Go.Proofs.Ytjknkeipginpcaa.PQ Go.Proofs.YtjknkeipginpcaaW.PrintWords Go.Proofs.YtjknkeipginpcaaW.PrintLast Go.Proofs.YtjknkeipginpcaaW.PrintMore Go.Proofs.Ytjknkeipginpcaa.Pre Go.Proofs.Ytjknkeipginpcaa.Tr Go.Proofs.Ytjknkeipginpcaa.Pr Go.Proofs.Ytjknkeipginpcaa.Po

set_option maxHeartbeats 2000000 in
set_option maxRecDepth 100000 in
theorem grow_nil (n : Nat) (w : World) (hn : n ≤ 1048576) :
    Calls Try.prog 80 #[.slice none 0 0, .int .i64 (n : Int)] w fun e w' => ∃ (A : Option Addr) (c : Nat), e = .returned (.slice A 0 c) ∧ Kd.R k80 80 w' w.heap.size (fun _ => True) (.slice A 0 c) [] ∧ Below w.heap.size w w' := by
  have HN := Aside0.mk hn
  have hnb : (n : Int) ≤ 1048576 := by omega
  by_cases h0 : n = 0
  · subst h0
    clear hn
    go_enter Try.func80, Try.ntmps80
    go_wp2
    go_ret
    exact ⟨none, 0, rfl, Kd.R_nil _ _ _ _ _, Below.refl _ _⟩
  · have hp : (0 : Int) < (n : Int) := by omega
    have hp2 : ¬ (n : Int) < 0 := by omega
    clear hn h0
    go_enter Try.func80, Try.ntmps80
    go_wp2_with (at_builtin; go_loud (refine Kd.R_append_zeros k80 (w0 := w) w.heap.size rfl (.tmp 20) (.tmp 21) 66 3 80 (.agg #[(.string ⟨#[]⟩), (.string ⟨#[]⟩)]) 32 rfl Try.underlying66 Try.underlying3 info80 rfl (by decide) (by decide) (.slice none 0 0) [] (⟨⟨#[]⟩, ⟨#[]⟩⟩ : Pa) (n : Int) (fun _ => True) rfl rfl (k80_mkM _ _ _ _) (fun _ _ => trivial) (Kd.R_nil _ _ _ _ _) (by omega) (Below.refl _ _) (Nat.le_refl _) (by have := HN.out; show (0 + ((n : Int)).toNat) * 32 ≤ _; omega) ?_; intro v1 w1 ho1 hb1 hg1 hat1; obtain ⟨A1, c1, e1⟩ := Kd.R_slice ho1; subst e1; have HO1 := Aside0.mk ho1; have HB1 := Aside0.mk hb1; have hc1 : (0 : Int) ≤ (c1 : Int) := (by omega); clear ho1 hb1 hg1 hat1))
    go_ret
    exact ⟨_, _, rfl, Kd.R_take (m := 0) HO1.out (Nat.zero_le _), HB1.out⟩
set_option maxHeartbeats 4000000 in
set_option maxRecDepth 100000 in
theorem concat (A1 A2 : Option Addr) (c1 c2 : Nat) (xs ys : List Pa) (b : Nat) (w : World) (hb : w.heap[b]? = some (.cells #[.slice A1 xs.length c1, .slice A2 ys.length c2] 66 (0, 0))) (hx : Kd.C k80 w A1 xs.length xs) (hy : Kd.C k80 w A2 ys.length ys) (hl : xs.length + ys.length ≤ 1048576) :
    Calls Try.prog 58 #[.slice (some ⟨b, 0, none⟩) 2 2] w fun e w' => ∃ v, e = .returned v ∧ Kd.R k80 80 w' w.heap.size (fun _ => True) v (xs ++ ys) ∧ Below w.heap.size w w' := by
  obtain ⟨s, hs⟩ : ∃ s, s = xs.length + ys.length := ⟨_, rfl⟩
  have HB := Aside0.mk hb
  have HX := Aside0.mk hx
  have HY := Aside0.mk hy
  have HL := Aside0.mk hl
  have HS := Aside0.mk hs
  have hbw : b < w.heap.size := blk_lt hb
  have HBW := Aside0.mk hbw
  have hlx : (xs.length : Int) ≤ 1048576 := by omega
  have hly : (ys.length : Int) ≤ 1048576 := by omega
  have hls : (s : Int) ≤ 1048576 := by omega
  have HG := Aside0.mk (grow_nil s w (by omega))
  have hb0 : w.cell? ⟨b, 0, none⟩ = some (.slice A1 xs.length c1) := (blk_cell hb 0).trans rfl
  have hb1 : w.cell? ⟨b, 1, none⟩ = some (.slice A2 ys.length c2) := (blk_cell hb 1).trans rfl
  clear hx hy hl hbw hb hs
  go_enter Try.func58, Try.ntmps58
  go_wp2
  go_loopg [3, 11] 2 (fun kq v3 v11 w' => ∃ (k : Nat) (z : Int), v11 = .int .i64 (k : Int) ∧ k ≤ 2 ∧ kq = 2 - k ∧ v3 = .int .i64 z ∧ Aside0 (z = if k = 0 then 0 else if k = 1 then (xs.length : Int) else (s : Int)) ∧ Aside0 (w = w'))
  case atStart => exact ⟨0, 0, rfl, by omega, rfl, rfl, ⟨rfl⟩, ⟨rfl⟩⟩
  case round =>
    obtain ⟨k, z, rfl, hk, hkq, rfl, HZ, HW⟩ := hrel
    obtain rfl := HW.out
    have HKQ := Aside0.mk hkq
    clear hkq
    have hk3 : k = 0 ∨ k = 1 ∨ k = 2 := by omega
    rcases hk3 with rfl | rfl | rfl
    · have hz := HZ.out
      rw [if_pos rfl] at hz
      subst hz
      clear hk
      go_wp2
      go_roundg 1
      case measure => have := HKQ.out; omega
      case rel => exact ⟨1, (xs.length : Int), by go_num, by omega, rfl, by go_num, ⟨by simp⟩, ⟨rfl⟩⟩
    · have hz := HZ.out
      rw [if_neg (by decide), if_pos rfl] at hz
      subst hz
      have hs1 : ¬ (xs.length : Int) + (ys.length : Int) < 0 := by omega
      clear hk
      go_wp2
      go_roundg 0
      case measure => have := HKQ.out; omega
      case rel => exact ⟨2, (xs.length : Int) + (ys.length : Int), by go_num, by omega, rfl, rfl, ⟨by have := HS.out; simp; omega⟩, ⟨rfl⟩⟩
    · have hz := HZ.out
      rw [if_neg (by decide), if_neg (by decide)] at hz
      subst hz
      clear hk
      go_wp2_with (go_at_call 80; go_loud ((with_reducible refine HG.out.mono ?_); rintro e w3 ⟨A3, c3, rfl, ho3, hb3⟩; have HO3 := Aside0.mk ho3; have HB3 := Aside0.mk hb3; clear ho3 hb3))
      clear hb0 hb1
      go_loopg [6, 27] 2 (fun kq v6 v27 w' => ∃ (k : Nat) (zs : List Pa), v27 = .int .i64 (k : Int) ∧ k ≤ 2 ∧ kq = 2 - k ∧ Aside0 (zs = (if k = 0 then [] else if k = 1 then xs else xs ++ ys)) ∧ Aside0 (Kd.R k80 80 w' w.heap.size (fun _ => True) v6 zs) ∧ Aside0 (Below w.heap.size w w'))
      case atStart => exact ⟨0, [], rfl, by omega, rfl, ⟨rfl⟩, HO3, HB3⟩
      case round =>
        obtain ⟨k, zs, rfl, hk, hkq, HZS, HO, HBr⟩ := hrel
        have HKQ2 := Aside0.mk hkq
        clear hkq
        have HBB := (HBr.out.block b HBW.out).trans HB.out
        have hb0 : wr.cell? ⟨b, 0, none⟩ = some (.slice A1 xs.length c1) := (blk_cell HBB 0).trans rfl
        have hb1 : wr.cell? ⟨b, 1, none⟩ = some (.slice A2 ys.length c2) := (blk_cell HBB 1).trans rfl
        have HWS := Aside0.mk HBr.out.size
        clear HBB
        have hk3 : k = 0 ∨ k = 1 ∨ k = 2 := by omega
        rcases hk3 with rfl | rfl | rfl
        · have hz := HZS.out
          rw [if_pos rfl] at hz
          subst hz
          clear hk
          go_wp2_with (at_builtin; go_loud (refine Kd.R_append_rows k80 (Rr := (k80).K wr) (w0 := w) w.heap.size rfl (.tmp 31) (.tmp 32) 66 80 (.agg #[(.string ⟨#[]⟩), (.string ⟨#[]⟩)]) 32 rfl Try.underlying66 info80 rfl (by decide) (by decide) u6 [] xs A1 xs.length c1 (fun _ => True) (fun _ => False) rfl rfl HO.out (Kd.C_below HX.out HBr.out) (fun p cs h => by rw [k80_open h]; exact k80_mkM _ _ _ _) (fun _ h => h.elim) (fun _ _ => trivial) HBr.out HWS.out (by have := HL.out; simp; omega) ?_; intro v4 w4 ho4 hb4 hg4 hat4; have HO4 := Aside0.mk ho4; have HB4 := Aside0.mk hb4; clear ho4 hb4 hg4 hat4))
          go_roundg 1
          case measure => have := HKQ2.out; omega
          case rel => exact ⟨1, xs, by go_num, by omega, rfl, ⟨by simp⟩, by simpa using HO4, HB4⟩
        · have hz := HZS.out
          rw [if_neg (by decide), if_pos rfl] at hz
          have HZ2 := Aside0.mk hz
          have HLZ := Aside0.mk (show zs.length = xs.length by rw [hz])
          clear hk hz
          go_wp2_with (at_builtin; go_loud (refine Kd.R_append_rows k80 (Rr := (k80).K wr) (w0 := w) w.heap.size rfl (.tmp 31) (.tmp 32) 66 80 (.agg #[(.string ⟨#[]⟩), (.string ⟨#[]⟩)]) 32 rfl Try.underlying66 info80 rfl (by decide) (by decide) u6 zs ys A2 ys.length c2 (fun _ => True) (fun _ => False) rfl rfl HO.out (Kd.C_below HY.out HBr.out) (fun p cs h => by rw [k80_open h]; exact k80_mkM _ _ _ _) (fun _ h => h.elim) (fun _ _ => trivial) HBr.out HWS.out (by have := HL.out; have := HLZ.out; omega) ?_; intro v4 w4 ho4 hb4 hg4 hat4; have HO4 := Aside0.mk ho4; have HB4 := Aside0.mk hb4; clear ho4 hb4 hg4 hat4))
          go_roundg 0
          case measure => have := HKQ2.out; omega
          case rel => exact ⟨2, _, by go_num, by omega, rfl, ⟨by simp [HZ2.out]⟩, HO4, HB4⟩
        · have hz := HZS.out
          rw [if_neg (by decide), if_neg (by decide)] at hz
          subst hz
          clear hk
          go_wp2
          go_ret
          exact ⟨_, rfl, HO.out, HBr.out⟩
end Go.Proofs.Ytjknkeipginpcaa.TrG
end

section
/- JoinTreaps of both sides, by hand. No conditions. -/
namespace Go.Proofs.Ytjknkeipginpcaa.TrG
set_option linter.unusedVariables false
set_option linter.unusedSimpArgs false
open Go.RowKit Go.Proofs.Ytjknkeipginpcaa.PQ Go.Proofs.YtjknkeipginpcaaW.PrintWords Go.Proofs.YtjknkeipginpcaaW.PrintLast Go.Proofs.YtjknkeipginpcaaW.PrintMore Go.Proofs.Ytjknkeipginpcaa.Pre Go.Proofs.Ytjknkeipginpcaa.Tr Go.Proofs.Ytjknkeipginpcaa.Pr Go.Proofs.Ytjknkeipginpcaa.Po
attribute [local go_sem] Go.Proofs.Ytjknkeipginpcaa.StrO.leq_s Go.Proofs.Ytjknkeipginpcaa.StrO.gtr_s Go.Proofs.Ytjknkeipginpcaa.StrO.geq_s

/-- All of the first ahead of all of the second. -/
def jc (l m : List KV) : Bool := decide (l.length = 0) || (decide (m.length = 0) || ls (l.getD (l.length - 1) zKV).1 (m.getD 0 zKV).1)
/-- What JoinTreaps answers. -/
def jn (l : List KV) (ok : Bool) (m : List KV) (fine : Bool) : List Lb × Bool := if ok = true ∧ fine = true ∧ l.length + m.length ≤ 60 ∧ jc l m = true then (enc (l ++ m).length 0 (l ++ m), true) else ([], false)
theorem xblk_drewN {W : World} {b : Nat} {o : Obj} (h : W.heap[b]? = some o) (n : Nat) : (W.drewN n).heap[b]? = some o := h
set_option maxHeartbeats 4000000 in
set_option maxRecDepth 100000 in
theorem joinI_n1 (L1 L2 : List Lb) (A1 A2 : Option Addr) (c1 c2 : Nat) (ps qs : List S80) (ok fine : Bool) (w : World)
    (h1 : ∀ W, Below w.heap.size w W → Calls Try.prog 49 #[.agg #[.slice A1 L1.length c1]] W fun e w' => ∃ v, e = .returned (.tuple #[v, .bool ok]) ∧ Kd.R k80 80 w' W.heap.size (fun _ => True) v ps ∧ Below W.heap.size W w')
    (h2 : ∀ W, Below w.heap.size w W → Calls Try.prog 49 #[.agg #[.slice A2 L2.length c2]] W fun e w' => ∃ v, e = .returned (.tuple #[v, .bool fine]) ∧ Kd.R k80 80 w' W.heap.size (fun _ => True) v qs ∧ Below W.heap.size W w')
    (hp : ps.length ≤ 60) (hq : qs.length ≤ 60) (hok : ok = false) :
    Calls Try.prog 29 #[.agg #[.slice A1 L1.length c1], .agg #[.slice A2 L2.length c2]] w fun e w' => ∃ v0_ : Value, e = .returned (.tuple #[.agg #[v0_], .bool false]) ∧ Kd.R k71 71 w' w.heap.size (fun _ => True) v0_ [] ∧ Below w.heap.size w w' := by
  obtain ⟨wA, hwA⟩ : ∃ wA, wA = w.alloc (.cells #[.slice A1 L1.length c1] 29) := ⟨_, rfl⟩
  obtain ⟨wB, hwB⟩ : ∃ wB, wB = wA.alloc (.cells #[.slice A2 L2.length c2] 29) := ⟨_, rfl⟩
  obtain ⟨wC, hwC⟩ : ∃ wC, wC = wB.alloc (.cells #[.slice none 0 0] 29) := ⟨_, rfl⟩
  have HWA := Aside0.mk hwA
  have HWB := Aside0.mk hwB
  have HWC := Aside0.mk hwC
  have hsA : wA.heap.size = w.heap.size + 1 := by rw [hwA]; exact new_size _ _
  have hsB : wB.heap.size = w.heap.size + 2 := by rw [hwB, new_size, hsA]
  have HSC := Aside0.mk (show wC.heap.size = w.heap.size + 3 by rw [hwC, new_size, hsB])
  have hBA : Below w.heap.size w wA := by rw [hwA]; exact below_alloc (Below.refl _ _) _
  have hBB : Below w.heap.size w wB := by rw [hwB]; exact below_alloc hBA _
  have HBC := Aside0.mk (show Below w.heap.size w wC by rw [hwC]; exact below_alloc hBB _)
  have HT1 := Aside0.mk (show wC.heap[w.heap.size]? = some (.cells #[.slice A1 L1.length c1] 29 (0, 0)) by rw [hwC]; exact xblk_alloc (by rw [hwB]; exact xblk_alloc (by rw [hwA]; exact at_new _ _) _) _)
  have HT2 := Aside0.mk (show wC.heap[w.heap.size + 1]? = some (.cells #[.slice A2 L2.length c2] 29 (0, 0)) by rw [hwC]; exact xblk_alloc (by rw [hwB, ← hsA]; exact at_new _ _) _)
  have HTR := Aside0.mk (show wC.heap[w.heap.size + 2]? = some (.cells #[.slice none 0 0] 29 (0, 0)) by rw [hwC, ← hsB]; exact at_new _ _)
  have ct : (((w.alloc (.cells #[.slice A1 L1.length c1] 29)).alloc (.cells #[.slice A2 L2.length c2] 29)).alloc (.cells #[.slice none 0 0] 29)).cell? ⟨w.heap.size, 0, none⟩ = some (.slice A1 L1.length c1) := by rw [← hwA, ← hwB, ← hwC]; exact (blk_cell HT1.out 0).trans rfl
  have HP1 := Aside0.mk (h1 wC HBC.out)
  have HP2 := Aside0.mk h2
  have hpl : (ps.length : Int) ≤ 60 := by omega
  have hql : (qs.length : Int) ≤ 60 := by omega
  have HPQ := Aside0.mk (⟨hp, hq⟩ : ps.length ≤ 60 ∧ qs.length ≤ 60)
  clear h1 h2 hwA hwB hwC hsA hsB hBA hBB hp hq
  subst hok
  go_enter Try.func29, Try.ntmps29
  go_upto_region 2 with (go_at_call 49; rw [← HWA.out, ← HWB.out, ← HWC.out]; go_loud ((with_reducible refine HP1.out.mono ?_); rintro e w2 ⟨v2, rfl, ho2, hb2⟩; have HO2 := Aside0.mk ho2; have HB2 := Aside0.mk hb2; clear ho2 hb2))
  clear ct
  have HBw2 := Aside0.mk (HBC.out.trans (HB2.out.mono (by have := HSC.out; omega)))
  have HT22 := Aside0.mk ((HB2.out.block (w.heap.size + 1) (by have := HSC.out; omega)).trans HT2.out)
  have ct2 : w2.cell? ⟨w.heap.size + 1, 0, none⟩ = some (.slice A2 L2.length c2) := (blk_cell HT22.out 0).trans rfl
  go_upto_region 3 with (go_at_call 49; go_loud ((with_reducible refine (HP2.out _ HBw2.out).mono ?_); rintro e w3 ⟨v3, rfl, ho3, hb3⟩; have HO3 := Aside0.mk ho3; have HB3 := Aside0.mk hb3; clear ho3 hb3))
  clear ct2
  have HBw3 := Aside0.mk (HBw2.out.trans (HB3.out.mono (by have := HB2.out.size; have := HSC.out; omega)))
  have HTR3 := Aside0.mk ((HB3.out.block (w.heap.size + 2) (by have := HB2.out.size; have := HSC.out; omega)).trans ((HB2.out.block (w.heap.size + 2) (by have := HSC.out; omega)).trans HTR.out))
  have HO23 := Aside0.mk (Kd.R_below HO2.out HB3.out)
  obtain ⟨A3, c3, e3⟩ := Kd.R_slice HO23.out
  subst e3
  obtain ⟨A4, c4, e4⟩ := Kd.R_slice HO3.out
  subst e4
  have hw1 : IntKind.i64.wrap ((ps.length : Int) + (qs.length : Int)) = (ps.length : Int) + (qs.length : Int) := by rw [IntKind.wrap_i64]; omega
  have cr : w3.cell? ⟨w.heap.size + 2, 0, none⟩ = some (.slice none 0 0) := (blk_cell HTR3.out 0).trans rfl
  have fr : w3.frozen? ⟨w.heap.size + 2, 0, none⟩ = false := blk_frozen HTR3.out 0
  go_quiet (fail)
  go_wp2
  refine bodyPost_ret (results_ct rfl _ _ (w.heap.size + 2) 29 #[.slice none 0 0] (0, 0) _ rfl (blk_put (xblk_drewN HTR3.out _) 0 _ rfl) Try.underlying29 rfl (by kernel_rfl)) rfl ?_
  exact ⟨_, rfl, Kd.R_nil _ _ _ _ _, (pw_below_drewN HBw3.out _).setCell (p := ⟨w.heap.size + 2, 0, none⟩) (by show w.heap.size ≤ w.heap.size + 2; omega) _⟩
set_option maxHeartbeats 4000000 in
set_option maxRecDepth 100000 in
theorem joinI_n2 (L1 L2 : List Lb) (A1 A2 : Option Addr) (c1 c2 : Nat) (ps qs : List S80) (ok fine : Bool) (w : World)
    (h1 : ∀ W, Below w.heap.size w W → Calls Try.prog 49 #[.agg #[.slice A1 L1.length c1]] W fun e w' => ∃ v, e = .returned (.tuple #[v, .bool ok]) ∧ Kd.R k80 80 w' W.heap.size (fun _ => True) v ps ∧ Below W.heap.size W w')
    (h2 : ∀ W, Below w.heap.size w W → Calls Try.prog 49 #[.agg #[.slice A2 L2.length c2]] W fun e w' => ∃ v, e = .returned (.tuple #[v, .bool fine]) ∧ Kd.R k80 80 w' W.heap.size (fun _ => True) v qs ∧ Below W.heap.size W w')
    (hp : ps.length ≤ 60) (hq : qs.length ≤ 60) (hok : ok = true) (hfi : fine = false) :
    Calls Try.prog 29 #[.agg #[.slice A1 L1.length c1], .agg #[.slice A2 L2.length c2]] w fun e w' => ∃ v0_ : Value, e = .returned (.tuple #[.agg #[v0_], .bool false]) ∧ Kd.R k71 71 w' w.heap.size (fun _ => True) v0_ [] ∧ Below w.heap.size w w' := by
  obtain ⟨wA, hwA⟩ : ∃ wA, wA = w.alloc (.cells #[.slice A1 L1.length c1] 29) := ⟨_, rfl⟩
  obtain ⟨wB, hwB⟩ : ∃ wB, wB = wA.alloc (.cells #[.slice A2 L2.length c2] 29) := ⟨_, rfl⟩
  obtain ⟨wC, hwC⟩ : ∃ wC, wC = wB.alloc (.cells #[.slice none 0 0] 29) := ⟨_, rfl⟩
  have HWA := Aside0.mk hwA
  have HWB := Aside0.mk hwB
  have HWC := Aside0.mk hwC
  have hsA : wA.heap.size = w.heap.size + 1 := by rw [hwA]; exact new_size _ _
  have hsB : wB.heap.size = w.heap.size + 2 := by rw [hwB, new_size, hsA]
  have HSC := Aside0.mk (show wC.heap.size = w.heap.size + 3 by rw [hwC, new_size, hsB])
  have hBA : Below w.heap.size w wA := by rw [hwA]; exact below_alloc (Below.refl _ _) _
  have hBB : Below w.heap.size w wB := by rw [hwB]; exact below_alloc hBA _
  have HBC := Aside0.mk (show Below w.heap.size w wC by rw [hwC]; exact below_alloc hBB _)
  have HT1 := Aside0.mk (show wC.heap[w.heap.size]? = some (.cells #[.slice A1 L1.length c1] 29 (0, 0)) by rw [hwC]; exact xblk_alloc (by rw [hwB]; exact xblk_alloc (by rw [hwA]; exact at_new _ _) _) _)
  have HT2 := Aside0.mk (show wC.heap[w.heap.size + 1]? = some (.cells #[.slice A2 L2.length c2] 29 (0, 0)) by rw [hwC]; exact xblk_alloc (by rw [hwB, ← hsA]; exact at_new _ _) _)
  have HTR := Aside0.mk (show wC.heap[w.heap.size + 2]? = some (.cells #[.slice none 0 0] 29 (0, 0)) by rw [hwC, ← hsB]; exact at_new _ _)
  have ct : (((w.alloc (.cells #[.slice A1 L1.length c1] 29)).alloc (.cells #[.slice A2 L2.length c2] 29)).alloc (.cells #[.slice none 0 0] 29)).cell? ⟨w.heap.size, 0, none⟩ = some (.slice A1 L1.length c1) := by rw [← hwA, ← hwB, ← hwC]; exact (blk_cell HT1.out 0).trans rfl
  have HP1 := Aside0.mk (h1 wC HBC.out)
  have HP2 := Aside0.mk h2
  have hpl : (ps.length : Int) ≤ 60 := by omega
  have hql : (qs.length : Int) ≤ 60 := by omega
  have HPQ := Aside0.mk (⟨hp, hq⟩ : ps.length ≤ 60 ∧ qs.length ≤ 60)
  clear h1 h2 hwA hwB hwC hsA hsB hBA hBB hp hq
  subst hok hfi
  go_enter Try.func29, Try.ntmps29
  go_upto_region 2 with (go_at_call 49; rw [← HWA.out, ← HWB.out, ← HWC.out]; go_loud ((with_reducible refine HP1.out.mono ?_); rintro e w2 ⟨v2, rfl, ho2, hb2⟩; have HO2 := Aside0.mk ho2; have HB2 := Aside0.mk hb2; clear ho2 hb2))
  clear ct
  have HBw2 := Aside0.mk (HBC.out.trans (HB2.out.mono (by have := HSC.out; omega)))
  have HT22 := Aside0.mk ((HB2.out.block (w.heap.size + 1) (by have := HSC.out; omega)).trans HT2.out)
  have ct2 : w2.cell? ⟨w.heap.size + 1, 0, none⟩ = some (.slice A2 L2.length c2) := (blk_cell HT22.out 0).trans rfl
  go_upto_region 3 with (go_at_call 49; go_loud ((with_reducible refine (HP2.out _ HBw2.out).mono ?_); rintro e w3 ⟨v3, rfl, ho3, hb3⟩; have HO3 := Aside0.mk ho3; have HB3 := Aside0.mk hb3; clear ho3 hb3))
  clear ct2
  have HBw3 := Aside0.mk (HBw2.out.trans (HB3.out.mono (by have := HB2.out.size; have := HSC.out; omega)))
  have HTR3 := Aside0.mk ((HB3.out.block (w.heap.size + 2) (by have := HB2.out.size; have := HSC.out; omega)).trans ((HB2.out.block (w.heap.size + 2) (by have := HSC.out; omega)).trans HTR.out))
  have HO23 := Aside0.mk (Kd.R_below HO2.out HB3.out)
  obtain ⟨A3, c3, e3⟩ := Kd.R_slice HO23.out
  subst e3
  obtain ⟨A4, c4, e4⟩ := Kd.R_slice HO3.out
  subst e4
  have hw1 : IntKind.i64.wrap ((ps.length : Int) + (qs.length : Int)) = (ps.length : Int) + (qs.length : Int) := by rw [IntKind.wrap_i64]; omega
  have cr : w3.cell? ⟨w.heap.size + 2, 0, none⟩ = some (.slice none 0 0) := (blk_cell HTR3.out 0).trans rfl
  have fr : w3.frozen? ⟨w.heap.size + 2, 0, none⟩ = false := blk_frozen HTR3.out 0
  go_quiet (fail)
  go_wp2
  refine bodyPost_ret (results_ct rfl _ _ (w.heap.size + 2) 29 #[.slice none 0 0] (0, 0) _ rfl (blk_put (xblk_drewN HTR3.out _) 0 _ rfl) Try.underlying29 rfl (by kernel_rfl)) rfl ?_
  exact ⟨_, rfl, Kd.R_nil _ _ _ _ _, (pw_below_drewN HBw3.out _).setCell (p := ⟨w.heap.size + 2, 0, none⟩) (by show w.heap.size ≤ w.heap.size + 2; omega) _⟩
set_option maxHeartbeats 4000000 in
set_option maxRecDepth 100000 in
theorem joinI_n3 (L1 L2 : List Lb) (A1 A2 : Option Addr) (c1 c2 : Nat) (ps qs : List S80) (ok fine : Bool) (w : World)
    (h1 : ∀ W, Below w.heap.size w W → Calls Try.prog 49 #[.agg #[.slice A1 L1.length c1]] W fun e w' => ∃ v, e = .returned (.tuple #[v, .bool ok]) ∧ Kd.R k80 80 w' W.heap.size (fun _ => True) v ps ∧ Below W.heap.size W w')
    (h2 : ∀ W, Below w.heap.size w W → Calls Try.prog 49 #[.agg #[.slice A2 L2.length c2]] W fun e w' => ∃ v, e = .returned (.tuple #[v, .bool fine]) ∧ Kd.R k80 80 w' W.heap.size (fun _ => True) v qs ∧ Below W.heap.size W w')
    (hp : ps.length ≤ 60) (hq : qs.length ≤ 60) (hok : ok = true) (hfi : fine = true) (hbig : ¬ ps.length + qs.length ≤ 60) :
    Calls Try.prog 29 #[.agg #[.slice A1 L1.length c1], .agg #[.slice A2 L2.length c2]] w fun e w' => ∃ v0_ : Value, e = .returned (.tuple #[.agg #[v0_], .bool false]) ∧ Kd.R k71 71 w' w.heap.size (fun _ => True) v0_ [] ∧ Below w.heap.size w w' := by
  obtain ⟨wA, hwA⟩ : ∃ wA, wA = w.alloc (.cells #[.slice A1 L1.length c1] 29) := ⟨_, rfl⟩
  obtain ⟨wB, hwB⟩ : ∃ wB, wB = wA.alloc (.cells #[.slice A2 L2.length c2] 29) := ⟨_, rfl⟩
  obtain ⟨wC, hwC⟩ : ∃ wC, wC = wB.alloc (.cells #[.slice none 0 0] 29) := ⟨_, rfl⟩
  have HWA := Aside0.mk hwA
  have HWB := Aside0.mk hwB
  have HWC := Aside0.mk hwC
  have hsA : wA.heap.size = w.heap.size + 1 := by rw [hwA]; exact new_size _ _
  have hsB : wB.heap.size = w.heap.size + 2 := by rw [hwB, new_size, hsA]
  have HSC := Aside0.mk (show wC.heap.size = w.heap.size + 3 by rw [hwC, new_size, hsB])
  have hBA : Below w.heap.size w wA := by rw [hwA]; exact below_alloc (Below.refl _ _) _
  have hBB : Below w.heap.size w wB := by rw [hwB]; exact below_alloc hBA _
  have HBC := Aside0.mk (show Below w.heap.size w wC by rw [hwC]; exact below_alloc hBB _)
  have HT1 := Aside0.mk (show wC.heap[w.heap.size]? = some (.cells #[.slice A1 L1.length c1] 29 (0, 0)) by rw [hwC]; exact xblk_alloc (by rw [hwB]; exact xblk_alloc (by rw [hwA]; exact at_new _ _) _) _)
  have HT2 := Aside0.mk (show wC.heap[w.heap.size + 1]? = some (.cells #[.slice A2 L2.length c2] 29 (0, 0)) by rw [hwC]; exact xblk_alloc (by rw [hwB, ← hsA]; exact at_new _ _) _)
  have HTR := Aside0.mk (show wC.heap[w.heap.size + 2]? = some (.cells #[.slice none 0 0] 29 (0, 0)) by rw [hwC, ← hsB]; exact at_new _ _)
  have ct : (((w.alloc (.cells #[.slice A1 L1.length c1] 29)).alloc (.cells #[.slice A2 L2.length c2] 29)).alloc (.cells #[.slice none 0 0] 29)).cell? ⟨w.heap.size, 0, none⟩ = some (.slice A1 L1.length c1) := by rw [← hwA, ← hwB, ← hwC]; exact (blk_cell HT1.out 0).trans rfl
  have HP1 := Aside0.mk (h1 wC HBC.out)
  have HP2 := Aside0.mk h2
  have hpl : (ps.length : Int) ≤ 60 := by omega
  have hql : (qs.length : Int) ≤ 60 := by omega
  have HPQ := Aside0.mk (⟨hp, hq⟩ : ps.length ≤ 60 ∧ qs.length ≤ 60)
  clear h1 h2 hwA hwB hwC hsA hsB hBA hBB hp hq
  subst hok hfi
  have t1 : decide ((60 : Int) < (ps.length : Int) + (qs.length : Int)) = true := decide_eq_true (by omega)
  have t1' : (60 : Int) < (ps.length : Int) + (qs.length : Int) := by omega
  clear hbig
  go_enter Try.func29, Try.ntmps29
  go_upto_region 2 with (go_at_call 49; rw [← HWA.out, ← HWB.out, ← HWC.out]; go_loud ((with_reducible refine HP1.out.mono ?_); rintro e w2 ⟨v2, rfl, ho2, hb2⟩; have HO2 := Aside0.mk ho2; have HB2 := Aside0.mk hb2; clear ho2 hb2))
  clear ct
  have HBw2 := Aside0.mk (HBC.out.trans (HB2.out.mono (by have := HSC.out; omega)))
  have HT22 := Aside0.mk ((HB2.out.block (w.heap.size + 1) (by have := HSC.out; omega)).trans HT2.out)
  have ct2 : w2.cell? ⟨w.heap.size + 1, 0, none⟩ = some (.slice A2 L2.length c2) := (blk_cell HT22.out 0).trans rfl
  go_upto_region 3 with (go_at_call 49; go_loud ((with_reducible refine (HP2.out _ HBw2.out).mono ?_); rintro e w3 ⟨v3, rfl, ho3, hb3⟩; have HO3 := Aside0.mk ho3; have HB3 := Aside0.mk hb3; clear ho3 hb3))
  clear ct2
  have HBw3 := Aside0.mk (HBw2.out.trans (HB3.out.mono (by have := HB2.out.size; have := HSC.out; omega)))
  have HTR3 := Aside0.mk ((HB3.out.block (w.heap.size + 2) (by have := HB2.out.size; have := HSC.out; omega)).trans ((HB2.out.block (w.heap.size + 2) (by have := HSC.out; omega)).trans HTR.out))
  have HO23 := Aside0.mk (Kd.R_below HO2.out HB3.out)
  obtain ⟨A3, c3, e3⟩ := Kd.R_slice HO23.out
  subst e3
  obtain ⟨A4, c4, e4⟩ := Kd.R_slice HO3.out
  subst e4
  have hw1 : IntKind.i64.wrap ((ps.length : Int) + (qs.length : Int)) = (ps.length : Int) + (qs.length : Int) := by rw [IntKind.wrap_i64]; omega
  have cr : w3.cell? ⟨w.heap.size + 2, 0, none⟩ = some (.slice none 0 0) := (blk_cell HTR3.out 0).trans rfl
  have fr : w3.frozen? ⟨w.heap.size + 2, 0, none⟩ = false := blk_frozen HTR3.out 0
  go_quiet (fail)
  go_wp2
  refine bodyPost_ret (results_ct rfl _ _ (w.heap.size + 2) 29 #[.slice none 0 0] (0, 0) _ rfl (blk_put (xblk_drewN HTR3.out _) 0 _ rfl) Try.underlying29 rfl (by kernel_rfl)) rfl ?_
  exact ⟨_, rfl, Kd.R_nil _ _ _ _ _, (pw_below_drewN HBw3.out _).setCell (p := ⟨w.heap.size + 2, 0, none⟩) (by show w.heap.size ≤ w.heap.size + 2; omega) _⟩
set_option maxHeartbeats 4000000 in
set_option maxRecDepth 100000 in
theorem joinI_n4 (L1 L2 : List Lb) (A1 A2 : Option Addr) (c1 c2 : Nat) (ps qs : List S80) (ok fine : Bool) (w : World)
    (h1 : ∀ W, Below w.heap.size w W → Calls Try.prog 49 #[.agg #[.slice A1 L1.length c1]] W fun e w' => ∃ v, e = .returned (.tuple #[v, .bool ok]) ∧ Kd.R k80 80 w' W.heap.size (fun _ => True) v ps ∧ Below W.heap.size W w')
    (h2 : ∀ W, Below w.heap.size w W → Calls Try.prog 49 #[.agg #[.slice A2 L2.length c2]] W fun e w' => ∃ v, e = .returned (.tuple #[v, .bool fine]) ∧ Kd.R k80 80 w' W.heap.size (fun _ => True) v qs ∧ Below W.heap.size W w')
    (hp : ps.length ≤ 60) (hq : qs.length ≤ 60) (hok : ok = true) (hfi : fine = true) (hsum : ps.length + qs.length ≤ 60) (hx0 : ¬ ps.length = 0) (hy0 : ¬ qs.length = 0) (hge : Op.bytesLess (rd_T80 ps ((ps.length - 1 : Nat) : Int)).f0.toList (rd_T80 qs ((0 : Nat) : Int)).f0.toList = false) :
    Calls Try.prog 29 #[.agg #[.slice A1 L1.length c1], .agg #[.slice A2 L2.length c2]] w fun e w' => ∃ v0_ : Value, e = .returned (.tuple #[.agg #[v0_], .bool false]) ∧ Kd.R k71 71 w' w.heap.size (fun _ => True) v0_ [] ∧ Below w.heap.size w w' := by
  obtain ⟨wA, hwA⟩ : ∃ wA, wA = w.alloc (.cells #[.slice A1 L1.length c1] 29) := ⟨_, rfl⟩
  obtain ⟨wB, hwB⟩ : ∃ wB, wB = wA.alloc (.cells #[.slice A2 L2.length c2] 29) := ⟨_, rfl⟩
  obtain ⟨wC, hwC⟩ : ∃ wC, wC = wB.alloc (.cells #[.slice none 0 0] 29) := ⟨_, rfl⟩
  have HWA := Aside0.mk hwA
  have HWB := Aside0.mk hwB
  have HWC := Aside0.mk hwC
  have hsA : wA.heap.size = w.heap.size + 1 := by rw [hwA]; exact new_size _ _
  have hsB : wB.heap.size = w.heap.size + 2 := by rw [hwB, new_size, hsA]
  have HSC := Aside0.mk (show wC.heap.size = w.heap.size + 3 by rw [hwC, new_size, hsB])
  have hBA : Below w.heap.size w wA := by rw [hwA]; exact below_alloc (Below.refl _ _) _
  have hBB : Below w.heap.size w wB := by rw [hwB]; exact below_alloc hBA _
  have HBC := Aside0.mk (show Below w.heap.size w wC by rw [hwC]; exact below_alloc hBB _)
  have HT1 := Aside0.mk (show wC.heap[w.heap.size]? = some (.cells #[.slice A1 L1.length c1] 29 (0, 0)) by rw [hwC]; exact xblk_alloc (by rw [hwB]; exact xblk_alloc (by rw [hwA]; exact at_new _ _) _) _)
  have HT2 := Aside0.mk (show wC.heap[w.heap.size + 1]? = some (.cells #[.slice A2 L2.length c2] 29 (0, 0)) by rw [hwC]; exact xblk_alloc (by rw [hwB, ← hsA]; exact at_new _ _) _)
  have HTR := Aside0.mk (show wC.heap[w.heap.size + 2]? = some (.cells #[.slice none 0 0] 29 (0, 0)) by rw [hwC, ← hsB]; exact at_new _ _)
  have ct : (((w.alloc (.cells #[.slice A1 L1.length c1] 29)).alloc (.cells #[.slice A2 L2.length c2] 29)).alloc (.cells #[.slice none 0 0] 29)).cell? ⟨w.heap.size, 0, none⟩ = some (.slice A1 L1.length c1) := by rw [← hwA, ← hwB, ← hwC]; exact (blk_cell HT1.out 0).trans rfl
  have HP1 := Aside0.mk (h1 wC HBC.out)
  have HP2 := Aside0.mk h2
  have hpl : (ps.length : Int) ≤ 60 := by omega
  have hql : (qs.length : Int) ≤ 60 := by omega
  have HPQ := Aside0.mk (⟨hp, hq⟩ : ps.length ≤ 60 ∧ qs.length ≤ 60)
  clear h1 h2 hwA hwB hwC hsA hsB hBA hBB hp hq
  subst hok hfi
  have t1 : decide ((60 : Int) < (ps.length : Int) + (qs.length : Int)) = false := decide_eq_false (by omega)
  have t1' : ¬ (60 : Int) < (ps.length : Int) + (qs.length : Int) := by omega
  have HSUM := Aside0.mk hsum
  have t2 : decide ((0 : Int) < (ps.length : Int)) = true := decide_eq_true (by omega)
  have t2' :  (0 : Int) < (ps.length : Int) := by omega
  have t2n : decide (0 < ps.length) = true := decide_eq_true (by omega)
  have t2n' :  0 < ps.length := by omega
  have t3 : decide ((0 : Int) < (qs.length : Int)) = true := decide_eq_true (by omega)
  have t3' :  (0 : Int) < (qs.length : Int) := by omega
  have t3n : decide (0 < qs.length) = true := decide_eq_true (by omega)
  have t3n' :  0 < qs.length := by omega
  go_enter Try.func29, Try.ntmps29
  go_upto_region 2 with (go_at_call 49; rw [← HWA.out, ← HWB.out, ← HWC.out]; go_loud ((with_reducible refine HP1.out.mono ?_); rintro e w2 ⟨v2, rfl, ho2, hb2⟩; have HO2 := Aside0.mk ho2; have HB2 := Aside0.mk hb2; clear ho2 hb2))
  clear ct
  have HBw2 := Aside0.mk (HBC.out.trans (HB2.out.mono (by have := HSC.out; omega)))
  have HT22 := Aside0.mk ((HB2.out.block (w.heap.size + 1) (by have := HSC.out; omega)).trans HT2.out)
  have ct2 : w2.cell? ⟨w.heap.size + 1, 0, none⟩ = some (.slice A2 L2.length c2) := (blk_cell HT22.out 0).trans rfl
  go_upto_region 3 with (go_at_call 49; go_loud ((with_reducible refine (HP2.out _ HBw2.out).mono ?_); rintro e w3 ⟨v3, rfl, ho3, hb3⟩; have HO3 := Aside0.mk ho3; have HB3 := Aside0.mk hb3; clear ho3 hb3))
  clear ct2
  have HBw3 := Aside0.mk (HBw2.out.trans (HB3.out.mono (by have := HB2.out.size; have := HSC.out; omega)))
  have HTR3 := Aside0.mk ((HB3.out.block (w.heap.size + 2) (by have := HB2.out.size; have := HSC.out; omega)).trans ((HB2.out.block (w.heap.size + 2) (by have := HSC.out; omega)).trans HTR.out))
  have HO23 := Aside0.mk (Kd.R_below HO2.out HB3.out)
  obtain ⟨A3, c3, e3⟩ := Kd.R_slice HO23.out
  subst e3
  obtain ⟨A4, c4, e4⟩ := Kd.R_slice HO3.out
  subst e4
  have hw1 : IntKind.i64.wrap ((ps.length : Int) + (qs.length : Int)) = (ps.length : Int) + (qs.length : Int) := by rw [IntKind.wrap_i64]; omega
  obtain ⟨m, hm⟩ : ∃ m, m = ps.length - 1 := ⟨_, rfl⟩
  rw [← hm] at hge
  have hw2 : IntKind.i64.wrap ((ps.length : Int) - 1) = (m : Int) := by rw [IntKind.wrap_i64]; omega
  have hm0 : (m : Int) < (ps.length : Int) := by omega
  obtain ⟨a1, e1, x0, _⟩ := at_T80 (Kd.reads1 HO23.out) (m : Int) (by omega) (by omega)
  obtain ⟨a2, e2, y0, _⟩ := at_T80 (Kd.reads1 HO3.out) ((0 : Nat) : Int) (by omega) (by omega)
  rw [Int.toNat_natCast] at x0 y0
  rw [Nat.zero_mul] at y0
  have ez : a2.add 0 = a2 := rfl
  rw [ez] at y0
  subst e1 e2
  generalize (rd_T80 ps (m : Int)).f0 = k1 at *
  generalize (rd_T80 qs ((0 : Nat) : Int)).f0 = k2 at *
  clear hm ez
  clear hx0 hy0 hsum
  have cr : w3.cell? ⟨w.heap.size + 2, 0, none⟩ = some (.slice none 0 0) := (blk_cell HTR3.out 0).trans rfl
  have fr : w3.frozen? ⟨w.heap.size + 2, 0, none⟩ = false := blk_frozen HTR3.out 0
  go_quiet (fail)
  go_wp2
  refine bodyPost_ret (results_ct rfl _ _ (w.heap.size + 2) 29 #[.slice none 0 0] (0, 0) _ rfl (blk_put (xblk_drewN HTR3.out _) 0 _ rfl) Try.underlying29 rfl (by kernel_rfl)) rfl ?_
  exact ⟨_, rfl, Kd.R_nil _ _ _ _ _, (pw_below_drewN HBw3.out _).setCell (p := ⟨w.heap.size + 2, 0, none⟩) (by show w.heap.size ≤ w.heap.size + 2; omega) _⟩
set_option maxHeartbeats 4000000 in
set_option maxRecDepth 100000 in
theorem joinI_y1 (L1 L2 : List Lb) (A1 A2 : Option Addr) (c1 c2 : Nat) (ps qs : List S80) (ok fine : Bool) (w : World)
    (h1 : ∀ W, Below w.heap.size w W → Calls Try.prog 49 #[.agg #[.slice A1 L1.length c1]] W fun e w' => ∃ v, e = .returned (.tuple #[v, .bool ok]) ∧ Kd.R k80 80 w' W.heap.size (fun _ => True) v ps ∧ Below W.heap.size W w')
    (h2 : ∀ W, Below w.heap.size w W → Calls Try.prog 49 #[.agg #[.slice A2 L2.length c2]] W fun e w' => ∃ v, e = .returned (.tuple #[v, .bool fine]) ∧ Kd.R k80 80 w' W.heap.size (fun _ => True) v qs ∧ Below W.heap.size W w')
    (hp : ps.length ≤ 60) (hq : qs.length ≤ 60) (hok : ok = true) (hfi : fine = true) (hsum : ps.length + qs.length ≤ 60) (hx0 : ps.length = 0) (hks : ∀ i : Nat, i < (ps ++ qs).length → (rd_T80 (ps ++ qs) (i : Int)).f0.size ≤ 1048576) :
    Calls Try.prog 29 #[.agg #[.slice A1 L1.length c1], .agg #[.slice A2 L2.length c2]] w fun e w' => ∃ v0_ : Value, e = .returned (.tuple #[.agg #[v0_], .bool true]) ∧ Kd.R k71 71 w' w.heap.size (fun _ => True) v0_ (enc (ps.map BuI.kv ++ qs.map BuI.kv).length 0 (ps.map BuI.kv ++ qs.map BuI.kv)) ∧ Below w.heap.size w w' := by
  obtain ⟨wA, hwA⟩ : ∃ wA, wA = w.alloc (.cells #[.slice A1 L1.length c1] 29) := ⟨_, rfl⟩
  obtain ⟨wB, hwB⟩ : ∃ wB, wB = wA.alloc (.cells #[.slice A2 L2.length c2] 29) := ⟨_, rfl⟩
  obtain ⟨wC, hwC⟩ : ∃ wC, wC = wB.alloc (.cells #[.slice none 0 0] 29) := ⟨_, rfl⟩
  have HWA := Aside0.mk hwA
  have HWB := Aside0.mk hwB
  have HWC := Aside0.mk hwC
  have hsA : wA.heap.size = w.heap.size + 1 := by rw [hwA]; exact new_size _ _
  have hsB : wB.heap.size = w.heap.size + 2 := by rw [hwB, new_size, hsA]
  have HSC := Aside0.mk (show wC.heap.size = w.heap.size + 3 by rw [hwC, new_size, hsB])
  have hBA : Below w.heap.size w wA := by rw [hwA]; exact below_alloc (Below.refl _ _) _
  have hBB : Below w.heap.size w wB := by rw [hwB]; exact below_alloc hBA _
  have HBC := Aside0.mk (show Below w.heap.size w wC by rw [hwC]; exact below_alloc hBB _)
  have HT1 := Aside0.mk (show wC.heap[w.heap.size]? = some (.cells #[.slice A1 L1.length c1] 29 (0, 0)) by rw [hwC]; exact xblk_alloc (by rw [hwB]; exact xblk_alloc (by rw [hwA]; exact at_new _ _) _) _)
  have HT2 := Aside0.mk (show wC.heap[w.heap.size + 1]? = some (.cells #[.slice A2 L2.length c2] 29 (0, 0)) by rw [hwC]; exact xblk_alloc (by rw [hwB, ← hsA]; exact at_new _ _) _)
  have HTR := Aside0.mk (show wC.heap[w.heap.size + 2]? = some (.cells #[.slice none 0 0] 29 (0, 0)) by rw [hwC, ← hsB]; exact at_new _ _)
  have ct : (((w.alloc (.cells #[.slice A1 L1.length c1] 29)).alloc (.cells #[.slice A2 L2.length c2] 29)).alloc (.cells #[.slice none 0 0] 29)).cell? ⟨w.heap.size, 0, none⟩ = some (.slice A1 L1.length c1) := by rw [← hwA, ← hwB, ← hwC]; exact (blk_cell HT1.out 0).trans rfl
  have HP1 := Aside0.mk (h1 wC HBC.out)
  have HP2 := Aside0.mk h2
  have hpl : (ps.length : Int) ≤ 60 := by omega
  have hql : (qs.length : Int) ≤ 60 := by omega
  have HPQ := Aside0.mk (⟨hp, hq⟩ : ps.length ≤ 60 ∧ qs.length ≤ 60)
  clear h1 h2 hwA hwB hwC hsA hsB hBA hBB hp hq
  subst hok hfi
  obtain ⟨zs, hzs⟩ : ∃ zs, zs = enc (ps.map BuI.kv ++ qs.map BuI.kv).length 0 (ps.map BuI.kv ++ qs.map BuI.kv) := ⟨_, rfl⟩
  rw [← hzs]
  obtain ⟨rs, hrs⟩ : ∃ rs, rs = ps ++ qs := ⟨_, rfl⟩
  have HRS := Aside0.mk hrs
  rw [← hrs] at hks
  have HZ := Aside0.mk (show zs = enc rs.length 0 (rs.map BuI.kv) by rw [hzs, hrs, ← List.map_append, List.length_map])
  have HKS := Aside0.mk hks
  have HRL := Aside0.mk (show rs.length ≤ 1048576 by have := HPQ.out; rw [hrs, List.length_append]; omega)
  clear hzs hks hrs
  have t1 : decide ((60 : Int) < (ps.length : Int) + (qs.length : Int)) = false := decide_eq_false (by omega)
  have t1' : ¬ (60 : Int) < (ps.length : Int) + (qs.length : Int) := by omega
  have HSUM := Aside0.mk hsum
  have t2 : decide ((0 : Int) < (ps.length : Int)) = false := decide_eq_false (by omega)
  have t2' : ¬ (0 : Int) < (ps.length : Int) := by omega
  have t2n : decide (0 < ps.length) = false := decide_eq_false (by omega)
  have t2n' : ¬ 0 < ps.length := by omega
  go_enter Try.func29, Try.ntmps29
  go_upto_region 2 with (go_at_call 49; rw [← HWA.out, ← HWB.out, ← HWC.out]; go_loud ((with_reducible refine HP1.out.mono ?_); rintro e w2 ⟨v2, rfl, ho2, hb2⟩; have HO2 := Aside0.mk ho2; have HB2 := Aside0.mk hb2; clear ho2 hb2))
  clear ct
  have HBw2 := Aside0.mk (HBC.out.trans (HB2.out.mono (by have := HSC.out; omega)))
  have HT22 := Aside0.mk ((HB2.out.block (w.heap.size + 1) (by have := HSC.out; omega)).trans HT2.out)
  have ct2 : w2.cell? ⟨w.heap.size + 1, 0, none⟩ = some (.slice A2 L2.length c2) := (blk_cell HT22.out 0).trans rfl
  go_upto_region 3 with (go_at_call 49; go_loud ((with_reducible refine (HP2.out _ HBw2.out).mono ?_); rintro e w3 ⟨v3, rfl, ho3, hb3⟩; have HO3 := Aside0.mk ho3; have HB3 := Aside0.mk hb3; clear ho3 hb3))
  clear ct2
  have HBw3 := Aside0.mk (HBw2.out.trans (HB3.out.mono (by have := HB2.out.size; have := HSC.out; omega)))
  have HTR3 := Aside0.mk ((HB3.out.block (w.heap.size + 2) (by have := HB2.out.size; have := HSC.out; omega)).trans ((HB2.out.block (w.heap.size + 2) (by have := HSC.out; omega)).trans HTR.out))
  have HO23 := Aside0.mk (Kd.R_below HO2.out HB3.out)
  obtain ⟨A3, c3, e3⟩ := Kd.R_slice HO23.out
  subst e3
  obtain ⟨A4, c4, e4⟩ := Kd.R_slice HO3.out
  subst e4
  have hw1 : IntKind.i64.wrap ((ps.length : Int) + (qs.length : Int)) = (ps.length : Int) + (qs.length : Int) := by rw [IntKind.wrap_i64]; omega
  clear hx0 hsum
  have HCC := Aside0.mk (fun nq : Nat => concat A3 A4 c3 c4 ps qs w3.heap.size ((w3.drewN nq).alloc (.cells #[.slice A3 ps.length c3, .slice A4 qs.length c4] 66)) (at_new (w3.drewN nq) _) (Kd.C_below (Kd.reads1 HO23.out) (below_alloc (pw_below_drewN (Below.refl _ _) nq) _)) (Kd.C_below (Kd.reads1 HO3.out) (below_alloc (pw_below_drewN (Below.refl _ _) nq) _)) (by have := HPQ.out; omega))
  have HBD := Aside0.mk (fun nq : Nat => (below_alloc (pw_below_drewN (Below.refl w3.heap.size w3) nq) (.cells #[.slice A3 ps.length c3, .slice A4 qs.length c4] 66) : Below w3.heap.size w3 ((w3.drewN nq).alloc (.cells #[.slice A3 ps.length c3, .slice A4 qs.length c4] 66))))
  go_quiet (fail)
  go_wp2_with (first
    | (go_at_call 58; go_loud ((with_reducible refine (HCC.out _).mono ?_); rintro e w5 ⟨v5, rfl, ho5, hb5⟩; rw [← HRS.out] at ho5; obtain ⟨A5, c5, e5⟩ := Kd.R_slice ho5; subst e5; have HO5 := Aside0.mk ho5; have HB5 := Aside0.mk ((HBD.out _).trans (hb5.mono (HBD.out _).size)); have HT6 := Aside0.mk (Tr.treapI rs A5 c5 w5 (Kd.reads1 ho5) (Kd.reads2 ho5) HRL.out HKS.out); clear ho5 hb5))
    | (go_at_call 57; go_loud ((with_reducible refine HT6.out.mono ?_); rintro e w7 ⟨v7, rfl, ho7, hb7⟩; rw [← HZ.out] at ho7; obtain ⟨A7, c7, e7⟩ := Kd.R_slice ho7; subst e7; have HO7 := Aside0.mk ho7; have HB7 := Aside0.mk hb7; have HR7 := Aside0.mk ((hb7.block (w.heap.size + 2) (by have := HB5.out.size; have := HB3.out.size; have := HB2.out.size; have := HSC.out; omega)).trans ((HB5.out.block (w.heap.size + 2) (by have := HB3.out.size; have := HB2.out.size; have := HSC.out; omega)).trans HTR3.out)); have cr : w7.cell? ⟨w.heap.size + 2, 0, none⟩ = some (.slice none 0 0) := (blk_cell HR7.out 0).trans rfl; have fr : w7.frozen? ⟨w.heap.size + 2, 0, none⟩ = false := blk_frozen HR7.out 0; clear ho7 hb7)))
  refine bodyPost_ret (results_ct rfl _ _ (w.heap.size + 2) 29 #[.slice A7 zs.length c7] (0, 0) _ rfl (blk_put HR7.out 0 _ rfl) Try.underlying29 rfl (by kernel_rfl)) rfl ?_
  have hs5 : w.heap.size + 3 ≤ w5.heap.size := by have := HB5.out.size; have := HB3.out.size; have := HB2.out.size; have := HSC.out; omega
  have HBw := (HBw3.out.trans (HB5.out.mono (by have := HB3.out.size; have := HB2.out.size; have := HSC.out; omega))).trans (HB7.out.mono (by omega))
  refine ⟨_, rfl, ?_, HBw.setCell (p := ⟨w.heap.size + 2, 0, none⟩) (by show w.heap.size ≤ w.heap.size + 2; omega) _⟩
  have h1 := Kd.R_far (p := ⟨w.heap.size + 2, 0, none⟩) (Kd.R_bound HO7.out) (fun k hk => by have h1 := hk.2.1; show k ≠ w.heap.size + 2; omega) (.slice A7 zs.length c7)
  exact Kd.R_mono (Kd.R_lower h1 (by omega)) (fun _ _ => trivial)
set_option maxHeartbeats 4000000 in
set_option maxRecDepth 100000 in
theorem joinI_y2 (L1 L2 : List Lb) (A1 A2 : Option Addr) (c1 c2 : Nat) (ps qs : List S80) (ok fine : Bool) (w : World)
    (h1 : ∀ W, Below w.heap.size w W → Calls Try.prog 49 #[.agg #[.slice A1 L1.length c1]] W fun e w' => ∃ v, e = .returned (.tuple #[v, .bool ok]) ∧ Kd.R k80 80 w' W.heap.size (fun _ => True) v ps ∧ Below W.heap.size W w')
    (h2 : ∀ W, Below w.heap.size w W → Calls Try.prog 49 #[.agg #[.slice A2 L2.length c2]] W fun e w' => ∃ v, e = .returned (.tuple #[v, .bool fine]) ∧ Kd.R k80 80 w' W.heap.size (fun _ => True) v qs ∧ Below W.heap.size W w')
    (hp : ps.length ≤ 60) (hq : qs.length ≤ 60) (hok : ok = true) (hfi : fine = true) (hsum : ps.length + qs.length ≤ 60) (hx0 : ¬ ps.length = 0) (hy0 : qs.length = 0) (hks : ∀ i : Nat, i < (ps ++ qs).length → (rd_T80 (ps ++ qs) (i : Int)).f0.size ≤ 1048576) :
    Calls Try.prog 29 #[.agg #[.slice A1 L1.length c1], .agg #[.slice A2 L2.length c2]] w fun e w' => ∃ v0_ : Value, e = .returned (.tuple #[.agg #[v0_], .bool true]) ∧ Kd.R k71 71 w' w.heap.size (fun _ => True) v0_ (enc (ps.map BuI.kv ++ qs.map BuI.kv).length 0 (ps.map BuI.kv ++ qs.map BuI.kv)) ∧ Below w.heap.size w w' := by
  obtain ⟨wA, hwA⟩ : ∃ wA, wA = w.alloc (.cells #[.slice A1 L1.length c1] 29) := ⟨_, rfl⟩
  obtain ⟨wB, hwB⟩ : ∃ wB, wB = wA.alloc (.cells #[.slice A2 L2.length c2] 29) := ⟨_, rfl⟩
  obtain ⟨wC, hwC⟩ : ∃ wC, wC = wB.alloc (.cells #[.slice none 0 0] 29) := ⟨_, rfl⟩
  have HWA := Aside0.mk hwA
  have HWB := Aside0.mk hwB
  have HWC := Aside0.mk hwC
  have hsA : wA.heap.size = w.heap.size + 1 := by rw [hwA]; exact new_size _ _
  have hsB : wB.heap.size = w.heap.size + 2 := by rw [hwB, new_size, hsA]
  have HSC := Aside0.mk (show wC.heap.size = w.heap.size + 3 by rw [hwC, new_size, hsB])
  have hBA : Below w.heap.size w wA := by rw [hwA]; exact below_alloc (Below.refl _ _) _
  have hBB : Below w.heap.size w wB := by rw [hwB]; exact below_alloc hBA _
  have HBC := Aside0.mk (show Below w.heap.size w wC by rw [hwC]; exact below_alloc hBB _)
  have HT1 := Aside0.mk (show wC.heap[w.heap.size]? = some (.cells #[.slice A1 L1.length c1] 29 (0, 0)) by rw [hwC]; exact xblk_alloc (by rw [hwB]; exact xblk_alloc (by rw [hwA]; exact at_new _ _) _) _)
  have HT2 := Aside0.mk (show wC.heap[w.heap.size + 1]? = some (.cells #[.slice A2 L2.length c2] 29 (0, 0)) by rw [hwC]; exact xblk_alloc (by rw [hwB, ← hsA]; exact at_new _ _) _)
  have HTR := Aside0.mk (show wC.heap[w.heap.size + 2]? = some (.cells #[.slice none 0 0] 29 (0, 0)) by rw [hwC, ← hsB]; exact at_new _ _)
  have ct : (((w.alloc (.cells #[.slice A1 L1.length c1] 29)).alloc (.cells #[.slice A2 L2.length c2] 29)).alloc (.cells #[.slice none 0 0] 29)).cell? ⟨w.heap.size, 0, none⟩ = some (.slice A1 L1.length c1) := by rw [← hwA, ← hwB, ← hwC]; exact (blk_cell HT1.out 0).trans rfl
  have HP1 := Aside0.mk (h1 wC HBC.out)
  have HP2 := Aside0.mk h2
  have hpl : (ps.length : Int) ≤ 60 := by omega
  have hql : (qs.length : Int) ≤ 60 := by omega
  have HPQ := Aside0.mk (⟨hp, hq⟩ : ps.length ≤ 60 ∧ qs.length ≤ 60)
  clear h1 h2 hwA hwB hwC hsA hsB hBA hBB hp hq
  subst hok hfi
  obtain ⟨zs, hzs⟩ : ∃ zs, zs = enc (ps.map BuI.kv ++ qs.map BuI.kv).length 0 (ps.map BuI.kv ++ qs.map BuI.kv) := ⟨_, rfl⟩
  rw [← hzs]
  obtain ⟨rs, hrs⟩ : ∃ rs, rs = ps ++ qs := ⟨_, rfl⟩
  have HRS := Aside0.mk hrs
  rw [← hrs] at hks
  have HZ := Aside0.mk (show zs = enc rs.length 0 (rs.map BuI.kv) by rw [hzs, hrs, ← List.map_append, List.length_map])
  have HKS := Aside0.mk hks
  have HRL := Aside0.mk (show rs.length ≤ 1048576 by have := HPQ.out; rw [hrs, List.length_append]; omega)
  clear hzs hks hrs
  have t1 : decide ((60 : Int) < (ps.length : Int) + (qs.length : Int)) = false := decide_eq_false (by omega)
  have t1' : ¬ (60 : Int) < (ps.length : Int) + (qs.length : Int) := by omega
  have HSUM := Aside0.mk hsum
  have t2 : decide ((0 : Int) < (ps.length : Int)) = true := decide_eq_true (by omega)
  have t2' :  (0 : Int) < (ps.length : Int) := by omega
  have t2n : decide (0 < ps.length) = true := decide_eq_true (by omega)
  have t2n' :  0 < ps.length := by omega
  have t3 : decide ((0 : Int) < (qs.length : Int)) = false := decide_eq_false (by omega)
  have t3' : ¬ (0 : Int) < (qs.length : Int) := by omega
  have t3n : decide (0 < qs.length) = false := decide_eq_false (by omega)
  have t3n' : ¬ 0 < qs.length := by omega
  go_enter Try.func29, Try.ntmps29
  go_upto_region 2 with (go_at_call 49; rw [← HWA.out, ← HWB.out, ← HWC.out]; go_loud ((with_reducible refine HP1.out.mono ?_); rintro e w2 ⟨v2, rfl, ho2, hb2⟩; have HO2 := Aside0.mk ho2; have HB2 := Aside0.mk hb2; clear ho2 hb2))
  clear ct
  have HBw2 := Aside0.mk (HBC.out.trans (HB2.out.mono (by have := HSC.out; omega)))
  have HT22 := Aside0.mk ((HB2.out.block (w.heap.size + 1) (by have := HSC.out; omega)).trans HT2.out)
  have ct2 : w2.cell? ⟨w.heap.size + 1, 0, none⟩ = some (.slice A2 L2.length c2) := (blk_cell HT22.out 0).trans rfl
  go_upto_region 3 with (go_at_call 49; go_loud ((with_reducible refine (HP2.out _ HBw2.out).mono ?_); rintro e w3 ⟨v3, rfl, ho3, hb3⟩; have HO3 := Aside0.mk ho3; have HB3 := Aside0.mk hb3; clear ho3 hb3))
  clear ct2
  have HBw3 := Aside0.mk (HBw2.out.trans (HB3.out.mono (by have := HB2.out.size; have := HSC.out; omega)))
  have HTR3 := Aside0.mk ((HB3.out.block (w.heap.size + 2) (by have := HB2.out.size; have := HSC.out; omega)).trans ((HB2.out.block (w.heap.size + 2) (by have := HSC.out; omega)).trans HTR.out))
  have HO23 := Aside0.mk (Kd.R_below HO2.out HB3.out)
  obtain ⟨A3, c3, e3⟩ := Kd.R_slice HO23.out
  subst e3
  obtain ⟨A4, c4, e4⟩ := Kd.R_slice HO3.out
  subst e4
  have hw1 : IntKind.i64.wrap ((ps.length : Int) + (qs.length : Int)) = (ps.length : Int) + (qs.length : Int) := by rw [IntKind.wrap_i64]; omega
  clear hx0 hy0 hsum
  have HCC := Aside0.mk (fun nq : Nat => concat A3 A4 c3 c4 ps qs w3.heap.size ((w3.drewN nq).alloc (.cells #[.slice A3 ps.length c3, .slice A4 qs.length c4] 66)) (at_new (w3.drewN nq) _) (Kd.C_below (Kd.reads1 HO23.out) (below_alloc (pw_below_drewN (Below.refl _ _) nq) _)) (Kd.C_below (Kd.reads1 HO3.out) (below_alloc (pw_below_drewN (Below.refl _ _) nq) _)) (by have := HPQ.out; omega))
  have HBD := Aside0.mk (fun nq : Nat => (below_alloc (pw_below_drewN (Below.refl w3.heap.size w3) nq) (.cells #[.slice A3 ps.length c3, .slice A4 qs.length c4] 66) : Below w3.heap.size w3 ((w3.drewN nq).alloc (.cells #[.slice A3 ps.length c3, .slice A4 qs.length c4] 66))))
  go_quiet (fail)
  go_wp2_with (first
    | (go_at_call 58; go_loud ((with_reducible refine (HCC.out _).mono ?_); rintro e w5 ⟨v5, rfl, ho5, hb5⟩; rw [← HRS.out] at ho5; obtain ⟨A5, c5, e5⟩ := Kd.R_slice ho5; subst e5; have HO5 := Aside0.mk ho5; have HB5 := Aside0.mk ((HBD.out _).trans (hb5.mono (HBD.out _).size)); have HT6 := Aside0.mk (Tr.treapI rs A5 c5 w5 (Kd.reads1 ho5) (Kd.reads2 ho5) HRL.out HKS.out); clear ho5 hb5))
    | (go_at_call 57; go_loud ((with_reducible refine HT6.out.mono ?_); rintro e w7 ⟨v7, rfl, ho7, hb7⟩; rw [← HZ.out] at ho7; obtain ⟨A7, c7, e7⟩ := Kd.R_slice ho7; subst e7; have HO7 := Aside0.mk ho7; have HB7 := Aside0.mk hb7; have HR7 := Aside0.mk ((hb7.block (w.heap.size + 2) (by have := HB5.out.size; have := HB3.out.size; have := HB2.out.size; have := HSC.out; omega)).trans ((HB5.out.block (w.heap.size + 2) (by have := HB3.out.size; have := HB2.out.size; have := HSC.out; omega)).trans HTR3.out)); have cr : w7.cell? ⟨w.heap.size + 2, 0, none⟩ = some (.slice none 0 0) := (blk_cell HR7.out 0).trans rfl; have fr : w7.frozen? ⟨w.heap.size + 2, 0, none⟩ = false := blk_frozen HR7.out 0; clear ho7 hb7)))
  refine bodyPost_ret (results_ct rfl _ _ (w.heap.size + 2) 29 #[.slice A7 zs.length c7] (0, 0) _ rfl (blk_put HR7.out 0 _ rfl) Try.underlying29 rfl (by kernel_rfl)) rfl ?_
  have hs5 : w.heap.size + 3 ≤ w5.heap.size := by have := HB5.out.size; have := HB3.out.size; have := HB2.out.size; have := HSC.out; omega
  have HBw := (HBw3.out.trans (HB5.out.mono (by have := HB3.out.size; have := HB2.out.size; have := HSC.out; omega))).trans (HB7.out.mono (by omega))
  refine ⟨_, rfl, ?_, HBw.setCell (p := ⟨w.heap.size + 2, 0, none⟩) (by show w.heap.size ≤ w.heap.size + 2; omega) _⟩
  have h1 := Kd.R_far (p := ⟨w.heap.size + 2, 0, none⟩) (Kd.R_bound HO7.out) (fun k hk => by have h1 := hk.2.1; show k ≠ w.heap.size + 2; omega) (.slice A7 zs.length c7)
  exact Kd.R_mono (Kd.R_lower h1 (by omega)) (fun _ _ => trivial)
set_option maxHeartbeats 4000000 in
set_option maxRecDepth 100000 in
theorem joinI_y3 (L1 L2 : List Lb) (A1 A2 : Option Addr) (c1 c2 : Nat) (ps qs : List S80) (ok fine : Bool) (w : World)
    (h1 : ∀ W, Below w.heap.size w W → Calls Try.prog 49 #[.agg #[.slice A1 L1.length c1]] W fun e w' => ∃ v, e = .returned (.tuple #[v, .bool ok]) ∧ Kd.R k80 80 w' W.heap.size (fun _ => True) v ps ∧ Below W.heap.size W w')
    (h2 : ∀ W, Below w.heap.size w W → Calls Try.prog 49 #[.agg #[.slice A2 L2.length c2]] W fun e w' => ∃ v, e = .returned (.tuple #[v, .bool fine]) ∧ Kd.R k80 80 w' W.heap.size (fun _ => True) v qs ∧ Below W.heap.size W w')
    (hp : ps.length ≤ 60) (hq : qs.length ≤ 60) (hok : ok = true) (hfi : fine = true) (hsum : ps.length + qs.length ≤ 60) (hx0 : ¬ ps.length = 0) (hy0 : ¬ qs.length = 0) (hge : Op.bytesLess (rd_T80 ps ((ps.length - 1 : Nat) : Int)).f0.toList (rd_T80 qs ((0 : Nat) : Int)).f0.toList = true) (hks : ∀ i : Nat, i < (ps ++ qs).length → (rd_T80 (ps ++ qs) (i : Int)).f0.size ≤ 1048576) :
    Calls Try.prog 29 #[.agg #[.slice A1 L1.length c1], .agg #[.slice A2 L2.length c2]] w fun e w' => ∃ v0_ : Value, e = .returned (.tuple #[.agg #[v0_], .bool true]) ∧ Kd.R k71 71 w' w.heap.size (fun _ => True) v0_ (enc (ps.map BuI.kv ++ qs.map BuI.kv).length 0 (ps.map BuI.kv ++ qs.map BuI.kv)) ∧ Below w.heap.size w w' := by
  obtain ⟨wA, hwA⟩ : ∃ wA, wA = w.alloc (.cells #[.slice A1 L1.length c1] 29) := ⟨_, rfl⟩
  obtain ⟨wB, hwB⟩ : ∃ wB, wB = wA.alloc (.cells #[.slice A2 L2.length c2] 29) := ⟨_, rfl⟩
  obtain ⟨wC, hwC⟩ : ∃ wC, wC = wB.alloc (.cells #[.slice none 0 0] 29) := ⟨_, rfl⟩
  have HWA := Aside0.mk hwA
  have HWB := Aside0.mk hwB
  have HWC := Aside0.mk hwC
  have hsA : wA.heap.size = w.heap.size + 1 := by rw [hwA]; exact new_size _ _
  have hsB : wB.heap.size = w.heap.size + 2 := by rw [hwB, new_size, hsA]
  have HSC := Aside0.mk (show wC.heap.size = w.heap.size + 3 by rw [hwC, new_size, hsB])
  have hBA : Below w.heap.size w wA := by rw [hwA]; exact below_alloc (Below.refl _ _) _
  have hBB : Below w.heap.size w wB := by rw [hwB]; exact below_alloc hBA _
  have HBC := Aside0.mk (show Below w.heap.size w wC by rw [hwC]; exact below_alloc hBB _)
  have HT1 := Aside0.mk (show wC.heap[w.heap.size]? = some (.cells #[.slice A1 L1.length c1] 29 (0, 0)) by rw [hwC]; exact xblk_alloc (by rw [hwB]; exact xblk_alloc (by rw [hwA]; exact at_new _ _) _) _)
  have HT2 := Aside0.mk (show wC.heap[w.heap.size + 1]? = some (.cells #[.slice A2 L2.length c2] 29 (0, 0)) by rw [hwC]; exact xblk_alloc (by rw [hwB, ← hsA]; exact at_new _ _) _)
  have HTR := Aside0.mk (show wC.heap[w.heap.size + 2]? = some (.cells #[.slice none 0 0] 29 (0, 0)) by rw [hwC, ← hsB]; exact at_new _ _)
  have ct : (((w.alloc (.cells #[.slice A1 L1.length c1] 29)).alloc (.cells #[.slice A2 L2.length c2] 29)).alloc (.cells #[.slice none 0 0] 29)).cell? ⟨w.heap.size, 0, none⟩ = some (.slice A1 L1.length c1) := by rw [← hwA, ← hwB, ← hwC]; exact (blk_cell HT1.out 0).trans rfl
  have HP1 := Aside0.mk (h1 wC HBC.out)
  have HP2 := Aside0.mk h2
  have hpl : (ps.length : Int) ≤ 60 := by omega
  have hql : (qs.length : Int) ≤ 60 := by omega
  have HPQ := Aside0.mk (⟨hp, hq⟩ : ps.length ≤ 60 ∧ qs.length ≤ 60)
  clear h1 h2 hwA hwB hwC hsA hsB hBA hBB hp hq
  subst hok hfi
  obtain ⟨zs, hzs⟩ : ∃ zs, zs = enc (ps.map BuI.kv ++ qs.map BuI.kv).length 0 (ps.map BuI.kv ++ qs.map BuI.kv) := ⟨_, rfl⟩
  rw [← hzs]
  obtain ⟨rs, hrs⟩ : ∃ rs, rs = ps ++ qs := ⟨_, rfl⟩
  have HRS := Aside0.mk hrs
  rw [← hrs] at hks
  have HZ := Aside0.mk (show zs = enc rs.length 0 (rs.map BuI.kv) by rw [hzs, hrs, ← List.map_append, List.length_map])
  have HKS := Aside0.mk hks
  have HRL := Aside0.mk (show rs.length ≤ 1048576 by have := HPQ.out; rw [hrs, List.length_append]; omega)
  clear hzs hks hrs
  have t1 : decide ((60 : Int) < (ps.length : Int) + (qs.length : Int)) = false := decide_eq_false (by omega)
  have t1' : ¬ (60 : Int) < (ps.length : Int) + (qs.length : Int) := by omega
  have HSUM := Aside0.mk hsum
  have t2 : decide ((0 : Int) < (ps.length : Int)) = true := decide_eq_true (by omega)
  have t2' :  (0 : Int) < (ps.length : Int) := by omega
  have t2n : decide (0 < ps.length) = true := decide_eq_true (by omega)
  have t2n' :  0 < ps.length := by omega
  have t3 : decide ((0 : Int) < (qs.length : Int)) = true := decide_eq_true (by omega)
  have t3' :  (0 : Int) < (qs.length : Int) := by omega
  have t3n : decide (0 < qs.length) = true := decide_eq_true (by omega)
  have t3n' :  0 < qs.length := by omega
  go_enter Try.func29, Try.ntmps29
  go_upto_region 2 with (go_at_call 49; rw [← HWA.out, ← HWB.out, ← HWC.out]; go_loud ((with_reducible refine HP1.out.mono ?_); rintro e w2 ⟨v2, rfl, ho2, hb2⟩; have HO2 := Aside0.mk ho2; have HB2 := Aside0.mk hb2; clear ho2 hb2))
  clear ct
  have HBw2 := Aside0.mk (HBC.out.trans (HB2.out.mono (by have := HSC.out; omega)))
  have HT22 := Aside0.mk ((HB2.out.block (w.heap.size + 1) (by have := HSC.out; omega)).trans HT2.out)
  have ct2 : w2.cell? ⟨w.heap.size + 1, 0, none⟩ = some (.slice A2 L2.length c2) := (blk_cell HT22.out 0).trans rfl
  go_upto_region 3 with (go_at_call 49; go_loud ((with_reducible refine (HP2.out _ HBw2.out).mono ?_); rintro e w3 ⟨v3, rfl, ho3, hb3⟩; have HO3 := Aside0.mk ho3; have HB3 := Aside0.mk hb3; clear ho3 hb3))
  clear ct2
  have HBw3 := Aside0.mk (HBw2.out.trans (HB3.out.mono (by have := HB2.out.size; have := HSC.out; omega)))
  have HTR3 := Aside0.mk ((HB3.out.block (w.heap.size + 2) (by have := HB2.out.size; have := HSC.out; omega)).trans ((HB2.out.block (w.heap.size + 2) (by have := HSC.out; omega)).trans HTR.out))
  have HO23 := Aside0.mk (Kd.R_below HO2.out HB3.out)
  obtain ⟨A3, c3, e3⟩ := Kd.R_slice HO23.out
  subst e3
  obtain ⟨A4, c4, e4⟩ := Kd.R_slice HO3.out
  subst e4
  have hw1 : IntKind.i64.wrap ((ps.length : Int) + (qs.length : Int)) = (ps.length : Int) + (qs.length : Int) := by rw [IntKind.wrap_i64]; omega
  obtain ⟨m, hm⟩ : ∃ m, m = ps.length - 1 := ⟨_, rfl⟩
  rw [← hm] at hge
  have hw2 : IntKind.i64.wrap ((ps.length : Int) - 1) = (m : Int) := by rw [IntKind.wrap_i64]; omega
  have hm0 : (m : Int) < (ps.length : Int) := by omega
  obtain ⟨a1, e1, x0, _⟩ := at_T80 (Kd.reads1 HO23.out) (m : Int) (by omega) (by omega)
  obtain ⟨a2, e2, y0, _⟩ := at_T80 (Kd.reads1 HO3.out) ((0 : Nat) : Int) (by omega) (by omega)
  rw [Int.toNat_natCast] at x0 y0
  rw [Nat.zero_mul] at y0
  have ez : a2.add 0 = a2 := rfl
  rw [ez] at y0
  subst e1 e2
  generalize (rd_T80 ps (m : Int)).f0 = k1 at *
  generalize (rd_T80 qs ((0 : Nat) : Int)).f0 = k2 at *
  clear hm ez
  clear hx0 hy0 hsum
  have HCC := Aside0.mk (fun nq : Nat => concat (some a1) (some a2) c3 c4 ps qs w3.heap.size ((w3.drewN nq).alloc (.cells #[.slice (some a1) ps.length c3, .slice (some a2) qs.length c4] 66)) (at_new (w3.drewN nq) _) (Kd.C_below (Kd.reads1 HO23.out) (below_alloc (pw_below_drewN (Below.refl _ _) nq) _)) (Kd.C_below (Kd.reads1 HO3.out) (below_alloc (pw_below_drewN (Below.refl _ _) nq) _)) (by have := HPQ.out; omega))
  have HBD := Aside0.mk (fun nq : Nat => (below_alloc (pw_below_drewN (Below.refl w3.heap.size w3) nq) (.cells #[.slice (some a1) ps.length c3, .slice (some a2) qs.length c4] 66) : Below w3.heap.size w3 ((w3.drewN nq).alloc (.cells #[.slice (some a1) ps.length c3, .slice (some a2) qs.length c4] 66))))
  go_quiet (fail)
  go_wp2_with (first
    | (go_at_call 58; go_loud ((with_reducible refine (HCC.out _).mono ?_); rintro e w5 ⟨v5, rfl, ho5, hb5⟩; rw [← HRS.out] at ho5; obtain ⟨A5, c5, e5⟩ := Kd.R_slice ho5; subst e5; have HO5 := Aside0.mk ho5; have HB5 := Aside0.mk ((HBD.out _).trans (hb5.mono (HBD.out _).size)); have HT6 := Aside0.mk (Tr.treapI rs A5 c5 w5 (Kd.reads1 ho5) (Kd.reads2 ho5) HRL.out HKS.out); clear ho5 hb5))
    | (go_at_call 57; go_loud ((with_reducible refine HT6.out.mono ?_); rintro e w7 ⟨v7, rfl, ho7, hb7⟩; rw [← HZ.out] at ho7; obtain ⟨A7, c7, e7⟩ := Kd.R_slice ho7; subst e7; have HO7 := Aside0.mk ho7; have HB7 := Aside0.mk hb7; have HR7 := Aside0.mk ((hb7.block (w.heap.size + 2) (by have := HB5.out.size; have := HB3.out.size; have := HB2.out.size; have := HSC.out; omega)).trans ((HB5.out.block (w.heap.size + 2) (by have := HB3.out.size; have := HB2.out.size; have := HSC.out; omega)).trans HTR3.out)); have cr : w7.cell? ⟨w.heap.size + 2, 0, none⟩ = some (.slice none 0 0) := (blk_cell HR7.out 0).trans rfl; have fr : w7.frozen? ⟨w.heap.size + 2, 0, none⟩ = false := blk_frozen HR7.out 0; clear ho7 hb7)))
  refine bodyPost_ret (results_ct rfl _ _ (w.heap.size + 2) 29 #[.slice A7 zs.length c7] (0, 0) _ rfl (blk_put HR7.out 0 _ rfl) Try.underlying29 rfl (by kernel_rfl)) rfl ?_
  have hs5 : w.heap.size + 3 ≤ w5.heap.size := by have := HB5.out.size; have := HB3.out.size; have := HB2.out.size; have := HSC.out; omega
  have HBw := (HBw3.out.trans (HB5.out.mono (by have := HB3.out.size; have := HB2.out.size; have := HSC.out; omega))).trans (HB7.out.mono (by omega))
  refine ⟨_, rfl, ?_, HBw.setCell (p := ⟨w.heap.size + 2, 0, none⟩) (by show w.heap.size ≤ w.heap.size + 2; omega) _⟩
  have h1 := Kd.R_far (p := ⟨w.heap.size + 2, 0, none⟩) (Kd.R_bound HO7.out) (fun k hk => by have h1 := hk.2.1; show k ≠ w.heap.size + 2; omega) (.slice A7 zs.length c7)
  exact Kd.R_mono (Kd.R_lower h1 (by omega)) (fun _ _ => trivial)
theorem joinI (L1 L2 : List Lb) (A1 A2 : Option Addr) (c1 c2 : Nat) (ps qs : List S80) (ok fine : Bool) (w : World)
    (h1 : ∀ W, Below w.heap.size w W → Calls Try.prog 49 #[.agg #[.slice A1 L1.length c1]] W fun e w' => ∃ v, e = .returned (.tuple #[v, .bool ok]) ∧ Kd.R k80 80 w' W.heap.size (fun _ => True) v ps ∧ Below W.heap.size W w')
    (h2 : ∀ W, Below w.heap.size w W → Calls Try.prog 49 #[.agg #[.slice A2 L2.length c2]] W fun e w' => ∃ v, e = .returned (.tuple #[v, .bool fine]) ∧ Kd.R k80 80 w' W.heap.size (fun _ => True) v qs ∧ Below W.heap.size W w')
    (hp : ps.length ≤ 60) (hq : qs.length ≤ 60) (hks : ∀ i : Nat, i < (ps ++ qs).length → (rd_T80 (ps ++ qs) (i : Int)).f0.size ≤ 1048576) :
    Calls Try.prog 29 #[.agg #[.slice A1 L1.length c1], .agg #[.slice A2 L2.length c2]] w fun e w' => ∃ v0_ : Value, e = .returned (.tuple #[.agg #[v0_], .bool (jn (ps.map BuI.kv) ok (qs.map BuI.kv) fine).2]) ∧ Kd.R k71 71 w' w.heap.size (fun _ => True) v0_ (jn (ps.map BuI.kv) ok (qs.map BuI.kv) fine).1 ∧ Below w.heap.size w w' := by
  have ejc : jc (ps.map BuI.kv) (qs.map BuI.kv) = (decide (ps.length = 0) || (decide (qs.length = 0) || ls ((ps.map BuI.kv).getD (ps.length - 1) zKV).1 ((qs.map BuI.kv).getD 0 zKV).1)) := by unfold jc; rw [List.length_map, List.length_map]
  unfold jn
  rw [ejc, List.length_map, List.length_map]
  cases ok with
  | false =>
    rw [if_neg (fun h => by cases h.1)]
    exact joinI_n1 L1 L2 A1 A2 c1 c2 ps qs _ fine w h1 h2 hp hq rfl
  | true =>
    cases fine with
    | false =>
      rw [if_neg (fun h => by cases h.2.1)]
      exact joinI_n2 L1 L2 A1 A2 c1 c2 ps qs _ _ w h1 h2 hp hq rfl rfl
    | true =>
      by_cases hs : ps.length + qs.length ≤ 60
      · by_cases hx : ps.length = 0
        · rw [if_pos ⟨rfl, rfl, hs, by rw [decide_eq_true hx]; rfl⟩]
          exact joinI_y1 L1 L2 A1 A2 c1 c2 ps qs _ _ w h1 h2 hp hq rfl rfl hs hx hks
        · by_cases hy : qs.length = 0
          · rw [if_pos ⟨rfl, rfl, hs, by rw [decide_eq_true hy, Bool.true_or, Bool.or_true]⟩]
            exact joinI_y2 L1 L2 A1 A2 c1 c2 ps qs _ _ w h1 h2 hp hq rfl rfl hs hx hy hks
          · have e1 := (BuI.kv_key ps (ps.length - 1) (by omega)).1
            have e2 := (BuI.kv_key qs 0 (by omega)).1
            cases hge : ls ((ps.map BuI.kv).getD (ps.length - 1) zKV).1 ((qs.map BuI.kv).getD 0 zKV).1 with
            | true =>
              rw [if_pos ⟨rfl, rfl, hs, by rw [Bool.or_true, Bool.or_true]⟩]
              rw [e1, e2] at hge
              exact joinI_y3 L1 L2 A1 A2 c1 c2 ps qs _ _ w h1 h2 hp hq rfl rfl hs hx hy hge hks
            | false =>
              rw [if_neg (fun h => by have := h.2.2.2; rw [decide_eq_false hx, decide_eq_false hy] at this; cases this)]
              rw [e1, e2] at hge
              exact joinI_n4 L1 L2 A1 A2 c1 c2 ps qs _ _ w h1 h2 hp hq rfl rfl hs hx hy hge
      · rw [if_neg (fun h => hs h.2.2.1)]
        exact joinI_n3 L1 L2 A1 A2 c1 c2 ps qs _ _ w h1 h2 hp hq rfl rfl hs
set_option maxHeartbeats 4000000 in
set_option maxRecDepth 100000 in
theorem joinS_n1 (L1 L2 : List Lb) (A1 A2 : Option Addr) (c1 c2 : Nat) (ps qs : List S74) (ok fine : Bool) (w : World)
    (h1 : ∀ W, Below w.heap.size w W → Calls Try.prog 47 #[.agg #[.slice A1 L1.length c1]] W fun e w' => ∃ v, e = .returned (.tuple #[v, .bool ok]) ∧ Kd.R k74 74 w' W.heap.size (fun _ => True) v ps ∧ Below W.heap.size W w')
    (h2 : ∀ W, Below w.heap.size w W → Calls Try.prog 47 #[.agg #[.slice A2 L2.length c2]] W fun e w' => ∃ v, e = .returned (.tuple #[v, .bool fine]) ∧ Kd.R k74 74 w' W.heap.size (fun _ => True) v qs ∧ Below W.heap.size W w')
    (hp : ps.length ≤ 60) (hq : qs.length ≤ 60) (hok : ok = false) :
    Calls Try.prog 28 #[.agg #[.slice A1 L1.length c1], .agg #[.slice A2 L2.length c2]] w fun e w' => ∃ v0_ : Value, e = .returned (.tuple #[.agg #[v0_], .bool false]) ∧ Kd.R k71 71 w' w.heap.size (fun _ => True) v0_ [] ∧ Below w.heap.size w w' := by
  obtain ⟨wA, hwA⟩ : ∃ wA, wA = w.alloc (.cells #[.slice A1 L1.length c1] 29) := ⟨_, rfl⟩
  obtain ⟨wB, hwB⟩ : ∃ wB, wB = wA.alloc (.cells #[.slice A2 L2.length c2] 29) := ⟨_, rfl⟩
  obtain ⟨wC, hwC⟩ : ∃ wC, wC = wB.alloc (.cells #[.slice none 0 0] 29) := ⟨_, rfl⟩
  have HWA := Aside0.mk hwA
  have HWB := Aside0.mk hwB
  have HWC := Aside0.mk hwC
  have hsA : wA.heap.size = w.heap.size + 1 := by rw [hwA]; exact new_size _ _
  have hsB : wB.heap.size = w.heap.size + 2 := by rw [hwB, new_size, hsA]
  have HSC := Aside0.mk (show wC.heap.size = w.heap.size + 3 by rw [hwC, new_size, hsB])
  have hBA : Below w.heap.size w wA := by rw [hwA]; exact below_alloc (Below.refl _ _) _
  have hBB : Below w.heap.size w wB := by rw [hwB]; exact below_alloc hBA _
  have HBC := Aside0.mk (show Below w.heap.size w wC by rw [hwC]; exact below_alloc hBB _)
  have HT1 := Aside0.mk (show wC.heap[w.heap.size]? = some (.cells #[.slice A1 L1.length c1] 29 (0, 0)) by rw [hwC]; exact xblk_alloc (by rw [hwB]; exact xblk_alloc (by rw [hwA]; exact at_new _ _) _) _)
  have HT2 := Aside0.mk (show wC.heap[w.heap.size + 1]? = some (.cells #[.slice A2 L2.length c2] 29 (0, 0)) by rw [hwC]; exact xblk_alloc (by rw [hwB, ← hsA]; exact at_new _ _) _)
  have HTR := Aside0.mk (show wC.heap[w.heap.size + 2]? = some (.cells #[.slice none 0 0] 29 (0, 0)) by rw [hwC, ← hsB]; exact at_new _ _)
  have ct : (((w.alloc (.cells #[.slice A1 L1.length c1] 29)).alloc (.cells #[.slice A2 L2.length c2] 29)).alloc (.cells #[.slice none 0 0] 29)).cell? ⟨w.heap.size, 0, none⟩ = some (.slice A1 L1.length c1) := by rw [← hwA, ← hwB, ← hwC]; exact (blk_cell HT1.out 0).trans rfl
  have HP1 := Aside0.mk (h1 wC HBC.out)
  have HP2 := Aside0.mk h2
  have hpl : (ps.length : Int) ≤ 60 := by omega
  have hql : (qs.length : Int) ≤ 60 := by omega
  have HPQ := Aside0.mk (⟨hp, hq⟩ : ps.length ≤ 60 ∧ qs.length ≤ 60)
  clear h1 h2 hwA hwB hwC hsA hsB hBA hBB hp hq
  subst hok
  go_enter Try.func28, Try.ntmps28
  go_upto_region 2 with (go_at_call 47; rw [← HWA.out, ← HWB.out, ← HWC.out]; go_loud ((with_reducible refine HP1.out.mono ?_); rintro e w2 ⟨v2, rfl, ho2, hb2⟩; have HO2 := Aside0.mk ho2; have HB2 := Aside0.mk hb2; clear ho2 hb2))
  clear ct
  have HBw2 := Aside0.mk (HBC.out.trans (HB2.out.mono (by have := HSC.out; omega)))
  have HT22 := Aside0.mk ((HB2.out.block (w.heap.size + 1) (by have := HSC.out; omega)).trans HT2.out)
  have ct2 : w2.cell? ⟨w.heap.size + 1, 0, none⟩ = some (.slice A2 L2.length c2) := (blk_cell HT22.out 0).trans rfl
  go_upto_region 3 with (go_at_call 47; go_loud ((with_reducible refine (HP2.out _ HBw2.out).mono ?_); rintro e w3 ⟨v3, rfl, ho3, hb3⟩; have HO3 := Aside0.mk ho3; have HB3 := Aside0.mk hb3; clear ho3 hb3))
  clear ct2
  have HBw3 := Aside0.mk (HBw2.out.trans (HB3.out.mono (by have := HB2.out.size; have := HSC.out; omega)))
  have HTR3 := Aside0.mk ((HB3.out.block (w.heap.size + 2) (by have := HB2.out.size; have := HSC.out; omega)).trans ((HB2.out.block (w.heap.size + 2) (by have := HSC.out; omega)).trans HTR.out))
  have HO23 := Aside0.mk (Kd.R_below HO2.out HB3.out)
  obtain ⟨A3, c3, e3⟩ := Kd.R_slice HO23.out
  subst e3
  obtain ⟨A4, c4, e4⟩ := Kd.R_slice HO3.out
  subst e4
  have hw1 : IntKind.i64.wrap ((ps.length : Int) + (qs.length : Int)) = (ps.length : Int) + (qs.length : Int) := by rw [IntKind.wrap_i64]; omega
  have cr : w3.cell? ⟨w.heap.size + 2, 0, none⟩ = some (.slice none 0 0) := (blk_cell HTR3.out 0).trans rfl
  have fr : w3.frozen? ⟨w.heap.size + 2, 0, none⟩ = false := blk_frozen HTR3.out 0
  go_quiet (fail)
  go_wp2
  refine bodyPost_ret (results_ct rfl _ _ (w.heap.size + 2) 29 #[.slice none 0 0] (0, 0) _ rfl (blk_put (xblk_drewN HTR3.out _) 0 _ rfl) Try.underlying29 rfl (by kernel_rfl)) rfl ?_
  exact ⟨_, rfl, Kd.R_nil _ _ _ _ _, (pw_below_drewN HBw3.out _).setCell (p := ⟨w.heap.size + 2, 0, none⟩) (by show w.heap.size ≤ w.heap.size + 2; omega) _⟩
set_option maxHeartbeats 4000000 in
set_option maxRecDepth 100000 in
theorem joinS_n2 (L1 L2 : List Lb) (A1 A2 : Option Addr) (c1 c2 : Nat) (ps qs : List S74) (ok fine : Bool) (w : World)
    (h1 : ∀ W, Below w.heap.size w W → Calls Try.prog 47 #[.agg #[.slice A1 L1.length c1]] W fun e w' => ∃ v, e = .returned (.tuple #[v, .bool ok]) ∧ Kd.R k74 74 w' W.heap.size (fun _ => True) v ps ∧ Below W.heap.size W w')
    (h2 : ∀ W, Below w.heap.size w W → Calls Try.prog 47 #[.agg #[.slice A2 L2.length c2]] W fun e w' => ∃ v, e = .returned (.tuple #[v, .bool fine]) ∧ Kd.R k74 74 w' W.heap.size (fun _ => True) v qs ∧ Below W.heap.size W w')
    (hp : ps.length ≤ 60) (hq : qs.length ≤ 60) (hok : ok = true) (hfi : fine = false) :
    Calls Try.prog 28 #[.agg #[.slice A1 L1.length c1], .agg #[.slice A2 L2.length c2]] w fun e w' => ∃ v0_ : Value, e = .returned (.tuple #[.agg #[v0_], .bool false]) ∧ Kd.R k71 71 w' w.heap.size (fun _ => True) v0_ [] ∧ Below w.heap.size w w' := by
  obtain ⟨wA, hwA⟩ : ∃ wA, wA = w.alloc (.cells #[.slice A1 L1.length c1] 29) := ⟨_, rfl⟩
  obtain ⟨wB, hwB⟩ : ∃ wB, wB = wA.alloc (.cells #[.slice A2 L2.length c2] 29) := ⟨_, rfl⟩
  obtain ⟨wC, hwC⟩ : ∃ wC, wC = wB.alloc (.cells #[.slice none 0 0] 29) := ⟨_, rfl⟩
  have HWA := Aside0.mk hwA
  have HWB := Aside0.mk hwB
  have HWC := Aside0.mk hwC
  have hsA : wA.heap.size = w.heap.size + 1 := by rw [hwA]; exact new_size _ _
  have hsB : wB.heap.size = w.heap.size + 2 := by rw [hwB, new_size, hsA]
  have HSC := Aside0.mk (show wC.heap.size = w.heap.size + 3 by rw [hwC, new_size, hsB])
  have hBA : Below w.heap.size w wA := by rw [hwA]; exact below_alloc (Below.refl _ _) _
  have hBB : Below w.heap.size w wB := by rw [hwB]; exact below_alloc hBA _
  have HBC := Aside0.mk (show Below w.heap.size w wC by rw [hwC]; exact below_alloc hBB _)
  have HT1 := Aside0.mk (show wC.heap[w.heap.size]? = some (.cells #[.slice A1 L1.length c1] 29 (0, 0)) by rw [hwC]; exact xblk_alloc (by rw [hwB]; exact xblk_alloc (by rw [hwA]; exact at_new _ _) _) _)
  have HT2 := Aside0.mk (show wC.heap[w.heap.size + 1]? = some (.cells #[.slice A2 L2.length c2] 29 (0, 0)) by rw [hwC]; exact xblk_alloc (by rw [hwB, ← hsA]; exact at_new _ _) _)
  have HTR := Aside0.mk (show wC.heap[w.heap.size + 2]? = some (.cells #[.slice none 0 0] 29 (0, 0)) by rw [hwC, ← hsB]; exact at_new _ _)
  have ct : (((w.alloc (.cells #[.slice A1 L1.length c1] 29)).alloc (.cells #[.slice A2 L2.length c2] 29)).alloc (.cells #[.slice none 0 0] 29)).cell? ⟨w.heap.size, 0, none⟩ = some (.slice A1 L1.length c1) := by rw [← hwA, ← hwB, ← hwC]; exact (blk_cell HT1.out 0).trans rfl
  have HP1 := Aside0.mk (h1 wC HBC.out)
  have HP2 := Aside0.mk h2
  have hpl : (ps.length : Int) ≤ 60 := by omega
  have hql : (qs.length : Int) ≤ 60 := by omega
  have HPQ := Aside0.mk (⟨hp, hq⟩ : ps.length ≤ 60 ∧ qs.length ≤ 60)
  clear h1 h2 hwA hwB hwC hsA hsB hBA hBB hp hq
  subst hok hfi
  go_enter Try.func28, Try.ntmps28
  go_upto_region 2 with (go_at_call 47; rw [← HWA.out, ← HWB.out, ← HWC.out]; go_loud ((with_reducible refine HP1.out.mono ?_); rintro e w2 ⟨v2, rfl, ho2, hb2⟩; have HO2 := Aside0.mk ho2; have HB2 := Aside0.mk hb2; clear ho2 hb2))
  clear ct
  have HBw2 := Aside0.mk (HBC.out.trans (HB2.out.mono (by have := HSC.out; omega)))
  have HT22 := Aside0.mk ((HB2.out.block (w.heap.size + 1) (by have := HSC.out; omega)).trans HT2.out)
  have ct2 : w2.cell? ⟨w.heap.size + 1, 0, none⟩ = some (.slice A2 L2.length c2) := (blk_cell HT22.out 0).trans rfl
  go_upto_region 3 with (go_at_call 47; go_loud ((with_reducible refine (HP2.out _ HBw2.out).mono ?_); rintro e w3 ⟨v3, rfl, ho3, hb3⟩; have HO3 := Aside0.mk ho3; have HB3 := Aside0.mk hb3; clear ho3 hb3))
  clear ct2
  have HBw3 := Aside0.mk (HBw2.out.trans (HB3.out.mono (by have := HB2.out.size; have := HSC.out; omega)))
  have HTR3 := Aside0.mk ((HB3.out.block (w.heap.size + 2) (by have := HB2.out.size; have := HSC.out; omega)).trans ((HB2.out.block (w.heap.size + 2) (by have := HSC.out; omega)).trans HTR.out))
  have HO23 := Aside0.mk (Kd.R_below HO2.out HB3.out)
  obtain ⟨A3, c3, e3⟩ := Kd.R_slice HO23.out
  subst e3
  obtain ⟨A4, c4, e4⟩ := Kd.R_slice HO3.out
  subst e4
  have hw1 : IntKind.i64.wrap ((ps.length : Int) + (qs.length : Int)) = (ps.length : Int) + (qs.length : Int) := by rw [IntKind.wrap_i64]; omega
  have cr : w3.cell? ⟨w.heap.size + 2, 0, none⟩ = some (.slice none 0 0) := (blk_cell HTR3.out 0).trans rfl
  have fr : w3.frozen? ⟨w.heap.size + 2, 0, none⟩ = false := blk_frozen HTR3.out 0
  go_quiet (fail)
  go_wp2
  refine bodyPost_ret (results_ct rfl _ _ (w.heap.size + 2) 29 #[.slice none 0 0] (0, 0) _ rfl (blk_put (xblk_drewN HTR3.out _) 0 _ rfl) Try.underlying29 rfl (by kernel_rfl)) rfl ?_
  exact ⟨_, rfl, Kd.R_nil _ _ _ _ _, (pw_below_drewN HBw3.out _).setCell (p := ⟨w.heap.size + 2, 0, none⟩) (by show w.heap.size ≤ w.heap.size + 2; omega) _⟩
set_option maxHeartbeats 4000000 in
set_option maxRecDepth 100000 in
theorem joinS_n3 (L1 L2 : List Lb) (A1 A2 : Option Addr) (c1 c2 : Nat) (ps qs : List S74) (ok fine : Bool) (w : World)
    (h1 : ∀ W, Below w.heap.size w W → Calls Try.prog 47 #[.agg #[.slice A1 L1.length c1]] W fun e w' => ∃ v, e = .returned (.tuple #[v, .bool ok]) ∧ Kd.R k74 74 w' W.heap.size (fun _ => True) v ps ∧ Below W.heap.size W w')
    (h2 : ∀ W, Below w.heap.size w W → Calls Try.prog 47 #[.agg #[.slice A2 L2.length c2]] W fun e w' => ∃ v, e = .returned (.tuple #[v, .bool fine]) ∧ Kd.R k74 74 w' W.heap.size (fun _ => True) v qs ∧ Below W.heap.size W w')
    (hp : ps.length ≤ 60) (hq : qs.length ≤ 60) (hok : ok = true) (hfi : fine = true) (hbig : ¬ ps.length + qs.length ≤ 60) :
    Calls Try.prog 28 #[.agg #[.slice A1 L1.length c1], .agg #[.slice A2 L2.length c2]] w fun e w' => ∃ v0_ : Value, e = .returned (.tuple #[.agg #[v0_], .bool false]) ∧ Kd.R k71 71 w' w.heap.size (fun _ => True) v0_ [] ∧ Below w.heap.size w w' := by
  obtain ⟨wA, hwA⟩ : ∃ wA, wA = w.alloc (.cells #[.slice A1 L1.length c1] 29) := ⟨_, rfl⟩
  obtain ⟨wB, hwB⟩ : ∃ wB, wB = wA.alloc (.cells #[.slice A2 L2.length c2] 29) := ⟨_, rfl⟩
  obtain ⟨wC, hwC⟩ : ∃ wC, wC = wB.alloc (.cells #[.slice none 0 0] 29) := ⟨_, rfl⟩
  have HWA := Aside0.mk hwA
  have HWB := Aside0.mk hwB
  have HWC := Aside0.mk hwC
  have hsA : wA.heap.size = w.heap.size + 1 := by rw [hwA]; exact new_size _ _
  have hsB : wB.heap.size = w.heap.size + 2 := by rw [hwB, new_size, hsA]
  have HSC := Aside0.mk (show wC.heap.size = w.heap.size + 3 by rw [hwC, new_size, hsB])
  have hBA : Below w.heap.size w wA := by rw [hwA]; exact below_alloc (Below.refl _ _) _
  have hBB : Below w.heap.size w wB := by rw [hwB]; exact below_alloc hBA _
  have HBC := Aside0.mk (show Below w.heap.size w wC by rw [hwC]; exact below_alloc hBB _)
  have HT1 := Aside0.mk (show wC.heap[w.heap.size]? = some (.cells #[.slice A1 L1.length c1] 29 (0, 0)) by rw [hwC]; exact xblk_alloc (by rw [hwB]; exact xblk_alloc (by rw [hwA]; exact at_new _ _) _) _)
  have HT2 := Aside0.mk (show wC.heap[w.heap.size + 1]? = some (.cells #[.slice A2 L2.length c2] 29 (0, 0)) by rw [hwC]; exact xblk_alloc (by rw [hwB, ← hsA]; exact at_new _ _) _)
  have HTR := Aside0.mk (show wC.heap[w.heap.size + 2]? = some (.cells #[.slice none 0 0] 29 (0, 0)) by rw [hwC, ← hsB]; exact at_new _ _)
  have ct : (((w.alloc (.cells #[.slice A1 L1.length c1] 29)).alloc (.cells #[.slice A2 L2.length c2] 29)).alloc (.cells #[.slice none 0 0] 29)).cell? ⟨w.heap.size, 0, none⟩ = some (.slice A1 L1.length c1) := by rw [← hwA, ← hwB, ← hwC]; exact (blk_cell HT1.out 0).trans rfl
  have HP1 := Aside0.mk (h1 wC HBC.out)
  have HP2 := Aside0.mk h2
  have hpl : (ps.length : Int) ≤ 60 := by omega
  have hql : (qs.length : Int) ≤ 60 := by omega
  have HPQ := Aside0.mk (⟨hp, hq⟩ : ps.length ≤ 60 ∧ qs.length ≤ 60)
  clear h1 h2 hwA hwB hwC hsA hsB hBA hBB hp hq
  subst hok hfi
  have t1 : decide ((60 : Int) < (ps.length : Int) + (qs.length : Int)) = true := decide_eq_true (by omega)
  have t1' : (60 : Int) < (ps.length : Int) + (qs.length : Int) := by omega
  clear hbig
  go_enter Try.func28, Try.ntmps28
  go_upto_region 2 with (go_at_call 47; rw [← HWA.out, ← HWB.out, ← HWC.out]; go_loud ((with_reducible refine HP1.out.mono ?_); rintro e w2 ⟨v2, rfl, ho2, hb2⟩; have HO2 := Aside0.mk ho2; have HB2 := Aside0.mk hb2; clear ho2 hb2))
  clear ct
  have HBw2 := Aside0.mk (HBC.out.trans (HB2.out.mono (by have := HSC.out; omega)))
  have HT22 := Aside0.mk ((HB2.out.block (w.heap.size + 1) (by have := HSC.out; omega)).trans HT2.out)
  have ct2 : w2.cell? ⟨w.heap.size + 1, 0, none⟩ = some (.slice A2 L2.length c2) := (blk_cell HT22.out 0).trans rfl
  go_upto_region 3 with (go_at_call 47; go_loud ((with_reducible refine (HP2.out _ HBw2.out).mono ?_); rintro e w3 ⟨v3, rfl, ho3, hb3⟩; have HO3 := Aside0.mk ho3; have HB3 := Aside0.mk hb3; clear ho3 hb3))
  clear ct2
  have HBw3 := Aside0.mk (HBw2.out.trans (HB3.out.mono (by have := HB2.out.size; have := HSC.out; omega)))
  have HTR3 := Aside0.mk ((HB3.out.block (w.heap.size + 2) (by have := HB2.out.size; have := HSC.out; omega)).trans ((HB2.out.block (w.heap.size + 2) (by have := HSC.out; omega)).trans HTR.out))
  have HO23 := Aside0.mk (Kd.R_below HO2.out HB3.out)
  obtain ⟨A3, c3, e3⟩ := Kd.R_slice HO23.out
  subst e3
  obtain ⟨A4, c4, e4⟩ := Kd.R_slice HO3.out
  subst e4
  have hw1 : IntKind.i64.wrap ((ps.length : Int) + (qs.length : Int)) = (ps.length : Int) + (qs.length : Int) := by rw [IntKind.wrap_i64]; omega
  have cr : w3.cell? ⟨w.heap.size + 2, 0, none⟩ = some (.slice none 0 0) := (blk_cell HTR3.out 0).trans rfl
  have fr : w3.frozen? ⟨w.heap.size + 2, 0, none⟩ = false := blk_frozen HTR3.out 0
  go_quiet (fail)
  go_wp2
  refine bodyPost_ret (results_ct rfl _ _ (w.heap.size + 2) 29 #[.slice none 0 0] (0, 0) _ rfl (blk_put (xblk_drewN HTR3.out _) 0 _ rfl) Try.underlying29 rfl (by kernel_rfl)) rfl ?_
  exact ⟨_, rfl, Kd.R_nil _ _ _ _ _, (pw_below_drewN HBw3.out _).setCell (p := ⟨w.heap.size + 2, 0, none⟩) (by show w.heap.size ≤ w.heap.size + 2; omega) _⟩
set_option maxHeartbeats 4000000 in
set_option maxRecDepth 100000 in
theorem joinS_n4 (L1 L2 : List Lb) (A1 A2 : Option Addr) (c1 c2 : Nat) (ps qs : List S74) (ok fine : Bool) (w : World)
    (h1 : ∀ W, Below w.heap.size w W → Calls Try.prog 47 #[.agg #[.slice A1 L1.length c1]] W fun e w' => ∃ v, e = .returned (.tuple #[v, .bool ok]) ∧ Kd.R k74 74 w' W.heap.size (fun _ => True) v ps ∧ Below W.heap.size W w')
    (h2 : ∀ W, Below w.heap.size w W → Calls Try.prog 47 #[.agg #[.slice A2 L2.length c2]] W fun e w' => ∃ v, e = .returned (.tuple #[v, .bool fine]) ∧ Kd.R k74 74 w' W.heap.size (fun _ => True) v qs ∧ Below W.heap.size W w')
    (hp : ps.length ≤ 60) (hq : qs.length ≤ 60) (hok : ok = true) (hfi : fine = true) (hsum : ps.length + qs.length ≤ 60) (hx0 : ¬ ps.length = 0) (hy0 : ¬ qs.length = 0) (hge : Op.bytesLess (rd_T74 ps ((ps.length - 1 : Nat) : Int)).f0.toList (rd_T74 qs ((0 : Nat) : Int)).f0.toList = false) :
    Calls Try.prog 28 #[.agg #[.slice A1 L1.length c1], .agg #[.slice A2 L2.length c2]] w fun e w' => ∃ v0_ : Value, e = .returned (.tuple #[.agg #[v0_], .bool false]) ∧ Kd.R k71 71 w' w.heap.size (fun _ => True) v0_ [] ∧ Below w.heap.size w w' := by
  obtain ⟨wA, hwA⟩ : ∃ wA, wA = w.alloc (.cells #[.slice A1 L1.length c1] 29) := ⟨_, rfl⟩
  obtain ⟨wB, hwB⟩ : ∃ wB, wB = wA.alloc (.cells #[.slice A2 L2.length c2] 29) := ⟨_, rfl⟩
  obtain ⟨wC, hwC⟩ : ∃ wC, wC = wB.alloc (.cells #[.slice none 0 0] 29) := ⟨_, rfl⟩
  have HWA := Aside0.mk hwA
  have HWB := Aside0.mk hwB
  have HWC := Aside0.mk hwC
  have hsA : wA.heap.size = w.heap.size + 1 := by rw [hwA]; exact new_size _ _
  have hsB : wB.heap.size = w.heap.size + 2 := by rw [hwB, new_size, hsA]
  have HSC := Aside0.mk (show wC.heap.size = w.heap.size + 3 by rw [hwC, new_size, hsB])
  have hBA : Below w.heap.size w wA := by rw [hwA]; exact below_alloc (Below.refl _ _) _
  have hBB : Below w.heap.size w wB := by rw [hwB]; exact below_alloc hBA _
  have HBC := Aside0.mk (show Below w.heap.size w wC by rw [hwC]; exact below_alloc hBB _)
  have HT1 := Aside0.mk (show wC.heap[w.heap.size]? = some (.cells #[.slice A1 L1.length c1] 29 (0, 0)) by rw [hwC]; exact xblk_alloc (by rw [hwB]; exact xblk_alloc (by rw [hwA]; exact at_new _ _) _) _)
  have HT2 := Aside0.mk (show wC.heap[w.heap.size + 1]? = some (.cells #[.slice A2 L2.length c2] 29 (0, 0)) by rw [hwC]; exact xblk_alloc (by rw [hwB, ← hsA]; exact at_new _ _) _)
  have HTR := Aside0.mk (show wC.heap[w.heap.size + 2]? = some (.cells #[.slice none 0 0] 29 (0, 0)) by rw [hwC, ← hsB]; exact at_new _ _)
  have ct : (((w.alloc (.cells #[.slice A1 L1.length c1] 29)).alloc (.cells #[.slice A2 L2.length c2] 29)).alloc (.cells #[.slice none 0 0] 29)).cell? ⟨w.heap.size, 0, none⟩ = some (.slice A1 L1.length c1) := by rw [← hwA, ← hwB, ← hwC]; exact (blk_cell HT1.out 0).trans rfl
  have HP1 := Aside0.mk (h1 wC HBC.out)
  have HP2 := Aside0.mk h2
  have hpl : (ps.length : Int) ≤ 60 := by omega
  have hql : (qs.length : Int) ≤ 60 := by omega
  have HPQ := Aside0.mk (⟨hp, hq⟩ : ps.length ≤ 60 ∧ qs.length ≤ 60)
  clear h1 h2 hwA hwB hwC hsA hsB hBA hBB hp hq
  subst hok hfi
  have t1 : decide ((60 : Int) < (ps.length : Int) + (qs.length : Int)) = false := decide_eq_false (by omega)
  have t1' : ¬ (60 : Int) < (ps.length : Int) + (qs.length : Int) := by omega
  have HSUM := Aside0.mk hsum
  have t2 : decide ((0 : Int) < (ps.length : Int)) = true := decide_eq_true (by omega)
  have t2' :  (0 : Int) < (ps.length : Int) := by omega
  have t2n : decide (0 < ps.length) = true := decide_eq_true (by omega)
  have t2n' :  0 < ps.length := by omega
  have t3 : decide ((0 : Int) < (qs.length : Int)) = true := decide_eq_true (by omega)
  have t3' :  (0 : Int) < (qs.length : Int) := by omega
  have t3n : decide (0 < qs.length) = true := decide_eq_true (by omega)
  have t3n' :  0 < qs.length := by omega
  go_enter Try.func28, Try.ntmps28
  go_upto_region 2 with (go_at_call 47; rw [← HWA.out, ← HWB.out, ← HWC.out]; go_loud ((with_reducible refine HP1.out.mono ?_); rintro e w2 ⟨v2, rfl, ho2, hb2⟩; have HO2 := Aside0.mk ho2; have HB2 := Aside0.mk hb2; clear ho2 hb2))
  clear ct
  have HBw2 := Aside0.mk (HBC.out.trans (HB2.out.mono (by have := HSC.out; omega)))
  have HT22 := Aside0.mk ((HB2.out.block (w.heap.size + 1) (by have := HSC.out; omega)).trans HT2.out)
  have ct2 : w2.cell? ⟨w.heap.size + 1, 0, none⟩ = some (.slice A2 L2.length c2) := (blk_cell HT22.out 0).trans rfl
  go_upto_region 3 with (go_at_call 47; go_loud ((with_reducible refine (HP2.out _ HBw2.out).mono ?_); rintro e w3 ⟨v3, rfl, ho3, hb3⟩; have HO3 := Aside0.mk ho3; have HB3 := Aside0.mk hb3; clear ho3 hb3))
  clear ct2
  have HBw3 := Aside0.mk (HBw2.out.trans (HB3.out.mono (by have := HB2.out.size; have := HSC.out; omega)))
  have HTR3 := Aside0.mk ((HB3.out.block (w.heap.size + 2) (by have := HB2.out.size; have := HSC.out; omega)).trans ((HB2.out.block (w.heap.size + 2) (by have := HSC.out; omega)).trans HTR.out))
  have HO23 := Aside0.mk (Kd.R_below HO2.out HB3.out)
  obtain ⟨A3, c3, e3⟩ := Kd.R_slice HO23.out
  subst e3
  obtain ⟨A4, c4, e4⟩ := Kd.R_slice HO3.out
  subst e4
  have hw1 : IntKind.i64.wrap ((ps.length : Int) + (qs.length : Int)) = (ps.length : Int) + (qs.length : Int) := by rw [IntKind.wrap_i64]; omega
  obtain ⟨m, hm⟩ : ∃ m, m = ps.length - 1 := ⟨_, rfl⟩
  rw [← hm] at hge
  have hw2 : IntKind.i64.wrap ((ps.length : Int) - 1) = (m : Int) := by rw [IntKind.wrap_i64]; omega
  have hm0 : (m : Int) < (ps.length : Int) := by omega
  obtain ⟨a1, e1, x0, _⟩ := at_T74 (Kd.reads1 HO23.out) (m : Int) (by omega) (by omega)
  obtain ⟨a2, e2, y0, _⟩ := at_T74 (Kd.reads1 HO3.out) ((0 : Nat) : Int) (by omega) (by omega)
  rw [Int.toNat_natCast] at x0 y0
  rw [Nat.zero_mul] at y0
  have ez : a2.add 0 = a2 := rfl
  rw [ez] at y0
  subst e1 e2
  generalize (rd_T74 ps (m : Int)).f0 = k1 at *
  generalize (rd_T74 qs ((0 : Nat) : Int)).f0 = k2 at *
  clear hm ez
  clear hx0 hy0 hsum
  have cr : w3.cell? ⟨w.heap.size + 2, 0, none⟩ = some (.slice none 0 0) := (blk_cell HTR3.out 0).trans rfl
  have fr : w3.frozen? ⟨w.heap.size + 2, 0, none⟩ = false := blk_frozen HTR3.out 0
  go_quiet (fail)
  go_wp2
  refine bodyPost_ret (results_ct rfl _ _ (w.heap.size + 2) 29 #[.slice none 0 0] (0, 0) _ rfl (blk_put (xblk_drewN HTR3.out _) 0 _ rfl) Try.underlying29 rfl (by kernel_rfl)) rfl ?_
  exact ⟨_, rfl, Kd.R_nil _ _ _ _ _, (pw_below_drewN HBw3.out _).setCell (p := ⟨w.heap.size + 2, 0, none⟩) (by show w.heap.size ≤ w.heap.size + 2; omega) _⟩
set_option maxHeartbeats 4000000 in
set_option maxRecDepth 100000 in
theorem joinS_y1 (L1 L2 : List Lb) (A1 A2 : Option Addr) (c1 c2 : Nat) (ps qs : List S74) (ok fine : Bool) (w : World)
    (h1 : ∀ W, Below w.heap.size w W → Calls Try.prog 47 #[.agg #[.slice A1 L1.length c1]] W fun e w' => ∃ v, e = .returned (.tuple #[v, .bool ok]) ∧ Kd.R k74 74 w' W.heap.size (fun _ => True) v ps ∧ Below W.heap.size W w')
    (h2 : ∀ W, Below w.heap.size w W → Calls Try.prog 47 #[.agg #[.slice A2 L2.length c2]] W fun e w' => ∃ v, e = .returned (.tuple #[v, .bool fine]) ∧ Kd.R k74 74 w' W.heap.size (fun _ => True) v qs ∧ Below W.heap.size W w')
    (hp : ps.length ≤ 60) (hq : qs.length ≤ 60) (hok : ok = true) (hfi : fine = true) (hsum : ps.length + qs.length ≤ 60) (hx0 : ps.length = 0) (hks : ∀ i : Nat, i < (ps ++ qs).length → (rd_T74 (ps ++ qs) (i : Int)).f0.size ≤ 1048576) :
    Calls Try.prog 28 #[.agg #[.slice A1 L1.length c1], .agg #[.slice A2 L2.length c2]] w fun e w' => ∃ v0_ : Value, e = .returned (.tuple #[.agg #[v0_], .bool true]) ∧ Kd.R k71 71 w' w.heap.size (fun _ => True) v0_ (enc (ps.map BuS.kv ++ qs.map BuS.kv).length 0 (ps.map BuS.kv ++ qs.map BuS.kv)) ∧ Below w.heap.size w w' := by
  obtain ⟨wA, hwA⟩ : ∃ wA, wA = w.alloc (.cells #[.slice A1 L1.length c1] 29) := ⟨_, rfl⟩
  obtain ⟨wB, hwB⟩ : ∃ wB, wB = wA.alloc (.cells #[.slice A2 L2.length c2] 29) := ⟨_, rfl⟩
  obtain ⟨wC, hwC⟩ : ∃ wC, wC = wB.alloc (.cells #[.slice none 0 0] 29) := ⟨_, rfl⟩
  have HWA := Aside0.mk hwA
  have HWB := Aside0.mk hwB
  have HWC := Aside0.mk hwC
  have hsA : wA.heap.size = w.heap.size + 1 := by rw [hwA]; exact new_size _ _
  have hsB : wB.heap.size = w.heap.size + 2 := by rw [hwB, new_size, hsA]
  have HSC := Aside0.mk (show wC.heap.size = w.heap.size + 3 by rw [hwC, new_size, hsB])
  have hBA : Below w.heap.size w wA := by rw [hwA]; exact below_alloc (Below.refl _ _) _
  have hBB : Below w.heap.size w wB := by rw [hwB]; exact below_alloc hBA _
  have HBC := Aside0.mk (show Below w.heap.size w wC by rw [hwC]; exact below_alloc hBB _)
  have HT1 := Aside0.mk (show wC.heap[w.heap.size]? = some (.cells #[.slice A1 L1.length c1] 29 (0, 0)) by rw [hwC]; exact xblk_alloc (by rw [hwB]; exact xblk_alloc (by rw [hwA]; exact at_new _ _) _) _)
  have HT2 := Aside0.mk (show wC.heap[w.heap.size + 1]? = some (.cells #[.slice A2 L2.length c2] 29 (0, 0)) by rw [hwC]; exact xblk_alloc (by rw [hwB, ← hsA]; exact at_new _ _) _)
  have HTR := Aside0.mk (show wC.heap[w.heap.size + 2]? = some (.cells #[.slice none 0 0] 29 (0, 0)) by rw [hwC, ← hsB]; exact at_new _ _)
  have ct : (((w.alloc (.cells #[.slice A1 L1.length c1] 29)).alloc (.cells #[.slice A2 L2.length c2] 29)).alloc (.cells #[.slice none 0 0] 29)).cell? ⟨w.heap.size, 0, none⟩ = some (.slice A1 L1.length c1) := by rw [← hwA, ← hwB, ← hwC]; exact (blk_cell HT1.out 0).trans rfl
  have HP1 := Aside0.mk (h1 wC HBC.out)
  have HP2 := Aside0.mk h2
  have hpl : (ps.length : Int) ≤ 60 := by omega
  have hql : (qs.length : Int) ≤ 60 := by omega
  have HPQ := Aside0.mk (⟨hp, hq⟩ : ps.length ≤ 60 ∧ qs.length ≤ 60)
  clear h1 h2 hwA hwB hwC hsA hsB hBA hBB hp hq
  subst hok hfi
  obtain ⟨zs, hzs⟩ : ∃ zs, zs = enc (ps.map BuS.kv ++ qs.map BuS.kv).length 0 (ps.map BuS.kv ++ qs.map BuS.kv) := ⟨_, rfl⟩
  rw [← hzs]
  obtain ⟨rs, hrs⟩ : ∃ rs, rs = ps ++ qs := ⟨_, rfl⟩
  have HRS := Aside0.mk hrs
  rw [← hrs] at hks
  have HZ := Aside0.mk (show zs = enc rs.length 0 (rs.map BuS.kv) by rw [hzs, hrs, ← List.map_append, List.length_map])
  have HKS := Aside0.mk hks
  have HRL := Aside0.mk (show rs.length ≤ 1048576 by have := HPQ.out; rw [hrs, List.length_append]; omega)
  clear hzs hks hrs
  have t1 : decide ((60 : Int) < (ps.length : Int) + (qs.length : Int)) = false := decide_eq_false (by omega)
  have t1' : ¬ (60 : Int) < (ps.length : Int) + (qs.length : Int) := by omega
  have HSUM := Aside0.mk hsum
  have t2 : decide ((0 : Int) < (ps.length : Int)) = false := decide_eq_false (by omega)
  have t2' : ¬ (0 : Int) < (ps.length : Int) := by omega
  have t2n : decide (0 < ps.length) = false := decide_eq_false (by omega)
  have t2n' : ¬ 0 < ps.length := by omega
  go_enter Try.func28, Try.ntmps28
  go_upto_region 2 with (go_at_call 47; rw [← HWA.out, ← HWB.out, ← HWC.out]; go_loud ((with_reducible refine HP1.out.mono ?_); rintro e w2 ⟨v2, rfl, ho2, hb2⟩; have HO2 := Aside0.mk ho2; have HB2 := Aside0.mk hb2; clear ho2 hb2))
  clear ct
  have HBw2 := Aside0.mk (HBC.out.trans (HB2.out.mono (by have := HSC.out; omega)))
  have HT22 := Aside0.mk ((HB2.out.block (w.heap.size + 1) (by have := HSC.out; omega)).trans HT2.out)
  have ct2 : w2.cell? ⟨w.heap.size + 1, 0, none⟩ = some (.slice A2 L2.length c2) := (blk_cell HT22.out 0).trans rfl
  go_upto_region 3 with (go_at_call 47; go_loud ((with_reducible refine (HP2.out _ HBw2.out).mono ?_); rintro e w3 ⟨v3, rfl, ho3, hb3⟩; have HO3 := Aside0.mk ho3; have HB3 := Aside0.mk hb3; clear ho3 hb3))
  clear ct2
  have HBw3 := Aside0.mk (HBw2.out.trans (HB3.out.mono (by have := HB2.out.size; have := HSC.out; omega)))
  have HTR3 := Aside0.mk ((HB3.out.block (w.heap.size + 2) (by have := HB2.out.size; have := HSC.out; omega)).trans ((HB2.out.block (w.heap.size + 2) (by have := HSC.out; omega)).trans HTR.out))
  have HO23 := Aside0.mk (Kd.R_below HO2.out HB3.out)
  obtain ⟨A3, c3, e3⟩ := Kd.R_slice HO23.out
  subst e3
  obtain ⟨A4, c4, e4⟩ := Kd.R_slice HO3.out
  subst e4
  have hw1 : IntKind.i64.wrap ((ps.length : Int) + (qs.length : Int)) = (ps.length : Int) + (qs.length : Int) := by rw [IntKind.wrap_i64]; omega
  clear hx0 hsum
  go_quiet (fail)
  go_wp2_with (first
    | ((with_reducible refine gate_dst (N := 59) rfl ?_); refine Kd.R_lit k74 _ 74 ?hg (N := 59) ?hd (xs := ([] : List (S74))) (inner := []) (ok := fun _ => True) (okp := fun _ => True) ?hr ?hp (fun _ hk => hk) trivial (Below.refl _ _) (Nat.le_refl _) (by simp) ?_; (case hd => rfl); (case hg => rfl); (case hr => first | (go_simp; done) | (go_simp; rfl)); (case hp => exact (Reps.none _ _)); intro v4 w4 ho4 hb4 hg_ hn_; have HO4 := Aside0.mk (show Kd.R k74 74 w4 w3.heap.size (fun _ => True) v4 [] from ho4); have HB4 := Aside0.mk ((pw_below_drewN (Below.refl w3.heap.size w3) _).trans (show Below w3.heap.size _ w4 from hb4)); clear ho4 hb4 hg_ hn_)
    | ((with_reducible refine gate_builtin (b := .append) (xs := #[.tmp 59, .tmp 60]) rfl ?_); at_builtin; go_loud (refine Kd.R_append_rows k74 (Rr := (k74).K w4) (w0 := w3) w3.heap.size rfl (.tmp 59) (.tmp 60) 62 74 (.agg #[(.string ⟨#[]⟩), (.string ⟨#[]⟩)]) 32 rfl Try.underlying62 info74 rfl (by decide) (by decide) v4 [] ps A3 ps.length c3 (fun _ => True) (fun _ => False) rfl rfl HO4.out (Kd.C_below (Kd.reads1 HO23.out) HB4.out) (fun p cs h => by rw [k74_open h]; exact k74_mkM _ _ _ _) (fun _ h => h.elim) (fun _ _ => trivial) HB4.out HB4.out.size (by have := HPQ.out; simp; omega) ?_; intro v5 w5 ho5 hb5 hg5 hat5; have HO5 := Aside0.mk ho5; have HB5 := Aside0.mk hb5; clear ho5 hb5 hg5 hat5))
    | ((with_reducible refine gate_builtin (b := .append) (xs := #[.tmp 61, .tmp 62]) rfl ?_); at_builtin; go_loud (refine Kd.R_append_rows k74 (Rr := (k74).K w5) (w0 := w3) w3.heap.size rfl (.tmp 61) (.tmp 62) 62 74 (.agg #[(.string ⟨#[]⟩), (.string ⟨#[]⟩)]) 32 rfl Try.underlying62 info74 rfl (by decide) (by decide) v5 ([] ++ ps) qs A4 qs.length c4 (fun _ => True) (fun _ => False) rfl rfl HO5.out (Kd.C_below (Kd.reads1 HO3.out) HB5.out) (fun p cs h => by rw [k74_open h]; exact k74_mkM _ _ _ _) (fun _ h => h.elim) (fun _ _ => trivial) HB5.out HB5.out.size (by have := HPQ.out; simp; omega) ?_; intro v6 w6 ho6 hb6 hg6 hat6; rw [List.nil_append, ← HRS.out] at ho6; obtain ⟨A6, c6, e6⟩ := Kd.R_slice ho6; subst e6; have HB6 := Aside0.mk hb6; have HT6 := Aside0.mk (Tr.treapS rs A6 c6 w6 (Kd.reads1 ho6) (Kd.reads2 ho6) HRL.out HKS.out); clear ho6 hb6 hg6 hat6))
    | (go_at_call 56; go_loud ((with_reducible refine HT6.out.mono ?_); rintro e w7 ⟨v7, rfl, ho7, hb7⟩; rw [← HZ.out] at ho7; obtain ⟨A7, c7, e7⟩ := Kd.R_slice ho7; subst e7; have HO7 := Aside0.mk ho7; have HB7 := Aside0.mk hb7; have HR7 := Aside0.mk ((hb7.block (w.heap.size + 2) (by have := HB6.out.size; have := HB3.out.size; have := HB2.out.size; have := HSC.out; omega)).trans ((HB6.out.block (w.heap.size + 2) (by have := HB3.out.size; have := HB2.out.size; have := HSC.out; omega)).trans HTR3.out)); have cr : w7.cell? ⟨w.heap.size + 2, 0, none⟩ = some (.slice none 0 0) := (blk_cell HR7.out 0).trans rfl; have fr : w7.frozen? ⟨w.heap.size + 2, 0, none⟩ = false := blk_frozen HR7.out 0; clear ho7 hb7)))
  refine bodyPost_ret (results_ct rfl _ _ (w.heap.size + 2) 29 #[.slice A7 zs.length c7] (0, 0) _ rfl (blk_put HR7.out 0 _ rfl) Try.underlying29 rfl (by kernel_rfl)) rfl ?_
  have hs5 : w.heap.size + 3 ≤ w6.heap.size := by have := HB6.out.size; have := HB3.out.size; have := HB2.out.size; have := HSC.out; omega
  have HBw := (HBw3.out.trans (HB6.out.mono (by have := HB3.out.size; have := HB2.out.size; have := HSC.out; omega))).trans (HB7.out.mono (by omega))
  refine ⟨_, rfl, ?_, HBw.setCell (p := ⟨w.heap.size + 2, 0, none⟩) (by show w.heap.size ≤ w.heap.size + 2; omega) _⟩
  have h1 := Kd.R_far (p := ⟨w.heap.size + 2, 0, none⟩) (Kd.R_bound HO7.out) (fun k hk => by have h1 := hk.2.1; show k ≠ w.heap.size + 2; omega) (.slice A7 zs.length c7)
  exact Kd.R_mono (Kd.R_lower h1 (by omega)) (fun _ _ => trivial)
set_option maxHeartbeats 4000000 in
set_option maxRecDepth 100000 in
theorem joinS_y2 (L1 L2 : List Lb) (A1 A2 : Option Addr) (c1 c2 : Nat) (ps qs : List S74) (ok fine : Bool) (w : World)
    (h1 : ∀ W, Below w.heap.size w W → Calls Try.prog 47 #[.agg #[.slice A1 L1.length c1]] W fun e w' => ∃ v, e = .returned (.tuple #[v, .bool ok]) ∧ Kd.R k74 74 w' W.heap.size (fun _ => True) v ps ∧ Below W.heap.size W w')
    (h2 : ∀ W, Below w.heap.size w W → Calls Try.prog 47 #[.agg #[.slice A2 L2.length c2]] W fun e w' => ∃ v, e = .returned (.tuple #[v, .bool fine]) ∧ Kd.R k74 74 w' W.heap.size (fun _ => True) v qs ∧ Below W.heap.size W w')
    (hp : ps.length ≤ 60) (hq : qs.length ≤ 60) (hok : ok = true) (hfi : fine = true) (hsum : ps.length + qs.length ≤ 60) (hx0 : ¬ ps.length = 0) (hy0 : qs.length = 0) (hks : ∀ i : Nat, i < (ps ++ qs).length → (rd_T74 (ps ++ qs) (i : Int)).f0.size ≤ 1048576) :
    Calls Try.prog 28 #[.agg #[.slice A1 L1.length c1], .agg #[.slice A2 L2.length c2]] w fun e w' => ∃ v0_ : Value, e = .returned (.tuple #[.agg #[v0_], .bool true]) ∧ Kd.R k71 71 w' w.heap.size (fun _ => True) v0_ (enc (ps.map BuS.kv ++ qs.map BuS.kv).length 0 (ps.map BuS.kv ++ qs.map BuS.kv)) ∧ Below w.heap.size w w' := by
  obtain ⟨wA, hwA⟩ : ∃ wA, wA = w.alloc (.cells #[.slice A1 L1.length c1] 29) := ⟨_, rfl⟩
  obtain ⟨wB, hwB⟩ : ∃ wB, wB = wA.alloc (.cells #[.slice A2 L2.length c2] 29) := ⟨_, rfl⟩
  obtain ⟨wC, hwC⟩ : ∃ wC, wC = wB.alloc (.cells #[.slice none 0 0] 29) := ⟨_, rfl⟩
  have HWA := Aside0.mk hwA
  have HWB := Aside0.mk hwB
  have HWC := Aside0.mk hwC
  have hsA : wA.heap.size = w.heap.size + 1 := by rw [hwA]; exact new_size _ _
  have hsB : wB.heap.size = w.heap.size + 2 := by rw [hwB, new_size, hsA]
  have HSC := Aside0.mk (show wC.heap.size = w.heap.size + 3 by rw [hwC, new_size, hsB])
  have hBA : Below w.heap.size w wA := by rw [hwA]; exact below_alloc (Below.refl _ _) _
  have hBB : Below w.heap.size w wB := by rw [hwB]; exact below_alloc hBA _
  have HBC := Aside0.mk (show Below w.heap.size w wC by rw [hwC]; exact below_alloc hBB _)
  have HT1 := Aside0.mk (show wC.heap[w.heap.size]? = some (.cells #[.slice A1 L1.length c1] 29 (0, 0)) by rw [hwC]; exact xblk_alloc (by rw [hwB]; exact xblk_alloc (by rw [hwA]; exact at_new _ _) _) _)
  have HT2 := Aside0.mk (show wC.heap[w.heap.size + 1]? = some (.cells #[.slice A2 L2.length c2] 29 (0, 0)) by rw [hwC]; exact xblk_alloc (by rw [hwB, ← hsA]; exact at_new _ _) _)
  have HTR := Aside0.mk (show wC.heap[w.heap.size + 2]? = some (.cells #[.slice none 0 0] 29 (0, 0)) by rw [hwC, ← hsB]; exact at_new _ _)
  have ct : (((w.alloc (.cells #[.slice A1 L1.length c1] 29)).alloc (.cells #[.slice A2 L2.length c2] 29)).alloc (.cells #[.slice none 0 0] 29)).cell? ⟨w.heap.size, 0, none⟩ = some (.slice A1 L1.length c1) := by rw [← hwA, ← hwB, ← hwC]; exact (blk_cell HT1.out 0).trans rfl
  have HP1 := Aside0.mk (h1 wC HBC.out)
  have HP2 := Aside0.mk h2
  have hpl : (ps.length : Int) ≤ 60 := by omega
  have hql : (qs.length : Int) ≤ 60 := by omega
  have HPQ := Aside0.mk (⟨hp, hq⟩ : ps.length ≤ 60 ∧ qs.length ≤ 60)
  clear h1 h2 hwA hwB hwC hsA hsB hBA hBB hp hq
  subst hok hfi
  obtain ⟨zs, hzs⟩ : ∃ zs, zs = enc (ps.map BuS.kv ++ qs.map BuS.kv).length 0 (ps.map BuS.kv ++ qs.map BuS.kv) := ⟨_, rfl⟩
  rw [← hzs]
  obtain ⟨rs, hrs⟩ : ∃ rs, rs = ps ++ qs := ⟨_, rfl⟩
  have HRS := Aside0.mk hrs
  rw [← hrs] at hks
  have HZ := Aside0.mk (show zs = enc rs.length 0 (rs.map BuS.kv) by rw [hzs, hrs, ← List.map_append, List.length_map])
  have HKS := Aside0.mk hks
  have HRL := Aside0.mk (show rs.length ≤ 1048576 by have := HPQ.out; rw [hrs, List.length_append]; omega)
  clear hzs hks hrs
  have t1 : decide ((60 : Int) < (ps.length : Int) + (qs.length : Int)) = false := decide_eq_false (by omega)
  have t1' : ¬ (60 : Int) < (ps.length : Int) + (qs.length : Int) := by omega
  have HSUM := Aside0.mk hsum
  have t2 : decide ((0 : Int) < (ps.length : Int)) = true := decide_eq_true (by omega)
  have t2' :  (0 : Int) < (ps.length : Int) := by omega
  have t2n : decide (0 < ps.length) = true := decide_eq_true (by omega)
  have t2n' :  0 < ps.length := by omega
  have t3 : decide ((0 : Int) < (qs.length : Int)) = false := decide_eq_false (by omega)
  have t3' : ¬ (0 : Int) < (qs.length : Int) := by omega
  have t3n : decide (0 < qs.length) = false := decide_eq_false (by omega)
  have t3n' : ¬ 0 < qs.length := by omega
  go_enter Try.func28, Try.ntmps28
  go_upto_region 2 with (go_at_call 47; rw [← HWA.out, ← HWB.out, ← HWC.out]; go_loud ((with_reducible refine HP1.out.mono ?_); rintro e w2 ⟨v2, rfl, ho2, hb2⟩; have HO2 := Aside0.mk ho2; have HB2 := Aside0.mk hb2; clear ho2 hb2))
  clear ct
  have HBw2 := Aside0.mk (HBC.out.trans (HB2.out.mono (by have := HSC.out; omega)))
  have HT22 := Aside0.mk ((HB2.out.block (w.heap.size + 1) (by have := HSC.out; omega)).trans HT2.out)
  have ct2 : w2.cell? ⟨w.heap.size + 1, 0, none⟩ = some (.slice A2 L2.length c2) := (blk_cell HT22.out 0).trans rfl
  go_upto_region 3 with (go_at_call 47; go_loud ((with_reducible refine (HP2.out _ HBw2.out).mono ?_); rintro e w3 ⟨v3, rfl, ho3, hb3⟩; have HO3 := Aside0.mk ho3; have HB3 := Aside0.mk hb3; clear ho3 hb3))
  clear ct2
  have HBw3 := Aside0.mk (HBw2.out.trans (HB3.out.mono (by have := HB2.out.size; have := HSC.out; omega)))
  have HTR3 := Aside0.mk ((HB3.out.block (w.heap.size + 2) (by have := HB2.out.size; have := HSC.out; omega)).trans ((HB2.out.block (w.heap.size + 2) (by have := HSC.out; omega)).trans HTR.out))
  have HO23 := Aside0.mk (Kd.R_below HO2.out HB3.out)
  obtain ⟨A3, c3, e3⟩ := Kd.R_slice HO23.out
  subst e3
  obtain ⟨A4, c4, e4⟩ := Kd.R_slice HO3.out
  subst e4
  have hw1 : IntKind.i64.wrap ((ps.length : Int) + (qs.length : Int)) = (ps.length : Int) + (qs.length : Int) := by rw [IntKind.wrap_i64]; omega
  clear hx0 hy0 hsum
  go_quiet (fail)
  go_wp2_with (first
    | ((with_reducible refine gate_dst (N := 59) rfl ?_); refine Kd.R_lit k74 _ 74 ?hg (N := 59) ?hd (xs := ([] : List (S74))) (inner := []) (ok := fun _ => True) (okp := fun _ => True) ?hr ?hp (fun _ hk => hk) trivial (Below.refl _ _) (Nat.le_refl _) (by simp) ?_; (case hd => rfl); (case hg => rfl); (case hr => first | (go_simp; done) | (go_simp; rfl)); (case hp => exact (Reps.none _ _)); intro v4 w4 ho4 hb4 hg_ hn_; have HO4 := Aside0.mk (show Kd.R k74 74 w4 w3.heap.size (fun _ => True) v4 [] from ho4); have HB4 := Aside0.mk ((pw_below_drewN (Below.refl w3.heap.size w3) _).trans (show Below w3.heap.size _ w4 from hb4)); clear ho4 hb4 hg_ hn_)
    | ((with_reducible refine gate_builtin (b := .append) (xs := #[.tmp 59, .tmp 60]) rfl ?_); at_builtin; go_loud (refine Kd.R_append_rows k74 (Rr := (k74).K w4) (w0 := w3) w3.heap.size rfl (.tmp 59) (.tmp 60) 62 74 (.agg #[(.string ⟨#[]⟩), (.string ⟨#[]⟩)]) 32 rfl Try.underlying62 info74 rfl (by decide) (by decide) v4 [] ps A3 ps.length c3 (fun _ => True) (fun _ => False) rfl rfl HO4.out (Kd.C_below (Kd.reads1 HO23.out) HB4.out) (fun p cs h => by rw [k74_open h]; exact k74_mkM _ _ _ _) (fun _ h => h.elim) (fun _ _ => trivial) HB4.out HB4.out.size (by have := HPQ.out; simp; omega) ?_; intro v5 w5 ho5 hb5 hg5 hat5; have HO5 := Aside0.mk ho5; have HB5 := Aside0.mk hb5; clear ho5 hb5 hg5 hat5))
    | ((with_reducible refine gate_builtin (b := .append) (xs := #[.tmp 61, .tmp 62]) rfl ?_); at_builtin; go_loud (refine Kd.R_append_rows k74 (Rr := (k74).K w5) (w0 := w3) w3.heap.size rfl (.tmp 61) (.tmp 62) 62 74 (.agg #[(.string ⟨#[]⟩), (.string ⟨#[]⟩)]) 32 rfl Try.underlying62 info74 rfl (by decide) (by decide) v5 ([] ++ ps) qs A4 qs.length c4 (fun _ => True) (fun _ => False) rfl rfl HO5.out (Kd.C_below (Kd.reads1 HO3.out) HB5.out) (fun p cs h => by rw [k74_open h]; exact k74_mkM _ _ _ _) (fun _ h => h.elim) (fun _ _ => trivial) HB5.out HB5.out.size (by have := HPQ.out; simp; omega) ?_; intro v6 w6 ho6 hb6 hg6 hat6; rw [List.nil_append, ← HRS.out] at ho6; obtain ⟨A6, c6, e6⟩ := Kd.R_slice ho6; subst e6; have HB6 := Aside0.mk hb6; have HT6 := Aside0.mk (Tr.treapS rs A6 c6 w6 (Kd.reads1 ho6) (Kd.reads2 ho6) HRL.out HKS.out); clear ho6 hb6 hg6 hat6))
    | (go_at_call 56; go_loud ((with_reducible refine HT6.out.mono ?_); rintro e w7 ⟨v7, rfl, ho7, hb7⟩; rw [← HZ.out] at ho7; obtain ⟨A7, c7, e7⟩ := Kd.R_slice ho7; subst e7; have HO7 := Aside0.mk ho7; have HB7 := Aside0.mk hb7; have HR7 := Aside0.mk ((hb7.block (w.heap.size + 2) (by have := HB6.out.size; have := HB3.out.size; have := HB2.out.size; have := HSC.out; omega)).trans ((HB6.out.block (w.heap.size + 2) (by have := HB3.out.size; have := HB2.out.size; have := HSC.out; omega)).trans HTR3.out)); have cr : w7.cell? ⟨w.heap.size + 2, 0, none⟩ = some (.slice none 0 0) := (blk_cell HR7.out 0).trans rfl; have fr : w7.frozen? ⟨w.heap.size + 2, 0, none⟩ = false := blk_frozen HR7.out 0; clear ho7 hb7)))
  refine bodyPost_ret (results_ct rfl _ _ (w.heap.size + 2) 29 #[.slice A7 zs.length c7] (0, 0) _ rfl (blk_put HR7.out 0 _ rfl) Try.underlying29 rfl (by kernel_rfl)) rfl ?_
  have hs5 : w.heap.size + 3 ≤ w6.heap.size := by have := HB6.out.size; have := HB3.out.size; have := HB2.out.size; have := HSC.out; omega
  have HBw := (HBw3.out.trans (HB6.out.mono (by have := HB3.out.size; have := HB2.out.size; have := HSC.out; omega))).trans (HB7.out.mono (by omega))
  refine ⟨_, rfl, ?_, HBw.setCell (p := ⟨w.heap.size + 2, 0, none⟩) (by show w.heap.size ≤ w.heap.size + 2; omega) _⟩
  have h1 := Kd.R_far (p := ⟨w.heap.size + 2, 0, none⟩) (Kd.R_bound HO7.out) (fun k hk => by have h1 := hk.2.1; show k ≠ w.heap.size + 2; omega) (.slice A7 zs.length c7)
  exact Kd.R_mono (Kd.R_lower h1 (by omega)) (fun _ _ => trivial)
set_option maxHeartbeats 4000000 in
set_option maxRecDepth 100000 in
theorem joinS_y3 (L1 L2 : List Lb) (A1 A2 : Option Addr) (c1 c2 : Nat) (ps qs : List S74) (ok fine : Bool) (w : World)
    (h1 : ∀ W, Below w.heap.size w W → Calls Try.prog 47 #[.agg #[.slice A1 L1.length c1]] W fun e w' => ∃ v, e = .returned (.tuple #[v, .bool ok]) ∧ Kd.R k74 74 w' W.heap.size (fun _ => True) v ps ∧ Below W.heap.size W w')
    (h2 : ∀ W, Below w.heap.size w W → Calls Try.prog 47 #[.agg #[.slice A2 L2.length c2]] W fun e w' => ∃ v, e = .returned (.tuple #[v, .bool fine]) ∧ Kd.R k74 74 w' W.heap.size (fun _ => True) v qs ∧ Below W.heap.size W w')
    (hp : ps.length ≤ 60) (hq : qs.length ≤ 60) (hok : ok = true) (hfi : fine = true) (hsum : ps.length + qs.length ≤ 60) (hx0 : ¬ ps.length = 0) (hy0 : ¬ qs.length = 0) (hge : Op.bytesLess (rd_T74 ps ((ps.length - 1 : Nat) : Int)).f0.toList (rd_T74 qs ((0 : Nat) : Int)).f0.toList = true) (hks : ∀ i : Nat, i < (ps ++ qs).length → (rd_T74 (ps ++ qs) (i : Int)).f0.size ≤ 1048576) :
    Calls Try.prog 28 #[.agg #[.slice A1 L1.length c1], .agg #[.slice A2 L2.length c2]] w fun e w' => ∃ v0_ : Value, e = .returned (.tuple #[.agg #[v0_], .bool true]) ∧ Kd.R k71 71 w' w.heap.size (fun _ => True) v0_ (enc (ps.map BuS.kv ++ qs.map BuS.kv).length 0 (ps.map BuS.kv ++ qs.map BuS.kv)) ∧ Below w.heap.size w w' := by
  obtain ⟨wA, hwA⟩ : ∃ wA, wA = w.alloc (.cells #[.slice A1 L1.length c1] 29) := ⟨_, rfl⟩
  obtain ⟨wB, hwB⟩ : ∃ wB, wB = wA.alloc (.cells #[.slice A2 L2.length c2] 29) := ⟨_, rfl⟩
  obtain ⟨wC, hwC⟩ : ∃ wC, wC = wB.alloc (.cells #[.slice none 0 0] 29) := ⟨_, rfl⟩
  have HWA := Aside0.mk hwA
  have HWB := Aside0.mk hwB
  have HWC := Aside0.mk hwC
  have hsA : wA.heap.size = w.heap.size + 1 := by rw [hwA]; exact new_size _ _
  have hsB : wB.heap.size = w.heap.size + 2 := by rw [hwB, new_size, hsA]
  have HSC := Aside0.mk (show wC.heap.size = w.heap.size + 3 by rw [hwC, new_size, hsB])
  have hBA : Below w.heap.size w wA := by rw [hwA]; exact below_alloc (Below.refl _ _) _
  have hBB : Below w.heap.size w wB := by rw [hwB]; exact below_alloc hBA _
  have HBC := Aside0.mk (show Below w.heap.size w wC by rw [hwC]; exact below_alloc hBB _)
  have HT1 := Aside0.mk (show wC.heap[w.heap.size]? = some (.cells #[.slice A1 L1.length c1] 29 (0, 0)) by rw [hwC]; exact xblk_alloc (by rw [hwB]; exact xblk_alloc (by rw [hwA]; exact at_new _ _) _) _)
  have HT2 := Aside0.mk (show wC.heap[w.heap.size + 1]? = some (.cells #[.slice A2 L2.length c2] 29 (0, 0)) by rw [hwC]; exact xblk_alloc (by rw [hwB, ← hsA]; exact at_new _ _) _)
  have HTR := Aside0.mk (show wC.heap[w.heap.size + 2]? = some (.cells #[.slice none 0 0] 29 (0, 0)) by rw [hwC, ← hsB]; exact at_new _ _)
  have ct : (((w.alloc (.cells #[.slice A1 L1.length c1] 29)).alloc (.cells #[.slice A2 L2.length c2] 29)).alloc (.cells #[.slice none 0 0] 29)).cell? ⟨w.heap.size, 0, none⟩ = some (.slice A1 L1.length c1) := by rw [← hwA, ← hwB, ← hwC]; exact (blk_cell HT1.out 0).trans rfl
  have HP1 := Aside0.mk (h1 wC HBC.out)
  have HP2 := Aside0.mk h2
  have hpl : (ps.length : Int) ≤ 60 := by omega
  have hql : (qs.length : Int) ≤ 60 := by omega
  have HPQ := Aside0.mk (⟨hp, hq⟩ : ps.length ≤ 60 ∧ qs.length ≤ 60)
  clear h1 h2 hwA hwB hwC hsA hsB hBA hBB hp hq
  subst hok hfi
  obtain ⟨zs, hzs⟩ : ∃ zs, zs = enc (ps.map BuS.kv ++ qs.map BuS.kv).length 0 (ps.map BuS.kv ++ qs.map BuS.kv) := ⟨_, rfl⟩
  rw [← hzs]
  obtain ⟨rs, hrs⟩ : ∃ rs, rs = ps ++ qs := ⟨_, rfl⟩
  have HRS := Aside0.mk hrs
  rw [← hrs] at hks
  have HZ := Aside0.mk (show zs = enc rs.length 0 (rs.map BuS.kv) by rw [hzs, hrs, ← List.map_append, List.length_map])
  have HKS := Aside0.mk hks
  have HRL := Aside0.mk (show rs.length ≤ 1048576 by have := HPQ.out; rw [hrs, List.length_append]; omega)
  clear hzs hks hrs
  have t1 : decide ((60 : Int) < (ps.length : Int) + (qs.length : Int)) = false := decide_eq_false (by omega)
  have t1' : ¬ (60 : Int) < (ps.length : Int) + (qs.length : Int) := by omega
  have HSUM := Aside0.mk hsum
  have t2 : decide ((0 : Int) < (ps.length : Int)) = true := decide_eq_true (by omega)
  have t2' :  (0 : Int) < (ps.length : Int) := by omega
  have t2n : decide (0 < ps.length) = true := decide_eq_true (by omega)
  have t2n' :  0 < ps.length := by omega
  have t3 : decide ((0 : Int) < (qs.length : Int)) = true := decide_eq_true (by omega)
  have t3' :  (0 : Int) < (qs.length : Int) := by omega
  have t3n : decide (0 < qs.length) = true := decide_eq_true (by omega)
  have t3n' :  0 < qs.length := by omega
  go_enter Try.func28, Try.ntmps28
  go_upto_region 2 with (go_at_call 47; rw [← HWA.out, ← HWB.out, ← HWC.out]; go_loud ((with_reducible refine HP1.out.mono ?_); rintro e w2 ⟨v2, rfl, ho2, hb2⟩; have HO2 := Aside0.mk ho2; have HB2 := Aside0.mk hb2; clear ho2 hb2))
  clear ct
  have HBw2 := Aside0.mk (HBC.out.trans (HB2.out.mono (by have := HSC.out; omega)))
  have HT22 := Aside0.mk ((HB2.out.block (w.heap.size + 1) (by have := HSC.out; omega)).trans HT2.out)
  have ct2 : w2.cell? ⟨w.heap.size + 1, 0, none⟩ = some (.slice A2 L2.length c2) := (blk_cell HT22.out 0).trans rfl
  go_upto_region 3 with (go_at_call 47; go_loud ((with_reducible refine (HP2.out _ HBw2.out).mono ?_); rintro e w3 ⟨v3, rfl, ho3, hb3⟩; have HO3 := Aside0.mk ho3; have HB3 := Aside0.mk hb3; clear ho3 hb3))
  clear ct2
  have HBw3 := Aside0.mk (HBw2.out.trans (HB3.out.mono (by have := HB2.out.size; have := HSC.out; omega)))
  have HTR3 := Aside0.mk ((HB3.out.block (w.heap.size + 2) (by have := HB2.out.size; have := HSC.out; omega)).trans ((HB2.out.block (w.heap.size + 2) (by have := HSC.out; omega)).trans HTR.out))
  have HO23 := Aside0.mk (Kd.R_below HO2.out HB3.out)
  obtain ⟨A3, c3, e3⟩ := Kd.R_slice HO23.out
  subst e3
  obtain ⟨A4, c4, e4⟩ := Kd.R_slice HO3.out
  subst e4
  have hw1 : IntKind.i64.wrap ((ps.length : Int) + (qs.length : Int)) = (ps.length : Int) + (qs.length : Int) := by rw [IntKind.wrap_i64]; omega
  obtain ⟨m, hm⟩ : ∃ m, m = ps.length - 1 := ⟨_, rfl⟩
  rw [← hm] at hge
  have hw2 : IntKind.i64.wrap ((ps.length : Int) - 1) = (m : Int) := by rw [IntKind.wrap_i64]; omega
  have hm0 : (m : Int) < (ps.length : Int) := by omega
  obtain ⟨a1, e1, x0, _⟩ := at_T74 (Kd.reads1 HO23.out) (m : Int) (by omega) (by omega)
  obtain ⟨a2, e2, y0, _⟩ := at_T74 (Kd.reads1 HO3.out) ((0 : Nat) : Int) (by omega) (by omega)
  rw [Int.toNat_natCast] at x0 y0
  rw [Nat.zero_mul] at y0
  have ez : a2.add 0 = a2 := rfl
  rw [ez] at y0
  subst e1 e2
  generalize (rd_T74 ps (m : Int)).f0 = k1 at *
  generalize (rd_T74 qs ((0 : Nat) : Int)).f0 = k2 at *
  clear hm ez
  clear hx0 hy0 hsum
  go_quiet (fail)
  go_wp2_with (first
    | ((with_reducible refine gate_dst (N := 59) rfl ?_); refine Kd.R_lit k74 _ 74 ?hg (N := 59) ?hd (xs := ([] : List (S74))) (inner := []) (ok := fun _ => True) (okp := fun _ => True) ?hr ?hp (fun _ hk => hk) trivial (Below.refl _ _) (Nat.le_refl _) (by simp) ?_; (case hd => rfl); (case hg => rfl); (case hr => first | (go_simp; done) | (go_simp; rfl)); (case hp => exact (Reps.none _ _)); intro v4 w4 ho4 hb4 hg_ hn_; have HO4 := Aside0.mk (show Kd.R k74 74 w4 w3.heap.size (fun _ => True) v4 [] from ho4); have HB4 := Aside0.mk ((pw_below_drewN (Below.refl w3.heap.size w3) _).trans (show Below w3.heap.size _ w4 from hb4)); clear ho4 hb4 hg_ hn_)
    | ((with_reducible refine gate_builtin (b := .append) (xs := #[.tmp 59, .tmp 60]) rfl ?_); at_builtin; go_loud (refine Kd.R_append_rows k74 (Rr := (k74).K w4) (w0 := w3) w3.heap.size rfl (.tmp 59) (.tmp 60) 62 74 (.agg #[(.string ⟨#[]⟩), (.string ⟨#[]⟩)]) 32 rfl Try.underlying62 info74 rfl (by decide) (by decide) v4 [] ps (some a1) ps.length c3 (fun _ => True) (fun _ => False) rfl rfl HO4.out (Kd.C_below (Kd.reads1 HO23.out) HB4.out) (fun p cs h => by rw [k74_open h]; exact k74_mkM _ _ _ _) (fun _ h => h.elim) (fun _ _ => trivial) HB4.out HB4.out.size (by have := HPQ.out; simp; omega) ?_; intro v5 w5 ho5 hb5 hg5 hat5; have HO5 := Aside0.mk ho5; have HB5 := Aside0.mk hb5; clear ho5 hb5 hg5 hat5))
    | ((with_reducible refine gate_builtin (b := .append) (xs := #[.tmp 61, .tmp 62]) rfl ?_); at_builtin; go_loud (refine Kd.R_append_rows k74 (Rr := (k74).K w5) (w0 := w3) w3.heap.size rfl (.tmp 61) (.tmp 62) 62 74 (.agg #[(.string ⟨#[]⟩), (.string ⟨#[]⟩)]) 32 rfl Try.underlying62 info74 rfl (by decide) (by decide) v5 ([] ++ ps) qs (some a2) qs.length c4 (fun _ => True) (fun _ => False) rfl rfl HO5.out (Kd.C_below (Kd.reads1 HO3.out) HB5.out) (fun p cs h => by rw [k74_open h]; exact k74_mkM _ _ _ _) (fun _ h => h.elim) (fun _ _ => trivial) HB5.out HB5.out.size (by have := HPQ.out; simp; omega) ?_; intro v6 w6 ho6 hb6 hg6 hat6; rw [List.nil_append, ← HRS.out] at ho6; obtain ⟨A6, c6, e6⟩ := Kd.R_slice ho6; subst e6; have HB6 := Aside0.mk hb6; have HT6 := Aside0.mk (Tr.treapS rs A6 c6 w6 (Kd.reads1 ho6) (Kd.reads2 ho6) HRL.out HKS.out); clear ho6 hb6 hg6 hat6))
    | (go_at_call 56; go_loud ((with_reducible refine HT6.out.mono ?_); rintro e w7 ⟨v7, rfl, ho7, hb7⟩; rw [← HZ.out] at ho7; obtain ⟨A7, c7, e7⟩ := Kd.R_slice ho7; subst e7; have HO7 := Aside0.mk ho7; have HB7 := Aside0.mk hb7; have HR7 := Aside0.mk ((hb7.block (w.heap.size + 2) (by have := HB6.out.size; have := HB3.out.size; have := HB2.out.size; have := HSC.out; omega)).trans ((HB6.out.block (w.heap.size + 2) (by have := HB3.out.size; have := HB2.out.size; have := HSC.out; omega)).trans HTR3.out)); have cr : w7.cell? ⟨w.heap.size + 2, 0, none⟩ = some (.slice none 0 0) := (blk_cell HR7.out 0).trans rfl; have fr : w7.frozen? ⟨w.heap.size + 2, 0, none⟩ = false := blk_frozen HR7.out 0; clear ho7 hb7)))
  refine bodyPost_ret (results_ct rfl _ _ (w.heap.size + 2) 29 #[.slice A7 zs.length c7] (0, 0) _ rfl (blk_put HR7.out 0 _ rfl) Try.underlying29 rfl (by kernel_rfl)) rfl ?_
  have hs5 : w.heap.size + 3 ≤ w6.heap.size := by have := HB6.out.size; have := HB3.out.size; have := HB2.out.size; have := HSC.out; omega
  have HBw := (HBw3.out.trans (HB6.out.mono (by have := HB3.out.size; have := HB2.out.size; have := HSC.out; omega))).trans (HB7.out.mono (by omega))
  refine ⟨_, rfl, ?_, HBw.setCell (p := ⟨w.heap.size + 2, 0, none⟩) (by show w.heap.size ≤ w.heap.size + 2; omega) _⟩
  have h1 := Kd.R_far (p := ⟨w.heap.size + 2, 0, none⟩) (Kd.R_bound HO7.out) (fun k hk => by have h1 := hk.2.1; show k ≠ w.heap.size + 2; omega) (.slice A7 zs.length c7)
  exact Kd.R_mono (Kd.R_lower h1 (by omega)) (fun _ _ => trivial)
theorem joinS (L1 L2 : List Lb) (A1 A2 : Option Addr) (c1 c2 : Nat) (ps qs : List S74) (ok fine : Bool) (w : World)
    (h1 : ∀ W, Below w.heap.size w W → Calls Try.prog 47 #[.agg #[.slice A1 L1.length c1]] W fun e w' => ∃ v, e = .returned (.tuple #[v, .bool ok]) ∧ Kd.R k74 74 w' W.heap.size (fun _ => True) v ps ∧ Below W.heap.size W w')
    (h2 : ∀ W, Below w.heap.size w W → Calls Try.prog 47 #[.agg #[.slice A2 L2.length c2]] W fun e w' => ∃ v, e = .returned (.tuple #[v, .bool fine]) ∧ Kd.R k74 74 w' W.heap.size (fun _ => True) v qs ∧ Below W.heap.size W w')
    (hp : ps.length ≤ 60) (hq : qs.length ≤ 60) (hks : ∀ i : Nat, i < (ps ++ qs).length → (rd_T74 (ps ++ qs) (i : Int)).f0.size ≤ 1048576) :
    Calls Try.prog 28 #[.agg #[.slice A1 L1.length c1], .agg #[.slice A2 L2.length c2]] w fun e w' => ∃ v0_ : Value, e = .returned (.tuple #[.agg #[v0_], .bool (jn (ps.map BuS.kv) ok (qs.map BuS.kv) fine).2]) ∧ Kd.R k71 71 w' w.heap.size (fun _ => True) v0_ (jn (ps.map BuS.kv) ok (qs.map BuS.kv) fine).1 ∧ Below w.heap.size w w' := by
  have ejc : jc (ps.map BuS.kv) (qs.map BuS.kv) = (decide (ps.length = 0) || (decide (qs.length = 0) || ls ((ps.map BuS.kv).getD (ps.length - 1) zKV).1 ((qs.map BuS.kv).getD 0 zKV).1)) := by unfold jc; rw [List.length_map, List.length_map]
  unfold jn
  rw [ejc, List.length_map, List.length_map]
  cases ok with
  | false =>
    rw [if_neg (fun h => by cases h.1)]
    exact joinS_n1 L1 L2 A1 A2 c1 c2 ps qs _ fine w h1 h2 hp hq rfl
  | true =>
    cases fine with
    | false =>
      rw [if_neg (fun h => by cases h.2.1)]
      exact joinS_n2 L1 L2 A1 A2 c1 c2 ps qs _ _ w h1 h2 hp hq rfl rfl
    | true =>
      by_cases hs : ps.length + qs.length ≤ 60
      · by_cases hx : ps.length = 0
        · rw [if_pos ⟨rfl, rfl, hs, by rw [decide_eq_true hx]; rfl⟩]
          exact joinS_y1 L1 L2 A1 A2 c1 c2 ps qs _ _ w h1 h2 hp hq rfl rfl hs hx hks
        · by_cases hy : qs.length = 0
          · rw [if_pos ⟨rfl, rfl, hs, by rw [decide_eq_true hy, Bool.true_or, Bool.or_true]⟩]
            exact joinS_y2 L1 L2 A1 A2 c1 c2 ps qs _ _ w h1 h2 hp hq rfl rfl hs hx hy hks
          · have e1 := (BuS.kv_key ps (ps.length - 1) (by omega)).1
            have e2 := (BuS.kv_key qs 0 (by omega)).1
            cases hge : ls ((ps.map BuS.kv).getD (ps.length - 1) zKV).1 ((qs.map BuS.kv).getD 0 zKV).1 with
            | true =>
              rw [if_pos ⟨rfl, rfl, hs, by rw [Bool.or_true, Bool.or_true]⟩]
              rw [e1, e2] at hge
              exact joinS_y3 L1 L2 A1 A2 c1 c2 ps qs _ _ w h1 h2 hp hq rfl rfl hs hx hy hge hks
            | false =>
              rw [if_neg (fun h => by have := h.2.2.2; rw [decide_eq_false hx, decide_eq_false hy] at this; cases this)]
              rw [e1, e2] at hge
              exact joinS_n4 L1 L2 A1 A2 c1 c2 ps qs _ _ w h1 h2 hp hq rfl rfl hs hx hy hge
      · rw [if_neg (fun h => hs h.2.2.1)]
        exact joinS_n3 L1 L2 A1 A2 c1 c2 ps qs _ _ w h1 h2 hp hq rfl rfl hs
end Go.Proofs.Ytjknkeipginpcaa.TrG
end

section
/- Treaps: what JoinTreaps of both sides answers. No conditions. -/
namespace Go.Proofs.Ytjknkeipginpcaa.TrG
set_option linter.unusedVariables false
open Go.RowKit Go.Proofs.Ytjknkeipginpcaa.PQ Go.Proofs.YtjknkeipginpcaaW.PrintWords Go.Proofs.Ytjknkeipginpcaa.Pre Go.Proofs.Ytjknkeipginpcaa.Tr Go.Proofs.Ytjknkeipginpcaa.Pr Go.Proofs.Ytjknkeipginpcaa.Po

def ansJ (L1 L2 : List Lb) : List Lb × Bool := jn ((ansP L1).1.map BuI.kv) (ansP L1).2 ((ansP L2).1.map BuI.kv) (ansP L2).2
theorem jn_no (l m : List KV) (ok fine : Bool) (h : ¬ (ok = true ∧ fine = true)) : jn l ok m fine = ([], false) := if_neg (fun h2 => h ⟨h2.1, h2.2.1⟩)
theorem app_ok (l m : List Pa) (hl : ∀ x ∈ l, x.f0.size ≤ 40 ∧ x.f1.size ≤ 60) (hm : ∀ x ∈ m, x.f0.size ≤ 40 ∧ x.f1.size ≤ 60) : ∀ x ∈ l ++ m, x.f0.size ≤ 40 ∧ x.f1.size ≤ 60 := fun x hx => (List.mem_append.1 hx).elim (hl x) (hm x)
theorem joinTreapsI (L1 L2 : List Lb) (A1 A2 : Option Addr) (c1 c2 : Nat) (w : World) (hC1 : Kd.C k71 w A1 L1.length L1) (hc1 : L1.length ≤ c1) (hL1 : L1.length ≤ 1048576) (hC2 : Kd.C k71 w A2 L2.length L2) (hc2 : L2.length ≤ c2) (hL2 : L2.length ≤ 1048576) :
    Calls Try.prog 29 #[.agg #[.slice A1 L1.length c1], .agg #[.slice A2 L2.length c2]] w fun e w' => ∃ v0_ : Value, e = .returned (.tuple #[.agg #[v0_], .bool (ansJ L1 L2).2]) ∧ Kd.R k71 71 w' w.heap.size (fun _ => True) v0_ (ansJ L1 L2).1 ∧ Below w.heap.size w w' :=
  joinI L1 L2 A1 A2 c1 c2 (ansP L1).1 (ansP L2).1 (ansP L1).2 (ansP L2).2 w (fun W hb => Po.calls L1 A1 c1 W (Kd.C_below hC1 hb) hc1 hL1) (fun W hb => Po.calls L2 A2 c2 W (Kd.C_below hC2 hb) hc2 hL2) (ansP_ri L1).2.1 (ansP_ri L2).2.1 (keys_ok (app_ok _ _ (ansP_ri L1).2.2 (ansP_ri L2).2.2))
/-- The reference's side, told by the program's. -/
theorem sideS (L : List Lb) : ∃ (ps : List Pb) (k : Nat), spec_l7Of.f k L = some (ps, (ansP L).2) ∧ ps.length ≤ 60 ∧ (∀ x ∈ ps, x.f0.size ≤ 40 ∧ x.f1.size ≤ 60) ∧ ((ansP L).2 = true → ps.map BuS.kv = (ansP L).1.map BuI.kv) := by
  rcases both L with ⟨l, hg, h1, h2⟩ | ⟨h1, _, h2⟩
  · obtain ⟨k, hk⟩ := h2.ex
    have hri := ansP_ri L
    rw [h1] at hri ⊢
    refine ⟨l.map bkS, k, hk, by have := hri.2.1; rw [List.length_map] at this ⊢; exact this, fun x hx => ?_, fun _ => by show (l.map bkS).map BuS.kv = (l.map bkI).map BuI.kv; rw [bkS_kv, bkI_kv]⟩
    obtain ⟨y, hy, rfl⟩ := List.mem_map.1 hx
    exact hri.2.2 (bkI y) (List.mem_map.2 ⟨y, hy, rfl⟩)
  · obtain ⟨k, hk⟩ := h2.ex
    rw [h1]
    exact ⟨[], k, hk, by simp, by simp, fun h => by cases h⟩
theorem keys_okS {ps : List Pb} (h : ∀ x ∈ ps, x.f0.size ≤ 40 ∧ x.f1.size ≤ 60) : ∀ i : Nat, i < ps.length → (rd_T74 ps (i : Int)).f0.size ≤ 1048576 := by
  intro i hi
  have e : rd_T74 ps (i : Int) = ps[i] := by
    unfold rd_T74
    simp [hi]
  rw [e]
  have := (h _ (List.getElem_mem hi)).1
  omega
theorem joinTreapsS (L1 L2 : List Lb) (A1 A2 : Option Addr) (c1 c2 : Nat) (w : World) (hC1 : Kd.C k71 w A1 L1.length L1) (hc1 : L1.length ≤ c1) (hC2 : Kd.C k71 w A2 L2.length L2) (hc2 : L2.length ≤ c2) :
    Calls Try.prog 28 #[.agg #[.slice A1 L1.length c1], .agg #[.slice A2 L2.length c2]] w fun e w' => ∃ v0_ : Value, e = .returned (.tuple #[.agg #[v0_], .bool (ansJ L1 L2).2]) ∧ Kd.R k71 71 w' w.heap.size (fun _ => True) v0_ (ansJ L1 L2).1 ∧ Below w.heap.size w w' := by
  obtain ⟨ps, k1, e1, l1, s1, h1⟩ := sideS L1
  obtain ⟨qs, k2, e2, l2, s2, h2⟩ := sideS L2
  have ej : ansJ L1 L2 = jn (ps.map BuS.kv) (ansP L1).2 (qs.map BuS.kv) (ansP L2).2 := by
    unfold ansJ
    by_cases hb : (ansP L1).2 = true ∧ (ansP L2).2 = true
    · rw [h1 hb.1, h2 hb.2]
    · rw [jn_no _ _ _ _ hb, jn_no _ _ _ _ hb]
  rw [ej]
  exact joinS L1 L2 A1 A2 c1 c2 ps qs (ansP L1).2 (ansP L2).2 w (fun W hb => spec_l7Of.calls k1 A1 c1 L1 ps _ W (Kd.C_below hC1 hb) hc1 e1) (fun W hb => spec_l7Of.calls k2 A2 c2 L2 qs _ W (Kd.C_below hC2 hb) hc2 e2) l1 l2 (keys_okS (fun x hx => (List.mem_append.1 hx).elim (s1 x) (s2 x)))
end Go.Proofs.Ytjknkeipginpcaa.TrG
end

section
/- Treaps in laws: what a walk takes along. No conditions. -/
namespace Go.Proofs.Ytjknkeipginpcaa.TrG
set_option linter.unusedVariables false
open Go.RowKit Go.Proofs.Ytjknkeipginpcaa.PQ Go.Proofs.YtjknkeipginpcaaW.PrintWords Go.Proofs.YtjknkeipginpcaaW.PrintLast Go.Proofs.YtjknkeipginpcaaW.PrintMore Go.Proofs.Ytjknkeipginpcaa.Pre Go.Proofs.Ytjknkeipginpcaa.Tr Go.Proofs.Ytjknkeipginpcaa.Pr Go.Proofs.Ytjknkeipginpcaa.Po

/-- In which blocks a row of limbs lies. -/
def Rng (v : Value) (a b : Nat) : Prop := ∀ k, v.ownBlock = some k → a ≤ k ∧ k < b
theorem Rng.of {W : World} {base : Nat} {ok : Nat → Prop} {v : Value} {xs : List Lb} (h : Kd.R k71 71 W base ok v xs) : Rng v base W.heap.size := fun k hk => ⟨((Kd.R_bound h).1 k hk).2.1, ((Kd.R_bound h).1 k hk).2.2.1⟩
/-- A row of limbs of one's own. -/
abbrev Lr (W : World) (lo : Nat) (v : Value) (xs : List Lb) : Prop := Kd.R k71 71 W lo (fun k => some k = v.ownBlock) v xs
theorem Lr.of {W : World} {base lo : Nat} {ok : Nat → Prop} {v : Value} {xs : List Lb} (h : Kd.R k71 71 W base ok v xs) (hl : lo ≤ base) : Lr W lo v xs := Kd.R_tight rfl (Kd.R_lower h hl)
theorem Lr.below {W W2 : World} {lo : Nat} {v : Value} {xs : List Lb} (h : Lr W lo v xs) (hb : Below W.heap.size W W2) : Lr W2 lo v xs := Kd.R_below h hb
theorem Lr.kept {W W2 : World} {lo : Nat} {v u : Value} {xs : List Lb} (h : Lr W lo v xs) (hk : Kept W W2 (fun k => some k = u.ownBlock)) (hne : ∀ k, v.ownBlock = some k → u.ownBlock = some k → False) : Lr W2 lo v xs :=
  Kd.R_step h (fun k hk2 hlt => hk.2 k hlt (fun h3 => hne k hk2.symm h3.symm))
theorem Lr.c {W : World} {lo : Nat} {A : Option Addr} {n c : Nat} {xs : List Lb} (h : Lr W lo (.slice A n c) xs) : Kd.C k71 W A xs.length xs := (Kd.R_reads' h).2.2
theorem Lr.n {W : World} {lo : Nat} {A : Option Addr} {c : Nat} {xs : List Lb} (h : Lr W lo (.slice A xs.length c) xs) : xs.length ≤ c := (Kd.R_reads' h).2.1
theorem Lr.len {W : World} {lo : Nat} {A : Option Addr} {n c : Nat} {xs : List Lb} (h : Lr W lo (.slice A n c) xs) : n = xs.length ∧ n ≤ c := ⟨(Kd.R_reads' h).1, (Kd.R_reads' h).2.1⟩
theorem Lr.slice {W : World} {lo : Nat} {v : Value} {xs : List Lb} (h : Lr W lo v xs) : ∃ A c, v = .slice A xs.length c := Kd.R_slice h
/-- A box. -/
abbrev Bx (W : World) (b : Nat) (v : Value) (t : TypeId) : Prop := W.heap[b]? = some (.cells #[v] t (0, 0))
theorem Bx.below {W W2 : World} {b : Nat} {v : Value} {t : TypeId} (h : Bx W b v t) (hb : Below W.heap.size W W2) : Bx W2 b v t := (hb.block b (blk_lt h)).trans h
theorem Bx.kept {W W2 : World} {b : Nat} {v u : Value} {t : TypeId} (h : Bx W b v t) (hk : Kept W W2 (fun k => some k = u.ownBlock)) (hne : u.ownBlock = some b → False) : Bx W2 b v t := (hk.2 b (blk_lt h) (fun e => hne e.symm)).trans h
theorem Bx.cell {W : World} {b : Nat} {v : Value} {t : TypeId} (h : Bx W b v t) : W.cell? ⟨b, 0, none⟩ = some v := (blk_cell h 0).trans rfl
theorem Bx.drew {W : World} {b : Nat} {v : Value} {t : TypeId} (h : Bx W b v t) : Bx W.drew b v t := h
theorem Lr.drew {W : World} {lo : Nat} {v : Value} {xs : List Lb} (h : Lr W lo v xs) : Lr W.drew lo v xs := Kd.R_drew h
theorem Rng.mono {v : Value} {a b a' b' : Nat} (h : Rng v a b) (ha : a' ≤ a) (hb : b ≤ b') : Rng v a' b' := fun k hk => by
  have := h k hk
  omega
theorem Lr.set {W : World} {lo b : Nat} {v v0 : Value} {xs : List Lb} (h : Lr W lo v xs) (hz : Bx W b v0 29) (u : Value) : Lr (W.setCell ⟨b, 0, none⟩ u) lo v xs := Kd.R_set h hz (by decide) 0 u
theorem Bx.set {W : World} {b g : Nat} {v : Value} {t : TypeId} (h : Bx W b v t) (hne : b ≠ g) (u : Value) : Bx (W.setCell ⟨g, 0, none⟩ u) b v t := blk_far h hne u
theorem Bx.put {W : World} {b : Nat} {v : Value} {t : TypeId} (h : Bx W b v t) (u : Value) : Bx (W.setCell ⟨b, 0, none⟩ u) b u t := blk_put h 0 _ rfl
theorem two {w : World} (v0 v1 : Value) (t : TypeId) : Bx ((w.alloc (.cells #[v0] t)).alloc (.cells #[v1] t)) w.heap.size v0 t ∧ Bx ((w.alloc (.cells #[v0] t)).alloc (.cells #[v1] t)) (w.heap.size + 1) v1 t ∧ Below w.heap.size w ((w.alloc (.cells #[v0] t)).alloc (.cells #[v1] t)) := by
  refine ⟨xblk_alloc (at_new w _) _, ?_, below_alloc (below_alloc (Below.refl _ _) _) _⟩
  have := at_new (w.alloc (.cells #[v0] t)) (.cells #[v1] t)
  rw [new_size] at this
  exact this
theorem one {w : World} (v0 : Value) (t : TypeId) : Bx (w.alloc (.cells #[v0] t)) w.heap.size v0 t ∧ Below w.heap.size w (w.alloc (.cells #[v0] t)) := ⟨at_new w _, below_alloc (Below.refl _ _) _⟩
theorem far {a b c d : Nat} {v u : Value} (hv : Rng v a b) (hu : Rng u c d) (h : b ≤ c ∨ d ≤ a) : ∀ k, v.ownBlock = some k → u.ownBlock = some k → False := fun k h1 h2 => by
  have := hv k h1
  have := hu k h2
  omega
theorem out {a b g : Nat} {u : Value} (hu : Rng u a b) (h : g < a ∨ b ≤ g) : u.ownBlock = some g → False := fun h1 => by
  have := hu g h1
  omega
end Go.Proofs.Ytjknkeipginpcaa.TrG
end

section
-- Written by a program of this session (pprint.py) out of the translation's print; Lean checks it.
namespace Go.Proofs.Ytjknkeipginpcaa.PQ
open Go.RowKit Go.Proofs.YtjknkeipginpcaaW.PrintWords Go.Proofs.YtjknkeipginpcaaW.PrintLast Go.Proofs.YtjknkeipginpcaaW.PrintMore
attribute [local go_sem] max2_int min2_int max_two min_two max_three min_three max_four min_four   -- for this text's walks alone
set_option linter.unusedVariables false
set_option linter.unusedSimpArgs false

--OWNPART impl_JoinTreaps
/-! ### impl_JoinTreaps: function 29, by hand -/
--NEEDS loop.example/g00274/impl.GoodTreap
--NEEDS loop.example/g00274/spec.l7Of
--IMPORT TrQ
def impl_JoinTreaps.f (l0_0 : List (S71)) (l1_0 : List (S71)) : Option (List (S71) × Bool) := if (l0_0.length ≤ 1048576 ∧ l1_0.length ≤ 1048576) then some (TrG.ansJ l0_0 l1_0) else none
theorem impl_JoinTreaps.calls (A0_0 : Option Addr) (c0_0 : Nat) (l0_0 : List (S71)) (A1_0 : Option Addr) (c1_0 : Nat) (l1_0 : List (S71)) (r1 : List (S71)) (r2 : Bool) (w : World) (hr0_0 : Kd.C k71 w A0_0 l0_0.length l0_0) (hc0_0 : l0_0.length ≤ c0_0) (hr1_0 : Kd.C k71 w A1_0 l1_0.length l1_0) (hc1_0 : l1_0.length ≤ c1_0) (h : impl_JoinTreaps.f l0_0 l1_0 = some (r1, r2)) :
  Calls Try.prog 29 #[.agg #[.slice A0_0 l0_0.length c0_0], .agg #[.slice A1_0 l1_0.length c1_0]] w fun e w' => ∃ v0_ : Value, e = .returned (.tuple #[.agg #[v0_], .bool r2]) ∧ Kd.R k71 71 w' w.heap.size (fun _ => True) v0_ r1 ∧ Below w.heap.size w w' := by
 unfold impl_JoinTreaps.f at h
 split at h
 ·
  rename_i hs
  have h1 := Option.some.inj h
  have := TrG.joinTreapsI l0_0 l1_0 A0_0 A1_0 c0_0 c1_0 w hr0_0 hc0_0 hs.1 hr1_0 hc1_0 hs.2
  rw [h1] at this
  exact this
 ·
  cases h

end Go.Proofs.Ytjknkeipginpcaa.PQ
end

section
-- Written by a program of this session (pprint.py) out of the translation's print; Lean checks it.
namespace Go.Proofs.Ytjknkeipginpcaa.PQ
open Go.RowKit Go.Proofs.YtjknkeipginpcaaW.PrintWords Go.Proofs.YtjknkeipginpcaaW.PrintLast Go.Proofs.YtjknkeipginpcaaW.PrintMore
attribute [local go_sem] max2_int min2_int max_two min_two max_three min_three max_four min_four   -- for this text's walks alone
set_option linter.unusedVariables false
set_option linter.unusedSimpArgs false

--OWNPART spec_JoinTreaps
/-! ### spec_JoinTreaps: function 28, by hand -/
--NEEDS loop.example/g00274/impl.GoodTreap
--NEEDS loop.example/g00274/spec.l7Of
--IMPORT TrQ
def spec_JoinTreaps.f (l0_0 : List (S71)) (l1_0 : List (S71)) : Option (List (S71) × Bool) := if (l0_0.length ≤ 1048576 ∧ l1_0.length ≤ 1048576) then some (TrG.ansJ l0_0 l1_0) else none
theorem spec_JoinTreaps.calls (A0_0 : Option Addr) (c0_0 : Nat) (l0_0 : List (S71)) (A1_0 : Option Addr) (c1_0 : Nat) (l1_0 : List (S71)) (r1 : List (S71)) (r2 : Bool) (w : World) (hr0_0 : Kd.C k71 w A0_0 l0_0.length l0_0) (hc0_0 : l0_0.length ≤ c0_0) (hr1_0 : Kd.C k71 w A1_0 l1_0.length l1_0) (hc1_0 : l1_0.length ≤ c1_0) (h : spec_JoinTreaps.f l0_0 l1_0 = some (r1, r2)) :
  Calls Try.prog 28 #[.agg #[.slice A0_0 l0_0.length c0_0], .agg #[.slice A1_0 l1_0.length c1_0]] w fun e w' => ∃ v0_ : Value, e = .returned (.tuple #[.agg #[v0_], .bool r2]) ∧ Kd.R k71 71 w' w.heap.size (fun _ => True) v0_ r1 ∧ Below w.heap.size w w' := by
 unfold spec_JoinTreaps.f at h
 split at h
 ·
  rename_i hs
  have h1 := Option.some.inj h
  have := TrG.joinTreapsS l0_0 l1_0 A0_0 A1_0 c0_0 c1_0 w hr0_0 hc0_0 hr1_0 hc1_0
  rw [h1] at this
  exact this
 ·
  cases h

end Go.Proofs.Ytjknkeipginpcaa.PQ
end

section
/- The law FnExactJoinTreaps, walked by hand: it returns true. No conditions. -/
namespace Go.Proofs.Ytjknkeipginpcaa.LwJo
set_option linter.unusedVariables false
set_option linter.unusedSimpArgs false
open Go.RowKit Go.Proofs.Ytjknkeipginpcaa.PQ Go.Proofs.YtjknkeipginpcaaW.PrintWords Go.Proofs.YtjknkeipginpcaaW.PrintLast Go.Proofs.YtjknkeipginpcaaW.PrintMore Go.Proofs.Ytjknkeipginpcaa.Pre Go.Proofs.Ytjknkeipginpcaa.Tr Go.Proofs.Ytjknkeipginpcaa.Pr Go.Proofs.Ytjknkeipginpcaa.Po Go.Proofs.Ytjknkeipginpcaa.TrG

theorem sz_ev2 (l : List Ll) (hl : l.length ≤ 9223372036854775807) (hx : ∀ x ∈ l, x.f0.size ≤ 9223372036854775807 ∧ x.f1.size ≤ 9223372036854775807) (z : Int) (hz0 : 0 ≤ z) (hz : z ≤ 1048576) : ∃ t, Evt (fun k => laws_szTreap.f k l z) t ∧ t ≤ 1048576 ∧ (0 ≤ t → l.length ≤ 1048576) := by
  have main : ∃ t, Evt (fun k => laws_szLimbS.f k l z) t ∧ t ≤ 1048576 ∧ (0 ≤ t → l.length ≤ 1048576) := by
    unfold laws_szLimbS.f
    rw [w64 (n := z - (l.length : Int)) (by omega) (by omega)]
    by_cases hs : (l.length : Int) ≤ z
    · have key : ∀ (m i : Nat) (a : Int), i + m = l.length → 0 ≤ a → a ≤ 1048576 → ∃ t, Evt (fun k => laws_szLimbS.l0 k l a (i : Int)) t ∧ t ≤ 1048576 := by
        intro m
        induction m with
        | zero => intro i a hi h0 h1; exact ⟨a, Evt.step (fun k => laws_szLimbS.l0.eq_2 _ _ _ k) (Evt.neg (by omega) (Evt.const _)), h1⟩
        | succ m ih =>
          intro i a hi h0 h1
          have hil : i < l.length := by omega
          have er : rd_T99 l (i : Int) = l[i] := by
            unfold rd_T99
            simp [hil]
          have hm := hx l[i] (List.getElem_mem hil)
          obtain ⟨t, ht, ht1, _⟩ := sz_one l[i] hm.1 hm.2 a h0 h1
          by_cases hc : t < 0
          · refine ⟨-1, Evt.step (fun k => laws_szLimbS.l0.eq_2 _ _ _ k) (Evt.pos (by omega) (Evt.pos (by omega) ?_)), by omega⟩
            rw [er, ht]
            exact Evt.bsome (Evt.pos hc (Evt.const _))
          · obtain ⟨u, hu, hu2⟩ := ih (i + 1) t (by omega) (by omega) ht1
            refine ⟨u, Evt.step (fun k => laws_szLimbS.l0.eq_2 _ _ _ k) (Evt.pos (by omega) (Evt.pos (by omega) ?_)), hu2⟩
            rw [er, ht]
            refine Evt.bsome (Evt.neg hc ?_)
            rw [w64 (n := (i : Int) + 1) (by omega) (by omega)]
            exact hu
      obtain ⟨t, ht, h2⟩ := key l.length 0 (z - (l.length : Int)) (by omega) (by omega) (by omega)
      exact ⟨t, Evt.neg (by omega) ht, h2, fun _ => by omega⟩
    · exact ⟨-1, Evt.pos (by omega) (Evt.const _), by omega, fun h => by omega⟩
  obtain ⟨t, ht, h1, h2⟩ := main
  unfold laws_szTreap.f
  by_cases hc : t < 0
  · exact ⟨-1, Evt.bind ht (Evt.pos hc (Evt.const _)), by omega, fun h => by omega⟩
  · exact ⟨t, Evt.bind ht (Evt.neg hc (Evt.const _)), h1, h2⟩
theorem join_small (L M : List Lb) : (ansJ L M).1.length ≤ 60 := by
  unfold ansJ jn
  split
  · rename_i h
    show (enc _ 0 _).length ≤ 60
    rw [enc_len _ _ _ (Nat.le_refl _), List.length_append]
    exact h.2.2.1
  · simp
set_option maxRecDepth 100000 in
set_option maxHeartbeats 16000000 in
theorem calls (A : Option Addr) (c : Nat) (l : List Ll) (B : Option Addr) (d : Nat) (m : List Ll) (w : World) (hr : Kd.C k99 w A l.length l) (hc : l.length ≤ c) (hw : l.length ≤ 9223372036854775807 ∧ ∀ x ∈ l, x.f0.size ≤ 9223372036854775807 ∧ x.f1.size ≤ 9223372036854775807) (hrb : Kd.C k99 w B m.length m) (hcb : m.length ≤ d) (hwb : m.length ≤ 9223372036854775807 ∧ ∀ x ∈ m, x.f0.size ≤ 9223372036854775807 ∧ x.f1.size ≤ 9223372036854775807) :
    Calls Try.prog 7 #[.agg #[.slice A l.length c], .agg #[.slice B m.length d]] w fun e w' => e = .returned (.bool true) ∧ Below w.heap.size w w' := by
  have HR := Aside0.mk hr
  have HC := Aside0.mk hc
  have HRB := Aside0.mk hrb
  have HCB := Aside0.mk hcb
  obtain ⟨w0, hw0⟩ : ∃ w0, w0 = (w.alloc (.cells #[.slice A l.length c] 24)).alloc (.cells #[.slice B m.length d] 24) := ⟨_, rfl⟩
  have HW0 := Aside0.mk hw0
  obtain ⟨b0, b1, hb0⟩ := two (w := w) (.slice A l.length c) (.slice B m.length d) 24
  rw [← hw0] at b0 b1 hb0
  have BA_0 := Aside0.mk b0
  have BB_0 := Aside0.mk b1
  have HA0 := Aside0.mk hb0
  have HWS := Aside0.mk (show w.heap.size + 2 ≤ w0.heap.size by rw [hw0, new_size, new_size]; exact Nat.le_refl _)
  obtain ⟨r, hev, hsz, hsm⟩ := sz_ev2 l hw.1 hw.2 1048576 (by omega) (by omega)
  obtain ⟨k0, hk0⟩ := hev.ex
  have E0 := Aside0.mk hk0
  have cc_BA_ : ((w.alloc (.cells #[.slice A l.length c] 24)).alloc (.cells #[.slice B m.length d] 24)).cell? ⟨w.heap.size, 0, none⟩ = some (.slice A l.length c) := by rw [← hw0]; exact Bx.cell b0
  have cc_BB_ : ((w.alloc (.cells #[.slice A l.length c] 24)).alloc (.cells #[.slice B m.length d] 24)).cell? ⟨w.heap.size + 1, 0, none⟩ = some (.slice B m.length d) := by rw [← hw0]; exact Bx.cell b1
  by_cases hneg : r < 0
  · have hnb : decide (r < 0) = true := decide_eq_true hneg
    clear hr hc hrb hcb hw hwb hw0 b0 b1 hb0 hev hsm hsz hk0
    go_enter Try.func7, Try.ntmps7
    go_wp2_with ((go_at_call 13; go_loud (rw [← HW0.out]; (with_reducible refine (laws_szTreap.calls k0 A c l 1048576 r _ (Kd.C_below HR.out HA0.out) HC.out E0.out).mono ?_); rintro e w1 ⟨rfl, hb⟩; have HA1 := Aside0.mk (below_step HA0.out hb); have BA_1 := Aside0.mk (Bx.below BA_0.out hb); have BB_1 := Aside0.mk (Bx.below BB_0.out hb); have HZ0 := Aside0.mk hb.size; clear HA0 BA_0 BB_0; clear hb; clear cc_BA_ cc_BB_; have cc_BB_ : w1.cell? ⟨w.heap.size + 1, 0, none⟩ = some (.slice B m.length d) := Bx.cell BB_1.out)))
    go_ret
    exact ⟨rfl, HA1.out⟩
  · have hnb : decide (r < 0) = false := decide_eq_false hneg
    obtain ⟨rb, hevb, hszb, hsmb⟩ := sz_ev2 m hwb.1 hwb.2 r (by omega) hsz
    obtain ⟨k0b, hk0b⟩ := hevb.ex
    have E0b := Aside0.mk hk0b
    by_cases hnegb : rb < 0
    · have hnbb : decide (rb < 0) = true := decide_eq_true hnegb
      clear hr hc hrb hcb hw hwb hw0 b0 b1 hb0 hev hsm hsz hk0 hneg hevb hszb hsmb hk0b
      go_enter Try.func7, Try.ntmps7
      go_wp2_with (first | (go_at_call 13; go_loud (rw [← HW0.out]; (with_reducible refine (laws_szTreap.calls k0 A c l 1048576 r _ (Kd.C_below HR.out HA0.out) HC.out E0.out).mono ?_); rintro e w1 ⟨rfl, hb⟩; have HA1 := Aside0.mk (below_step HA0.out hb); have BA_1 := Aside0.mk (Bx.below BA_0.out hb); have BB_1 := Aside0.mk (Bx.below BB_0.out hb); have HZ0 := Aside0.mk hb.size; clear HA0 BA_0 BB_0; clear hb; clear cc_BA_ cc_BB_; have cc_BB_ : w1.cell? ⟨w.heap.size + 1, 0, none⟩ = some (.slice B m.length d) := Bx.cell BB_1.out)) | (go_at_call 13; go_loud ((with_reducible refine (laws_szTreap.calls k0b B d m r rb _ (Kd.C_below HRB.out HA1.out) HCB.out E0b.out).mono ?_); rintro e w2 ⟨rfl, hb⟩; have HA2 := Aside0.mk (below_step HA1.out hb); have BA_2 := Aside0.mk (Bx.below BA_1.out hb); have BB_2 := Aside0.mk (Bx.below BB_1.out hb); have HZ1 := Aside0.mk hb.size; clear HA1 BA_1 BB_1; clear hb; clear cc_BB_)))
      go_ret
      exact ⟨rfl, HA2.out⟩
    · have hnbb : decide (rb < 0) = false := decide_eq_false hnegb
      have hl := hsm (by omega)
      have hlb := hsmb (by omega)
      have hto := to_ev l hl
      have htob := to_ev m hlb
      have hm : (l.map cvL).length ≤ 1048576 := by rw [List.length_map]; exact hl
      have hmb : (m.map cvL).length ≤ 1048576 := by rw [List.length_map]; exact hlb
      obtain ⟨L, hL⟩ : ∃ L, L = l.map cvL := ⟨_, rfl⟩
      obtain ⟨M, hM⟩ : ∃ M, M = m.map cvL := ⟨_, rfl⟩
      rw [← hL] at hto hm
      rw [← hM] at htob hmb
      obtain ⟨k1, hk1⟩ := hto.ex
      obtain ⟨k1b, hk1b⟩ := htob.ex
      have hk2 : spec_JoinTreaps.f L M = some (ansJ L M) := if_pos ⟨hm, hmb⟩
      have hk3 : impl_JoinTreaps.f L M = some (ansJ L M) := if_pos ⟨hm, hmb⟩
      have hsm2 := join_small L M
      obtain ⟨s0, hs0⟩ : ∃ s0, s0 = (ansJ L M).1 := ⟨_, rfl⟩
      obtain ⟨sb, hsb⟩ : ∃ sb, sb = (ansJ L M).2 := ⟨_, rfl⟩
      have hss : ansJ L M = (s0, sb) := by rw [hs0, hsb]
      rw [hss] at hk2 hk3
      rw [← hs0] at hsm2
      obtain ⟨k4, hk4⟩ := (eq_ev s0 (by omega)).ex
      obtain ⟨k6, hk6⟩ := (eq_ev L hm).ex
      obtain ⟨k6b, hk6b⟩ := (eq_ev M hmb).ex
      obtain ⟨k7, hk7⟩ := (mark_evL L 1 (by omega) hm).ex
      obtain ⟨k7b, hk7b⟩ := (mark_evL M (1 + 4 * L.length) (by omega) hmb).ex
      obtain ⟨k8, hk8⟩ := (mark_evL s0 1 (by omega) (by omega)).ex
      obtain ⟨k10, hk10⟩ := (held_evL s0.length 1 (by omega) (by omega)).ex
      obtain ⟨q7, hq7⟩ : ∃ q, q = mkL L.length 1 := ⟨_, rfl⟩
      obtain ⟨q7b, hq7b⟩ : ∃ q, q = mkL M.length (1 + 4 * L.length) := ⟨_, rfl⟩
      obtain ⟨q8, hq8⟩ : ∃ q, q = mkL s0.length 1 := ⟨_, rfl⟩
      obtain ⟨z7, hz7⟩ : ∃ z : Int, z = ((1 + 4 * L.length : Nat) : Int) := ⟨_, rfl⟩
      obtain ⟨z7b, hz7b⟩ : ∃ z : Int, z = (((1 + 4 * L.length) + 4 * M.length : Nat) : Int) := ⟨_, rfl⟩
      obtain ⟨z8, hz8⟩ : ∃ z : Int, z = ((1 + 4 * s0.length : Nat) : Int) := ⟨_, rfl⟩
      rw [← hz7, ← hq7, show ((1 : Nat) : Int) = 1 from rfl] at hk7
      rw [← hz7b, ← hz7, ← hq7b] at hk7b
      rw [← hz8, ← hq8, show ((1 : Nat) : Int) = 1 from rfl] at hk8
      rw [← hz8, ← hq8, show ((1 : Nat) : Int) = 1 from rfl] at hk10
      have E1 := Aside0.mk hk1
      have E1b := Aside0.mk hk1b
      have E2 := Aside0.mk hk2
      have E3 := Aside0.mk hk3
      have E4 := Aside0.mk hk4
      have E6 := Aside0.mk hk6
      have E6b := Aside0.mk hk6b
      have E7 := Aside0.mk hk7
      have E7b := Aside0.mk hk7b
      have E8 := Aside0.mk hk8
      have E10 := Aside0.mk hk10
      have HQ_G0_ := Aside0.mk (show q8.length = s0.length by rw [hq8]; exact mkL_len _ _)
      have d7 : decide (z7 < 0) = false := decide_eq_false (by omega)
      have d7b : decide (z7b < 0) = false := decide_eq_false (by omega)
      have d8 : decide (z8 < 0) = false := decide_eq_false (by omega)
      clear hr hc hrb hcb hw hwb hw0 b0 b1 hb0 hev hsm hsz hk0 hneg hevb hszb hsmb hk0b hnegb hl hlb hto htob hm hmb hL hM hk1 hk1b hk2 hk3 hsm2 hs0 hsb hss hk4 hk6 hk6b hk7 hk7b hk8 hk10 hq7 hq7b hq8 hz7 hz7b hz8
      go_enter Try.func7, Try.ntmps7
      go_upto_region 8 with (first | (go_at_call 13; go_loud (rw [← HW0.out]; (with_reducible refine (laws_szTreap.calls k0 A c l 1048576 r _ (Kd.C_below HR.out HA0.out) HC.out E0.out).mono ?_); rintro e w1 ⟨rfl, hb⟩; have HA1 := Aside0.mk (below_step HA0.out hb); have BA_1 := Aside0.mk (Bx.below BA_0.out hb); have BB_1 := Aside0.mk (Bx.below BB_0.out hb); have HZ0 := Aside0.mk hb.size; clear HA0 BA_0 BB_0; clear hb; clear cc_BA_ cc_BB_; have cc_BB_ : w1.cell? ⟨w.heap.size + 1, 0, none⟩ = some (.slice B m.length d) := Bx.cell BB_1.out)) | (go_at_call 13; go_loud ((with_reducible refine (laws_szTreap.calls k0b B d m r rb _ (Kd.C_below HRB.out HA1.out) HCB.out E0b.out).mono ?_); rintro e w2 ⟨rfl, hb⟩; have HA2 := Aside0.mk (below_step HA1.out hb); have BA_2 := Aside0.mk (Bx.below BA_1.out hb); have BB_2 := Aside0.mk (Bx.below BB_1.out hb); have HZ1 := Aside0.mk hb.size; clear HA1 BA_1 BB_1; clear hb; clear cc_BB_)))
      obtain ⟨w3, hw⟩ : ∃ W_, W_ = w2.drew := ⟨_, rfl⟩
      have HD3 := Aside0.mk hw
      have hb : Below w2.heap.size w2 w3 := by rw [hw]; exact (Below.refl _ _).drew
      have HA3 := Aside0.mk (below_step HA2.out hb)
      have BA_3 := Aside0.mk (Bx.below BA_2.out hb)
      have BB_3 := Aside0.mk (Bx.below BB_2.out hb)
      have HZ2 := Aside0.mk hb.size
      clear HA2 BA_2 BB_2
      clear hb hw 
      refine start_ (n := 11) (S := fun w' => w'.cell? ⟨w.heap.size, 0, none⟩ = some (.slice A l.length c) ∧ w'.cell? ⟨w.heap.size + 1, 0, none⟩ = some (.slice B m.length d)) (ds := []) #[false, false, false, false, false, false, false, false, false, false, false] (by kernel_rfl) rfl rfl ⟨(HD3.out ▸ Bx.cell BA_3.out), (HD3.out ▸ Bx.cell BB_3.out)⟩ (fun hHeld => ?_)
      rw [← HD3.out] at hHeld ⊢
      refine take_ (i := 0) (N := some 28) (v := ?_) (a' := ?_) #[true, false, false, false, false, false, false, false, false, false, false] rfl rfl (by kernel_rfl) (fun _ _ _ h => h) (Or.inl ⟨by rfl, ?_⟩) hHeld ?_ ?_
      rotate_left
      · rintro w' ⟨s0, s1⟩
        go_simp
        with_reducible rfl
      rotate_left
      · simp only [Act.put, List.setIfInBounds_toArray, List.set_cons_zero, List.set_cons_succ, i64_w, i32_w]
        rfl
      refine take_ (i := 2) (N := some 30) (v := ?_) (a' := ?_) #[true, false, true, false, false, false, false, false, false, false, false] rfl rfl (by kernel_rfl) (fun _ _ _ h => h) (Or.inl ⟨by rfl, ?_⟩) hHeld ?_ ?_
      rotate_left
      · rintro w' ⟨s0, s1⟩
        go_simp
        with_reducible rfl
      rotate_left
      · simp only [Act.put, List.setIfInBounds_toArray, List.set_cons_zero, List.set_cons_succ, i64_w, i32_w]
        rfl
      refine join_ (σ := Value × Value × Value × Nat) 2 #[true, true, true, true, true, true, true, true, true, false, false] ((fun s_ => [(29, .agg #[s_.1]), (31, .agg #[s_.2.1]), (32, .tuple #[.agg #[s_.2.2.1], .bool sb]), (6, .pointer (some ⟨s_.2.2.2, 0, none⟩)), (27, .tuple #[.agg #[s_.2.2.1], .bool sb]), (33, .agg #[s_.2.2.1]), (34, .bool sb)])) ((fun s_ w' => Below w3.heap.size w3 w' ∧ Lr w' w.heap.size s_.2.2.1 s0 ∧ Rng s_.2.2.1 w3.heap.size w'.heap.size ∧ Bx w' s_.2.2.2 (.slice none 0 0) 29 ∧ w3.heap.size ≤ s_.2.2.2)) ?_ ?_
      rotate_left
      · intro hCont
        refine two_ (i := 1) (j := 8) (Ni := some 29) (Nj := some 6) #[true, true, true, false, false, false, false, false, false, false, false] #[true, false, true, false, false, false, false, false, true, false, false] rfl rfl rfl rfl (by kernel_rfl) (by decide) (by decide) (fun K hK => ?_) (fun K hK => ?_)
        · skip
          refine goes_ Try.func15 (by kernel_rfl) rfl #[.agg #[.slice A l.length c]] (by rfl) rfl rfl (by simp only [List.map_toArray, List.map_cons, List.map_nil]; rfl) ?_
          with_reducible refine (laws_toTreap.calls k1 A c l L _ (Kd.C_below HR.out (below_step HA3.out (Below.refl w3.heap.size w3))) HC.out E1.out).mono ?_
          rintro e u_1 ⟨v_, rfl, ho, hb⟩
          refine ⟨_, rfl, ?_⟩
          have HJ_1 := Aside0.mk (below_step (Below.refl w3.heap.size w3) hb)
          have hl_ := Lr.of (lo := w.heap.size) ho (below_step HA3.out (Below.refl w3.heap.size w3)).size
          obtain ⟨A_q1, c_q1, e_⟩ := Lr.slice hl_
          subst e_
          have Q1_1 := Aside0.mk hl_
          clear hl_ ho hb
          refine hK.out _ _ ⟨Bx.cell (Bx.below BA_3.out HJ_1.out), Bx.cell (Bx.below BB_3.out HJ_1.out)⟩ (fun hHeld => ?_)
          clear hK K
          refine norm_ (a' := ?_) ?_ ?_
          rotate_left
          · show Act.put _ (some 29) _ = _
            simp only [Act.put, List.setIfInBounds_toArray, List.set_cons_zero, List.set_cons_succ, i64_w, i32_w]
            rfl
          refine two_ (i := 3) (j := 8) (Ni := some 31) (Nj := some 6) #[true, true, true, true, false, false, false, false, false, false, false] #[true, true, true, false, false, false, false, false, true, false, false] rfl rfl rfl rfl (by kernel_rfl) (by decide) (by decide) (fun K hK => ?_) (fun K hK => ?_)
          · skip
            refine goes_ Try.func15 (by kernel_rfl) rfl #[.agg #[.slice B m.length d]] (by rfl) rfl rfl (by simp only [List.map_toArray, List.map_cons, List.map_nil]; rfl) ?_
            with_reducible refine (laws_toTreap.calls k1b B d m M _ (Kd.C_below HRB.out (below_step HA3.out HJ_1.out)) HCB.out E1b.out).mono ?_
            rintro e u_13 ⟨v_, rfl, ho, hb⟩
            refine ⟨_, rfl, ?_⟩
            have HJ_13 := Aside0.mk (below_step HJ_1.out hb)
            have Q1_13 := Aside0.mk (Lr.below Q1_1.out hb)
            have hl_ := Lr.of (lo := w.heap.size) ho (below_step HA3.out HJ_1.out).size
            obtain ⟨A_q3, c_q3, e_⟩ := Lr.slice hl_
            subst e_
            have Q3_13 := Aside0.mk hl_
            clear hl_ ho hb
            refine hK.out _ _ ⟨Bx.cell (Bx.below BA_3.out HJ_13.out), Bx.cell (Bx.below BB_3.out HJ_13.out)⟩ (fun hHeld => ?_)
            clear hK K
            refine norm_ (a' := ?_) ?_ ?_
            rotate_left
            · show Act.put _ (some 31) _ = _
              simp only [Act.put, List.setIfInBounds_toArray, List.set_cons_zero, List.set_cons_succ, i64_w, i32_w]
              rfl
            refine two_ (i := 4) (j := 8) (Ni := some 32) (Nj := some 6) #[true, true, true, true, true, false, false, false, false, false, false] #[true, true, true, true, false, false, false, false, true, false, false] rfl rfl rfl rfl (by kernel_rfl) (by decide) (by decide) (fun K hK => ?_) (fun K hK => ?_)
            · skip
              refine goes_ Try.func28 (by kernel_rfl) rfl #[.agg #[.slice A_q1 L.length c_q1], .agg #[.slice A_q3 M.length c_q3]] (by rfl) rfl rfl (by simp only [List.map_toArray, List.map_cons, List.map_nil]; rfl) ?_
              with_reducible refine (spec_JoinTreaps.calls A_q1 c_q1 L A_q3 c_q3 M s0 sb _ (Lr.c Q1_13.out) (Lr.n Q1_13.out) (Lr.c Q3_13.out) (Lr.n Q3_13.out) E2.out).mono ?_
              rintro e u_134 ⟨v_, rfl, ho, hb⟩
              refine ⟨_, rfl, ?_⟩
              have HJ_134 := Aside0.mk (below_step HJ_13.out hb)
              have Q1_134 := Aside0.mk (Lr.below Q1_13.out hb)
              have Q3_134 := Aside0.mk (Lr.below Q3_13.out hb)
              have R4_134 := Aside0.mk (Rng.mono (Rng.of ho) HJ_13.out.size (Nat.le_refl _))
              have hl_ := Lr.of (lo := w.heap.size) ho (below_step HA3.out HJ_13.out).size
              obtain ⟨A_q4, c_q4, e_⟩ := Lr.slice hl_
              subst e_
              have Q4_134 := Aside0.mk hl_
              clear hl_ ho hb
              refine hK.out _ _ ⟨Bx.cell (Bx.below BA_3.out HJ_134.out), Bx.cell (Bx.below BB_3.out HJ_134.out)⟩ (fun hHeld => ?_)
              clear hK K
              refine norm_ (a' := ?_) ?_ ?_
              rotate_left
              · show Act.put _ (some 32) _ = _
                simp only [Act.put, List.setIfInBounds_toArray, List.set_cons_zero, List.set_cons_succ, i64_w, i32_w]
                rfl
              refine pure_ (i := 5) (N := some 27) (v := ?_) (a' := ?_) #[true, true, true, true, true, true, false, false, false, false, false] rfl rfl (by kernel_rfl) (fun _ _ _ h => h) (Or.inl ⟨by rfl, ?_⟩) ?_ ?_
              rotate_left
              · intro w'
                go_simp
                with_reducible rfl
              rotate_left
              · simp only [Act.put, List.setIfInBounds_toArray, List.set_cons_zero, List.set_cons_succ, i64_w, i32_w]
                rfl
              refine pure_ (i := 6) (N := some 33) (v := ?_) (a' := ?_) #[true, true, true, true, true, true, true, false, false, false, false] rfl rfl (by kernel_rfl) (fun _ _ _ h => h) (Or.inl ⟨by rfl, ?_⟩) ?_ ?_
              rotate_left
              · intro w'
                go_simp
                with_reducible rfl
              rotate_left
              · simp only [Act.put, List.setIfInBounds_toArray, List.set_cons_zero, List.set_cons_succ, i64_w, i32_w]
                rfl
              refine pure_ (i := 7) (N := some 34) (v := ?_) (a' := ?_) #[true, true, true, true, true, true, true, true, false, false, false] rfl rfl (by kernel_rfl) (fun _ _ _ h => h) (Or.inl ⟨by rfl, ?_⟩) ?_ ?_
              rotate_left
              · intro w'
                go_simp
                with_reducible rfl
              rotate_left
              · simp only [Act.put, List.setIfInBounds_toArray, List.set_cons_zero, List.set_cons_succ, i64_w, i32_w]
                rfl
              refine one_ (i := 8) (N := some 6) #[true, true, true, true, true, true, true, true, true, false, false] rfl rfl (by kernel_rfl) (by decide) (fun K hK => ?_)
              refine value_ (w1 := ?_) (v := ?_) (by rfl) rfl ?_ ?_
              rotate_left 2
              · go_simp
                constructor
                · rfl
                · rfl
              obtain ⟨u_1348, hu_⟩ : ∃ u_, u_ = u_134.alloc (.cells #[.slice none 0 0] 29) := ⟨_, rfl⟩
              rw [← hu_]
              obtain ⟨q0, hb⟩ := one (w := u_134) (.slice none 0 0) 29
              rw [← hu_] at q0 hb
              have HJ_1348 := Aside0.mk (below_step HJ_134.out hb)
              have Q1_1348 := Aside0.mk (Lr.below Q1_134.out hb)
              have Q3_1348 := Aside0.mk (Lr.below Q3_134.out hb)
              have Q4_1348 := Aside0.mk (Lr.below Q4_134.out hb)
              have R4_1348 := Aside0.mk (Rng.mono R4_134.out (Nat.le_refl _) hb.size)
              have Z_1348 := Aside0.mk q0
              clear hb hu_ q0
              refine hK.out _ _ ⟨Bx.cell (Bx.below BA_3.out HJ_1348.out), Bx.cell (Bx.below BB_3.out HJ_1348.out)⟩ (fun hHeld => ?_)
              clear hK K
              refine norm_ (a' := ?_) ?_ ?_
              rotate_left
              · show Act.put _ (some 6) _ = _
                simp only [Act.put, List.setIfInBounds_toArray, List.set_cons_zero, List.set_cons_succ, i64_w, i32_w]
                rfl
              exact norm_ (by simp only [putAll, Act.put, List.setIfInBounds_toArray, List.set_cons_zero, List.set_cons_succ]) (hCont (.slice A_q1 L.length c_q1, .slice A_q3 M.length c_q3, .slice A_q4 s0.length c_q4, u_134.heap.size) _ ⟨HJ_1348.out, Q4_1348.out, R4_1348.out, Z_1348.out, HJ_134.out.size⟩)
            · skip
              refine value_ (w1 := ?_) (v := ?_) (by rfl) rfl ?_ ?_
              rotate_left 2
              · go_simp
                constructor
                · rfl
                · rfl
              obtain ⟨u_138, hu_⟩ : ∃ u_, u_ = u_13.alloc (.cells #[.slice none 0 0] 29) := ⟨_, rfl⟩
              rw [← hu_]
              obtain ⟨q0, hb⟩ := one (w := u_13) (.slice none 0 0) 29
              rw [← hu_] at q0 hb
              have HJ_138 := Aside0.mk (below_step HJ_13.out hb)
              have Q1_138 := Aside0.mk (Lr.below Q1_13.out hb)
              have Q3_138 := Aside0.mk (Lr.below Q3_13.out hb)
              have Z_138 := Aside0.mk q0
              clear hb hu_ q0
              refine hK.out _ _ ⟨Bx.cell (Bx.below BA_3.out HJ_138.out), Bx.cell (Bx.below BB_3.out HJ_138.out)⟩ (fun hHeld => ?_)
              clear hK K
              refine norm_ (a' := ?_) ?_ ?_
              rotate_left
              · show Act.put _ (some 6) _ = _
                simp only [Act.put, List.setIfInBounds_toArray, List.set_cons_zero, List.set_cons_succ, i64_w, i32_w]
                rfl
              refine one_ (i := 4) (N := some 32) #[true, true, true, true, true, false, false, false, true, false, false] rfl rfl (by kernel_rfl) (by decide) (fun K hK => ?_)
              refine goes_ Try.func28 (by kernel_rfl) rfl #[.agg #[.slice A_q1 L.length c_q1], .agg #[.slice A_q3 M.length c_q3]] (by rfl) rfl rfl (by simp only [List.map_toArray, List.map_cons, List.map_nil]; rfl) ?_
              with_reducible refine (spec_JoinTreaps.calls A_q1 c_q1 L A_q3 c_q3 M s0 sb _ (Lr.c Q1_138.out) (Lr.n Q1_138.out) (Lr.c Q3_138.out) (Lr.n Q3_138.out) E2.out).mono ?_
              rintro e u_1384 ⟨v_, rfl, ho, hb⟩
              refine ⟨_, rfl, ?_⟩
              have HJ_1384 := Aside0.mk (below_step HJ_138.out hb)
              have Q1_1384 := Aside0.mk (Lr.below Q1_138.out hb)
              have Q3_1384 := Aside0.mk (Lr.below Q3_138.out hb)
              have Z_1384 := Aside0.mk (Bx.below Z_138.out hb)
              have R4_1384 := Aside0.mk (Rng.mono (Rng.of ho) HJ_138.out.size (Nat.le_refl _))
              have hl_ := Lr.of (lo := w.heap.size) ho (below_step HA3.out HJ_138.out).size
              obtain ⟨A_q4, c_q4, e_⟩ := Lr.slice hl_
              subst e_
              have Q4_1384 := Aside0.mk hl_
              clear hl_ ho hb
              refine hK.out _ _ ⟨Bx.cell (Bx.below BA_3.out HJ_1384.out), Bx.cell (Bx.below BB_3.out HJ_1384.out)⟩ (fun hHeld => ?_)
              clear hK K
              refine norm_ (a' := ?_) ?_ ?_
              rotate_left
              · show Act.put _ (some 32) _ = _
                simp only [Act.put, List.setIfInBounds_toArray, List.set_cons_zero, List.set_cons_succ, i64_w, i32_w]
                rfl
              refine pure_ (i := 5) (N := some 27) (v := ?_) (a' := ?_) #[true, true, true, true, true, true, false, false, true, false, false] rfl rfl (by kernel_rfl) (fun _ _ _ h => h) (Or.inl ⟨by rfl, ?_⟩) ?_ ?_
              rotate_left
              · intro w'
                go_simp
                with_reducible rfl
              rotate_left
              · simp only [Act.put, List.setIfInBounds_toArray, List.set_cons_zero, List.set_cons_succ, i64_w, i32_w]
                rfl
              refine pure_ (i := 6) (N := some 33) (v := ?_) (a' := ?_) #[true, true, true, true, true, true, true, false, true, false, false] rfl rfl (by kernel_rfl) (fun _ _ _ h => h) (Or.inl ⟨by rfl, ?_⟩) ?_ ?_
              rotate_left
              · intro w'
                go_simp
                with_reducible rfl
              rotate_left
              · simp only [Act.put, List.setIfInBounds_toArray, List.set_cons_zero, List.set_cons_succ, i64_w, i32_w]
                rfl
              refine pure_ (i := 7) (N := some 34) (v := ?_) (a' := ?_) #[true, true, true, true, true, true, true, true, true, false, false] rfl rfl (by kernel_rfl) (fun _ _ _ h => h) (Or.inl ⟨by rfl, ?_⟩) ?_ ?_
              rotate_left
              · intro w'
                go_simp
                with_reducible rfl
              rotate_left
              · simp only [Act.put, List.setIfInBounds_toArray, List.set_cons_zero, List.set_cons_succ, i64_w, i32_w]
                rfl
              exact norm_ (by simp only [putAll, Act.put, List.setIfInBounds_toArray, List.set_cons_zero, List.set_cons_succ]) (hCont (.slice A_q1 L.length c_q1, .slice A_q3 M.length c_q3, .slice A_q4 s0.length c_q4, u_13.heap.size) _ ⟨HJ_1384.out, Q4_1384.out, R4_1384.out, Z_1384.out, HJ_13.out.size⟩)
          · skip
            refine value_ (w1 := ?_) (v := ?_) (by rfl) rfl ?_ ?_
            rotate_left 2
            · go_simp
              constructor
              · rfl
              · rfl
            obtain ⟨u_18, hu_⟩ : ∃ u_, u_ = u_1.alloc (.cells #[.slice none 0 0] 29) := ⟨_, rfl⟩
            rw [← hu_]
            obtain ⟨q0, hb⟩ := one (w := u_1) (.slice none 0 0) 29
            rw [← hu_] at q0 hb
            have HJ_18 := Aside0.mk (below_step HJ_1.out hb)
            have Q1_18 := Aside0.mk (Lr.below Q1_1.out hb)
            have Z_18 := Aside0.mk q0
            clear hb hu_ q0
            refine hK.out _ _ ⟨Bx.cell (Bx.below BA_3.out HJ_18.out), Bx.cell (Bx.below BB_3.out HJ_18.out)⟩ (fun hHeld => ?_)
            clear hK K
            refine norm_ (a' := ?_) ?_ ?_
            rotate_left
            · show Act.put _ (some 6) _ = _
              simp only [Act.put, List.setIfInBounds_toArray, List.set_cons_zero, List.set_cons_succ, i64_w, i32_w]
              rfl
            refine one_ (i := 3) (N := some 31) #[true, true, true, true, false, false, false, false, true, false, false] rfl rfl (by kernel_rfl) (by decide) (fun K hK => ?_)
            refine goes_ Try.func15 (by kernel_rfl) rfl #[.agg #[.slice B m.length d]] (by rfl) rfl rfl (by simp only [List.map_toArray, List.map_cons, List.map_nil]; rfl) ?_
            with_reducible refine (laws_toTreap.calls k1b B d m M _ (Kd.C_below HRB.out (below_step HA3.out HJ_18.out)) HCB.out E1b.out).mono ?_
            rintro e u_183 ⟨v_, rfl, ho, hb⟩
            refine ⟨_, rfl, ?_⟩
            have HJ_183 := Aside0.mk (below_step HJ_18.out hb)
            have Q1_183 := Aside0.mk (Lr.below Q1_18.out hb)
            have Z_183 := Aside0.mk (Bx.below Z_18.out hb)
            have hl_ := Lr.of (lo := w.heap.size) ho (below_step HA3.out HJ_18.out).size
            obtain ⟨A_q3, c_q3, e_⟩ := Lr.slice hl_
            subst e_
            have Q3_183 := Aside0.mk hl_
            clear hl_ ho hb
            refine hK.out _ _ ⟨Bx.cell (Bx.below BA_3.out HJ_183.out), Bx.cell (Bx.below BB_3.out HJ_183.out)⟩ (fun hHeld => ?_)
            clear hK K
            refine norm_ (a' := ?_) ?_ ?_
            rotate_left
            · show Act.put _ (some 31) _ = _
              simp only [Act.put, List.setIfInBounds_toArray, List.set_cons_zero, List.set_cons_succ, i64_w, i32_w]
              rfl
            refine one_ (i := 4) (N := some 32) #[true, true, true, true, true, false, false, false, true, false, false] rfl rfl (by kernel_rfl) (by decide) (fun K hK => ?_)
            refine goes_ Try.func28 (by kernel_rfl) rfl #[.agg #[.slice A_q1 L.length c_q1], .agg #[.slice A_q3 M.length c_q3]] (by rfl) rfl rfl (by simp only [List.map_toArray, List.map_cons, List.map_nil]; rfl) ?_
            with_reducible refine (spec_JoinTreaps.calls A_q1 c_q1 L A_q3 c_q3 M s0 sb _ (Lr.c Q1_183.out) (Lr.n Q1_183.out) (Lr.c Q3_183.out) (Lr.n Q3_183.out) E2.out).mono ?_
            rintro e u_1834 ⟨v_, rfl, ho, hb⟩
            refine ⟨_, rfl, ?_⟩
            have HJ_1834 := Aside0.mk (below_step HJ_183.out hb)
            have Q1_1834 := Aside0.mk (Lr.below Q1_183.out hb)
            have Q3_1834 := Aside0.mk (Lr.below Q3_183.out hb)
            have Z_1834 := Aside0.mk (Bx.below Z_183.out hb)
            have R4_1834 := Aside0.mk (Rng.mono (Rng.of ho) HJ_183.out.size (Nat.le_refl _))
            have hl_ := Lr.of (lo := w.heap.size) ho (below_step HA3.out HJ_183.out).size
            obtain ⟨A_q4, c_q4, e_⟩ := Lr.slice hl_
            subst e_
            have Q4_1834 := Aside0.mk hl_
            clear hl_ ho hb
            refine hK.out _ _ ⟨Bx.cell (Bx.below BA_3.out HJ_1834.out), Bx.cell (Bx.below BB_3.out HJ_1834.out)⟩ (fun hHeld => ?_)
            clear hK K
            refine norm_ (a' := ?_) ?_ ?_
            rotate_left
            · show Act.put _ (some 32) _ = _
              simp only [Act.put, List.setIfInBounds_toArray, List.set_cons_zero, List.set_cons_succ, i64_w, i32_w]
              rfl
            refine pure_ (i := 5) (N := some 27) (v := ?_) (a' := ?_) #[true, true, true, true, true, true, false, false, true, false, false] rfl rfl (by kernel_rfl) (fun _ _ _ h => h) (Or.inl ⟨by rfl, ?_⟩) ?_ ?_
            rotate_left
            · intro w'
              go_simp
              with_reducible rfl
            rotate_left
            · simp only [Act.put, List.setIfInBounds_toArray, List.set_cons_zero, List.set_cons_succ, i64_w, i32_w]
              rfl
            refine pure_ (i := 6) (N := some 33) (v := ?_) (a' := ?_) #[true, true, true, true, true, true, true, false, true, false, false] rfl rfl (by kernel_rfl) (fun _ _ _ h => h) (Or.inl ⟨by rfl, ?_⟩) ?_ ?_
            rotate_left
            · intro w'
              go_simp
              with_reducible rfl
            rotate_left
            · simp only [Act.put, List.setIfInBounds_toArray, List.set_cons_zero, List.set_cons_succ, i64_w, i32_w]
              rfl
            refine pure_ (i := 7) (N := some 34) (v := ?_) (a' := ?_) #[true, true, true, true, true, true, true, true, true, false, false] rfl rfl (by kernel_rfl) (fun _ _ _ h => h) (Or.inl ⟨by rfl, ?_⟩) ?_ ?_
            rotate_left
            · intro w'
              go_simp
              with_reducible rfl
            rotate_left
            · simp only [Act.put, List.setIfInBounds_toArray, List.set_cons_zero, List.set_cons_succ, i64_w, i32_w]
              rfl
            exact norm_ (by simp only [putAll, Act.put, List.setIfInBounds_toArray, List.set_cons_zero, List.set_cons_succ]) (hCont (.slice A_q1 L.length c_q1, .slice A_q3 M.length c_q3, .slice A_q4 s0.length c_q4, u_1.heap.size) _ ⟨HJ_1834.out, Q4_1834.out, R4_1834.out, Z_1834.out, HJ_1.out.size⟩)
        · skip
          refine value_ (w1 := ?_) (v := ?_) (by rfl) rfl ?_ ?_
          rotate_left 2
          · go_simp
            constructor
            · rfl
            · rfl
          obtain ⟨u_8, hu_⟩ : ∃ u_, u_ = w3.alloc (.cells #[.slice none 0 0] 29) := ⟨_, rfl⟩
          rw [← hu_]
          obtain ⟨q0, hb⟩ := one (w := w3) (.slice none 0 0) 29
          rw [← hu_] at q0 hb
          have HJ_8 := Aside0.mk (below_step (Below.refl w3.heap.size w3) hb)
          have Z_8 := Aside0.mk q0
          clear hb hu_ q0
          refine hK.out _ _ ⟨Bx.cell (Bx.below BA_3.out HJ_8.out), Bx.cell (Bx.below BB_3.out HJ_8.out)⟩ (fun hHeld => ?_)
          clear hK K
          refine norm_ (a' := ?_) ?_ ?_
          rotate_left
          · show Act.put _ (some 6) _ = _
            simp only [Act.put, List.setIfInBounds_toArray, List.set_cons_zero, List.set_cons_succ, i64_w, i32_w]
            rfl
          refine one_ (i := 1) (N := some 29) #[true, true, true, false, false, false, false, false, true, false, false] rfl rfl (by kernel_rfl) (by decide) (fun K hK => ?_)
          refine goes_ Try.func15 (by kernel_rfl) rfl #[.agg #[.slice A l.length c]] (by rfl) rfl rfl (by simp only [List.map_toArray, List.map_cons, List.map_nil]; rfl) ?_
          with_reducible refine (laws_toTreap.calls k1 A c l L _ (Kd.C_below HR.out (below_step HA3.out HJ_8.out)) HC.out E1.out).mono ?_
          rintro e u_81 ⟨v_, rfl, ho, hb⟩
          refine ⟨_, rfl, ?_⟩
          have HJ_81 := Aside0.mk (below_step HJ_8.out hb)
          have Z_81 := Aside0.mk (Bx.below Z_8.out hb)
          have hl_ := Lr.of (lo := w.heap.size) ho (below_step HA3.out HJ_8.out).size
          obtain ⟨A_q1, c_q1, e_⟩ := Lr.slice hl_
          subst e_
          have Q1_81 := Aside0.mk hl_
          clear hl_ ho hb
          refine hK.out _ _ ⟨Bx.cell (Bx.below BA_3.out HJ_81.out), Bx.cell (Bx.below BB_3.out HJ_81.out)⟩ (fun hHeld => ?_)
          clear hK K
          refine norm_ (a' := ?_) ?_ ?_
          rotate_left
          · show Act.put _ (some 29) _ = _
            simp only [Act.put, List.setIfInBounds_toArray, List.set_cons_zero, List.set_cons_succ, i64_w, i32_w]
            rfl
          refine one_ (i := 3) (N := some 31) #[true, true, true, true, false, false, false, false, true, false, false] rfl rfl (by kernel_rfl) (by decide) (fun K hK => ?_)
          refine goes_ Try.func15 (by kernel_rfl) rfl #[.agg #[.slice B m.length d]] (by rfl) rfl rfl (by simp only [List.map_toArray, List.map_cons, List.map_nil]; rfl) ?_
          with_reducible refine (laws_toTreap.calls k1b B d m M _ (Kd.C_below HRB.out (below_step HA3.out HJ_81.out)) HCB.out E1b.out).mono ?_
          rintro e u_813 ⟨v_, rfl, ho, hb⟩
          refine ⟨_, rfl, ?_⟩
          have HJ_813 := Aside0.mk (below_step HJ_81.out hb)
          have Q1_813 := Aside0.mk (Lr.below Q1_81.out hb)
          have Z_813 := Aside0.mk (Bx.below Z_81.out hb)
          have hl_ := Lr.of (lo := w.heap.size) ho (below_step HA3.out HJ_81.out).size
          obtain ⟨A_q3, c_q3, e_⟩ := Lr.slice hl_
          subst e_
          have Q3_813 := Aside0.mk hl_
          clear hl_ ho hb
          refine hK.out _ _ ⟨Bx.cell (Bx.below BA_3.out HJ_813.out), Bx.cell (Bx.below BB_3.out HJ_813.out)⟩ (fun hHeld => ?_)
          clear hK K
          refine norm_ (a' := ?_) ?_ ?_
          rotate_left
          · show Act.put _ (some 31) _ = _
            simp only [Act.put, List.setIfInBounds_toArray, List.set_cons_zero, List.set_cons_succ, i64_w, i32_w]
            rfl
          refine one_ (i := 4) (N := some 32) #[true, true, true, true, true, false, false, false, true, false, false] rfl rfl (by kernel_rfl) (by decide) (fun K hK => ?_)
          refine goes_ Try.func28 (by kernel_rfl) rfl #[.agg #[.slice A_q1 L.length c_q1], .agg #[.slice A_q3 M.length c_q3]] (by rfl) rfl rfl (by simp only [List.map_toArray, List.map_cons, List.map_nil]; rfl) ?_
          with_reducible refine (spec_JoinTreaps.calls A_q1 c_q1 L A_q3 c_q3 M s0 sb _ (Lr.c Q1_813.out) (Lr.n Q1_813.out) (Lr.c Q3_813.out) (Lr.n Q3_813.out) E2.out).mono ?_
          rintro e u_8134 ⟨v_, rfl, ho, hb⟩
          refine ⟨_, rfl, ?_⟩
          have HJ_8134 := Aside0.mk (below_step HJ_813.out hb)
          have Q1_8134 := Aside0.mk (Lr.below Q1_813.out hb)
          have Q3_8134 := Aside0.mk (Lr.below Q3_813.out hb)
          have Z_8134 := Aside0.mk (Bx.below Z_813.out hb)
          have R4_8134 := Aside0.mk (Rng.mono (Rng.of ho) HJ_813.out.size (Nat.le_refl _))
          have hl_ := Lr.of (lo := w.heap.size) ho (below_step HA3.out HJ_813.out).size
          obtain ⟨A_q4, c_q4, e_⟩ := Lr.slice hl_
          subst e_
          have Q4_8134 := Aside0.mk hl_
          clear hl_ ho hb
          refine hK.out _ _ ⟨Bx.cell (Bx.below BA_3.out HJ_8134.out), Bx.cell (Bx.below BB_3.out HJ_8134.out)⟩ (fun hHeld => ?_)
          clear hK K
          refine norm_ (a' := ?_) ?_ ?_
          rotate_left
          · show Act.put _ (some 32) _ = _
            simp only [Act.put, List.setIfInBounds_toArray, List.set_cons_zero, List.set_cons_succ, i64_w, i32_w]
            rfl
          refine pure_ (i := 5) (N := some 27) (v := ?_) (a' := ?_) #[true, true, true, true, true, true, false, false, true, false, false] rfl rfl (by kernel_rfl) (fun _ _ _ h => h) (Or.inl ⟨by rfl, ?_⟩) ?_ ?_
          rotate_left
          · intro w'
            go_simp
            with_reducible rfl
          rotate_left
          · simp only [Act.put, List.setIfInBounds_toArray, List.set_cons_zero, List.set_cons_succ, i64_w, i32_w]
            rfl
          refine pure_ (i := 6) (N := some 33) (v := ?_) (a' := ?_) #[true, true, true, true, true, true, true, false, true, false, false] rfl rfl (by kernel_rfl) (fun _ _ _ h => h) (Or.inl ⟨by rfl, ?_⟩) ?_ ?_
          rotate_left
          · intro w'
            go_simp
            with_reducible rfl
          rotate_left
          · simp only [Act.put, List.setIfInBounds_toArray, List.set_cons_zero, List.set_cons_succ, i64_w, i32_w]
            rfl
          refine pure_ (i := 7) (N := some 34) (v := ?_) (a' := ?_) #[true, true, true, true, true, true, true, true, true, false, false] rfl rfl (by kernel_rfl) (fun _ _ _ h => h) (Or.inl ⟨by rfl, ?_⟩) ?_ ?_
          rotate_left
          · intro w'
            go_simp
            with_reducible rfl
          rotate_left
          · simp only [Act.put, List.setIfInBounds_toArray, List.set_cons_zero, List.set_cons_succ, i64_w, i32_w]
            rfl
          exact norm_ (by simp only [putAll, Act.put, List.setIfInBounds_toArray, List.set_cons_zero, List.set_cons_succ]) (hCont (.slice A_q1 L.length c_q1, .slice A_q3 M.length c_q3, .slice A_q4 s0.length c_q4, w3.heap.size) _ ⟨HJ_8134.out, Q4_8134.out, R4_8134.out, Z_8134.out, (Below.refl w3.heap.size w3).size⟩)
      rintro ⟨va_, vb_, vc_, bz_S0_⟩ w4 ⟨hb, hl_, hr_, hz_, hs_⟩
      have HA4 := Aside0.mk (below_step HA3.out hb)
      have BA_4 := Aside0.mk (Bx.below BA_3.out hb)
      have BB_4 := Aside0.mk (Bx.below BB_3.out hb)
      have HZ3 := Aside0.mk hb.size
      have RG_S0_ := Aside0.mk hr_
      obtain ⟨A_S0_, c_S0_, e_⟩ := Lr.slice (show Lr w4 w.heap.size vc_ s0 from hl_)
      subst e_
      have S0_4 := Aside0.mk (show Lr w4 w.heap.size (.slice A_S0_ s0.length c_S0_) s0 from hl_)
      have Z_4 := Aside0.mk (show Bx w4 bz_S0_ (.slice none 0 0) 29 from hz_)
      have HS_bz_S0_ := Aside0.mk (show w3.heap.size ≤ bz_S0_ from hs_)
      have HL_bz_S0_ := Aside0.mk (blk_lt hz_)
      clear hl_ hr_ hz_ hs_ HA3 BA_3 BB_3 hb
      have hHeld := (⟨Bx.cell BA_4.out, Bx.cell BB_4.out⟩ : w4.cell? ⟨w.heap.size, 0, none⟩ = some (.slice A l.length c) ∧ w4.cell? ⟨w.heap.size + 1, 0, none⟩ = some (.slice B m.length d))
      refine norm_ (a' := ?_) ?_ ?_
      rotate_left
      · simp only [putAll, Act.put, List.setIfInBounds_toArray, List.set_cons_zero, List.set_cons_succ]
        rfl
      refine one_ (i := 9) (N := none) #[true, true, true, true, true, true, true, true, true, true, false] rfl rfl (by kernel_rfl) (by decide) (fun K hK => ?_)
      have hz0_ := Bx.cell Z_4.out
      have hzf_ := blk_frozen Z_4.out 0
      refine skip_ (w1 := ?_) (by rfl) rfl ?_ ?_
      rotate_left
      · go_simp
        rfl
      obtain ⟨w5, hw⟩ : ∃ W_, W_ = w4.setCell ⟨bz_S0_, 0, none⟩ (.slice A_S0_ s0.length c_S0_) := ⟨_, rfl⟩
      rw [← hw]
      have hz_ := Z_4.out
      have HA5 := Aside0.mk (show Below w.heap.size w w5 by rw [hw]; exact HA4.out.setCell (p := ⟨bz_S0_, 0, none⟩) (show w.heap.size ≤ bz_S0_ by have h2 := HS_bz_S0_.out; have := HWS.out; have := HZ0.out; have := HZ1.out; have := HZ2.out; omega) _)
      have S0_5 := Aside0.mk (show Lr w5 w.heap.size _ _ by rw [hw]; exact Lr.set S0_4.out hz_ _)
      have BA_5 := Aside0.mk (show Bx w5 _ _ _ by rw [hw]; exact Bx.set BA_4.out (by have h2 := HS_bz_S0_.out; have := HWS.out; have := HZ0.out; have := HZ1.out; have := HZ2.out; omega) _)
      have BB_5 := Aside0.mk (show Bx w5 _ _ _ by rw [hw]; exact Bx.set BB_4.out (by have h2 := HS_bz_S0_.out; have := HWS.out; have := HZ0.out; have := HZ1.out; have := HZ2.out; omega) _)
      have BS0_5 := Aside0.mk (show Bx w5 bz_S0_ (.slice A_S0_ s0.length c_S0_) 29 by rw [hw]; exact Bx.put hz_ _)
      have HZ4 := Aside0.mk (show w4.heap.size ≤ w5.heap.size by rw [hw]; simp [World.setCell])
      clear hz0_ hzf_ hz_ hw Z_4 HA4 S0_4 BA_4 BB_4
      refine hK.out _ _ ⟨Bx.cell BA_5.out, Bx.cell BB_5.out⟩ (fun hHeld => ?_)
      clear hK K
      refine pure_ (i := 10) (N := some 7) (v := ?_) (a' := ?_) #[true, true, true, true, true, true, true, true, true, true, true] rfl rfl (by kernel_rfl) (fun _ _ _ h => h) (Or.inl ⟨by rfl, ?_⟩) ?_ ?_
      rotate_left
      · intro w'
        go_simp
        with_reducible rfl
      rotate_left
      · simp only [Act.put, List.setIfInBounds_toArray, List.set_cons_zero, List.set_cons_succ, i64_w, i32_w]
        rfl
      refine done_ (by kernel_rfl) ?_
      have cc_BA_ : w5.cell? ⟨w.heap.size, 0, none⟩ = some (.slice A l.length c) := Bx.cell BA_5.out
      go_upto_region 10 with (first | (go_at_call 15; go_loud ((with_reducible refine (laws_toTreap.calls k1 A c l L _ (Kd.C_below HR.out HA5.out) HC.out E1.out).mono ?_); rintro e w6 ⟨v_X_, rfl, ho, hb⟩; have HA6 := Aside0.mk (below_step HA5.out hb); have S0_6 := Aside0.mk (Lr.below S0_5.out hb); have BA_6 := Aside0.mk (Bx.below BA_5.out hb); have BB_6 := Aside0.mk (Bx.below BB_5.out hb); have BS0_6 := Aside0.mk (Bx.below BS0_5.out hb); have HZ5 := Aside0.mk hb.size; have RG_X_ := Aside0.mk (Rng.of ho); have hl_ := Lr.of (lo := w.heap.size) ho HA5.out.size; obtain ⟨A_X_, c_X_, e_X_⟩ := Lr.slice hl_; subst e_X_; have X_6 := Aside0.mk hl_; clear hl_ ho; clear HA5 S0_5 BA_5 BB_5 BS0_5; clear hb; clear cc_BA_; obtain ⟨w7, hw⟩ : ∃ W_, W_ = (w6.alloc (.cells #[.slice A_X_ L.length c_X_] 29)) := ⟨_, rfl⟩; have HW7 := Aside0.mk hw; obtain ⟨q0, hb⟩ := one (w := w6) (.slice A_X_ L.length c_X_) 29; have hz2 : w6.heap.size + 1 ≤ w7.heap.size := (by rw [hw, new_size]; exact Nat.le_refl _); rw [← hw] at q0 hb; have HA7 := Aside0.mk (below_step HA6.out hb); have S0_7 := Aside0.mk (Lr.below S0_6.out hb); have X_7 := Aside0.mk (Lr.below X_6.out hb); have BA_7 := Aside0.mk (Bx.below BA_6.out hb); have BB_7 := Aside0.mk (Bx.below BB_6.out hb); have BS0_7 := Aside0.mk (Bx.below BS0_6.out hb); have HZ6 := Aside0.mk hz2; clear HA6 S0_6 X_6 BA_6 BB_6 BS0_6; have BX_7 := Aside0.mk q0; clear hb hw hz2 q0; have cc_BB_ : w7.cell? ⟨w.heap.size + 1, 0, none⟩ = some (.slice B m.length d) := Bx.cell BB_7.out)))
      rw [← HW7.out]
      go_upto_region 11 with (first | (go_at_call 15; go_loud ((with_reducible refine (laws_toTreap.calls k1b B d m M _ (Kd.C_below HRB.out HA7.out) HCB.out E1b.out).mono ?_); rintro e w8 ⟨v_Y2_, rfl, ho, hb⟩; have HA8 := Aside0.mk (below_step HA7.out hb); have S0_8 := Aside0.mk (Lr.below S0_7.out hb); have X_8 := Aside0.mk (Lr.below X_7.out hb); have BA_8 := Aside0.mk (Bx.below BA_7.out hb); have BB_8 := Aside0.mk (Bx.below BB_7.out hb); have BS0_8 := Aside0.mk (Bx.below BS0_7.out hb); have BX_8 := Aside0.mk (Bx.below BX_7.out hb); have HZ7 := Aside0.mk hb.size; have RG_Y2_ := Aside0.mk (Rng.of ho); have hl_ := Lr.of (lo := w.heap.size) ho HA7.out.size; obtain ⟨A_Y2_, c_Y2_, e_Y2_⟩ := Lr.slice hl_; subst e_Y2_; have Y2_8 := Aside0.mk hl_; clear hl_ ho; clear HA7 S0_7 X_7 BA_7 BB_7 BS0_7 BX_7; clear hb; clear cc_BB_; obtain ⟨w9, hw⟩ : ∃ W_, W_ = (w8.alloc (.cells #[.slice A_Y2_ M.length c_Y2_] 29)) := ⟨_, rfl⟩; have HW9 := Aside0.mk hw; obtain ⟨q0, hb⟩ := one (w := w8) (.slice A_Y2_ M.length c_Y2_) 29; have hz2 : w8.heap.size + 1 ≤ w9.heap.size := (by rw [hw, new_size]; exact Nat.le_refl _); rw [← hw] at q0 hb; have HA9 := Aside0.mk (below_step HA8.out hb); have S0_9 := Aside0.mk (Lr.below S0_8.out hb); have X_9 := Aside0.mk (Lr.below X_8.out hb); have Y2_9 := Aside0.mk (Lr.below Y2_8.out hb); have BA_9 := Aside0.mk (Bx.below BA_8.out hb); have BB_9 := Aside0.mk (Bx.below BB_8.out hb); have BS0_9 := Aside0.mk (Bx.below BS0_8.out hb); have BX_9 := Aside0.mk (Bx.below BX_8.out hb); have HZ8 := Aside0.mk hz2; clear HA8 S0_8 X_8 Y2_8 BA_8 BB_8 BS0_8 BX_8; have BY_9 := Aside0.mk q0; clear hb hw hz2 q0; have cc_BX_ : w9.cell? ⟨w6.heap.size, 0, none⟩ = some (.slice A_X_ L.length c_X_) := Bx.cell BX_9.out; have cc_BY_ : w9.cell? ⟨w8.heap.size, 0, none⟩ = some (.slice A_Y2_ M.length c_Y2_) := Bx.cell BY_9.out)))
      rw [← HW9.out]
      go_upto_region 12 with (first | (go_at_call 29; go_loud ((with_reducible refine (impl_JoinTreaps.calls A_X_ c_X_ L A_Y2_ c_Y2_ M s0 sb _ (Lr.c X_9.out) (Lr.n X_9.out) (Lr.c Y2_9.out) (Lr.n Y2_9.out) E3.out).mono ?_); rintro e w10 ⟨v_G0_, rfl, ho, hb⟩; have HA10 := Aside0.mk (below_step HA9.out hb); have S0_10 := Aside0.mk (Lr.below S0_9.out hb); have X_10 := Aside0.mk (Lr.below X_9.out hb); have Y2_10 := Aside0.mk (Lr.below Y2_9.out hb); have BA_10 := Aside0.mk (Bx.below BA_9.out hb); have BB_10 := Aside0.mk (Bx.below BB_9.out hb); have BS0_10 := Aside0.mk (Bx.below BS0_9.out hb); have BX_10 := Aside0.mk (Bx.below BX_9.out hb); have BY_10 := Aside0.mk (Bx.below BY_9.out hb); have HZ9 := Aside0.mk hb.size; have RG_G0_ := Aside0.mk (Rng.of ho); have hl_ := Lr.of (lo := w.heap.size) ho HA9.out.size; obtain ⟨A_G0_, c_G0_, e_G0_⟩ := Lr.slice hl_; subst e_G0_; have G0_10 := Aside0.mk hl_; clear hl_ ho; clear HA9 S0_9 X_9 Y2_9 BA_9 BB_9 BS0_9 BX_9 BY_9; clear hb; clear cc_BX_ cc_BY_; obtain ⟨w11, hw⟩ : ∃ W_, W_ = (w10.alloc (.cells #[.slice A_G0_ s0.length c_G0_] 29)) := ⟨_, rfl⟩; have HW11 := Aside0.mk hw; obtain ⟨q0, hb⟩ := one (w := w10) (.slice A_G0_ s0.length c_G0_) 29; have hz2 : w10.heap.size + 1 ≤ w11.heap.size := (by rw [hw, new_size]; exact Nat.le_refl _); rw [← hw] at q0 hb; have HA11 := Aside0.mk (below_step HA10.out hb); have S0_11 := Aside0.mk (Lr.below S0_10.out hb); have X_11 := Aside0.mk (Lr.below X_10.out hb); have Y2_11 := Aside0.mk (Lr.below Y2_10.out hb); have G0_11 := Aside0.mk (Lr.below G0_10.out hb); have BA_11 := Aside0.mk (Bx.below BA_10.out hb); have BB_11 := Aside0.mk (Bx.below BB_10.out hb); have BS0_11 := Aside0.mk (Bx.below BS0_10.out hb); have BX_11 := Aside0.mk (Bx.below BX_10.out hb); have BY_11 := Aside0.mk (Bx.below BY_10.out hb); have HZ10 := Aside0.mk hz2; clear HA10 S0_10 X_10 Y2_10 G0_10 BA_10 BB_10 BS0_10 BX_10 BY_10; have BG0_11 := Aside0.mk q0; clear hb hw hz2 q0; have cc_BG0_ : w11.cell? ⟨w10.heap.size, 0, none⟩ = some (.slice A_G0_ s0.length c_G0_) := Bx.cell BG0_11.out; have cc_BS0_ : w11.cell? ⟨bz_S0_, 0, none⟩ = some (.slice A_S0_ s0.length c_S0_) := Bx.cell BS0_11.out)))
      rw [← HW11.out]
      go_upto_region 14 with (first | (go_at_call 17; go_loud ((with_reducible refine (laws_eqTreap.calls k4 A_G0_ c_G0_ s0 A_S0_ c_S0_ s0 true _ (Lr.c G0_11.out) (Lr.n G0_11.out) (Lr.c S0_11.out) (Lr.n S0_11.out) E4.out).mono ?_); rintro e w12 ⟨rfl, hb⟩; have HA12 := Aside0.mk (below_step HA11.out hb); have S0_12 := Aside0.mk (Lr.below S0_11.out hb); have X_12 := Aside0.mk (Lr.below X_11.out hb); have Y2_12 := Aside0.mk (Lr.below Y2_11.out hb); have G0_12 := Aside0.mk (Lr.below G0_11.out hb); have BA_12 := Aside0.mk (Bx.below BA_11.out hb); have BB_12 := Aside0.mk (Bx.below BB_11.out hb); have BS0_12 := Aside0.mk (Bx.below BS0_11.out hb); have BX_12 := Aside0.mk (Bx.below BX_11.out hb); have BY_12 := Aside0.mk (Bx.below BY_11.out hb); have BG0_12 := Aside0.mk (Bx.below BG0_11.out hb); have HZ11 := Aside0.mk hb.size; clear HA11 S0_11 X_11 Y2_11 G0_11 BA_11 BB_11 BS0_11 BX_11 BY_11 BG0_11; clear hb; clear cc_BG0_ cc_BS0_; have cc_BX_ : w12.cell? ⟨w6.heap.size, 0, none⟩ = some (.slice A_X_ L.length c_X_) := Bx.cell BX_12.out; have cc_BA_ : w12.cell? ⟨w.heap.size, 0, none⟩ = some (.slice A l.length c) := Bx.cell BA_12.out)))
      obtain ⟨w13, hw⟩ : ∃ W_, W_ = w12.drew := ⟨_, rfl⟩
      have HD13 := Aside0.mk hw
      have hb : Below w12.heap.size w12 w13 := by rw [hw]; exact (Below.refl _ _).drew
      have HA13 := Aside0.mk (below_step HA12.out hb)
      have S0_13 := Aside0.mk (Lr.below S0_12.out hb)
      have X_13 := Aside0.mk (Lr.below X_12.out hb)
      have Y2_13 := Aside0.mk (Lr.below Y2_12.out hb)
      have G0_13 := Aside0.mk (Lr.below G0_12.out hb)
      have BA_13 := Aside0.mk (Bx.below BA_12.out hb)
      have BB_13 := Aside0.mk (Bx.below BB_12.out hb)
      have BS0_13 := Aside0.mk (Bx.below BS0_12.out hb)
      have BX_13 := Aside0.mk (Bx.below BX_12.out hb)
      have BY_13 := Aside0.mk (Bx.below BY_12.out hb)
      have BG0_13 := Aside0.mk (Bx.below BG0_12.out hb)
      have HZ12 := Aside0.mk hb.size
      clear HA12 S0_12 X_12 Y2_12 G0_12 BA_12 BB_12 BS0_12 BX_12 BY_12 BG0_12
      clear hb hw cc_BX_ cc_BA_
      refine start_ (n := 5) (S := fun w' => w'.cell? ⟨w6.heap.size, 0, none⟩ = some (.slice A_X_ L.length c_X_) ∧ w'.cell? ⟨w.heap.size, 0, none⟩ = some (.slice A l.length c)) (ds := []) #[false, false, false, false, false] (by kernel_rfl) rfl rfl ⟨(HD13.out ▸ Bx.cell BX_13.out), (HD13.out ▸ Bx.cell BA_13.out)⟩ (fun hHeld => ?_)
      rw [← HD13.out] at hHeld ⊢
      refine take_ (i := 0) (N := some 54) (v := ?_) (a' := ?_) #[true, false, false, false, false] rfl rfl (by kernel_rfl) (fun _ _ _ h => h) (Or.inl ⟨by rfl, ?_⟩) hHeld ?_ ?_
      rotate_left
      · rintro w' ⟨s0, s1⟩
        go_simp
        with_reducible rfl
      rotate_left
      · simp only [Act.put, List.setIfInBounds_toArray, List.set_cons_zero, List.set_cons_succ, i64_w, i32_w]
        rfl
      refine take_ (i := 1) (N := some 55) (v := ?_) (a' := ?_) #[true, true, false, false, false] rfl rfl (by kernel_rfl) (fun _ _ _ h => h) (Or.inl ⟨by rfl, ?_⟩) hHeld ?_ ?_
      rotate_left
      · rintro w' ⟨s0, s1⟩
        go_simp
        with_reducible rfl
      rotate_left
      · simp only [Act.put, List.setIfInBounds_toArray, List.set_cons_zero, List.set_cons_succ, i64_w, i32_w]
        rfl
      refine one_ (i := 2) (N := some 56) #[true, true, true, false, false] rfl rfl (by kernel_rfl) (by decide) (fun K hK => ?_)
      refine goes_ Try.func15 (by kernel_rfl) rfl #[.agg #[.slice A l.length c]] (by rfl) rfl rfl (by simp only [List.map_toArray, List.map_cons, List.map_nil]; rfl) ?_
      with_reducible refine (laws_toTreap.calls k1 A c l L _ (Kd.C_below HR.out HA13.out) HC.out E1.out).mono ?_
      rintro e w14 ⟨v_Y_, rfl, ho, hb⟩
      refine ⟨_, rfl, ?_⟩
      have HA14 := Aside0.mk (below_step HA13.out hb)
      have S0_14 := Aside0.mk (Lr.below S0_13.out hb)
      have X_14 := Aside0.mk (Lr.below X_13.out hb)
      have Y2_14 := Aside0.mk (Lr.below Y2_13.out hb)
      have G0_14 := Aside0.mk (Lr.below G0_13.out hb)
      have BA_14 := Aside0.mk (Bx.below BA_13.out hb)
      have BB_14 := Aside0.mk (Bx.below BB_13.out hb)
      have BS0_14 := Aside0.mk (Bx.below BS0_13.out hb)
      have BX_14 := Aside0.mk (Bx.below BX_13.out hb)
      have BY_14 := Aside0.mk (Bx.below BY_13.out hb)
      have BG0_14 := Aside0.mk (Bx.below BG0_13.out hb)
      have HZ13 := Aside0.mk hb.size
      have hl_ := Lr.of (lo := w.heap.size) ho HA13.out.size
      obtain ⟨A_Y_, c_Y_, e_Y_⟩ := Lr.slice hl_
      subst e_Y_
      have Y_14 := Aside0.mk hl_
      clear hl_ ho
      clear HA13 S0_13 X_13 Y2_13 G0_13 BA_13 BB_13 BS0_13 BX_13 BY_13 BG0_13
      clear hb
      refine hK.out _ _ ⟨Bx.cell BX_14.out, Bx.cell BA_14.out⟩ (fun hHeld => ?_)
      clear hK K
      refine norm_ (a' := ?_) ?_ ?_
      rotate_left
      · show Act.put _ (some 56) _ = _
        simp only [Act.put, List.setIfInBounds_toArray, List.set_cons_zero, List.set_cons_succ, i64_w, i32_w]
        rfl
      refine one_ (i := 3) (N := some 57) #[true, true, true, true, false] rfl rfl (by kernel_rfl) (by decide) (fun K hK => ?_)
      refine goes_ Try.func17 (by kernel_rfl) rfl #[.agg #[.slice A_X_ L.length c_X_], .agg #[.slice A_Y_ L.length c_Y_]] (by rfl) rfl rfl (by simp only [List.map_toArray, List.map_cons, List.map_nil]; rfl) ?_
      with_reducible refine (laws_eqTreap.calls k6 A_X_ c_X_ L A_Y_ c_Y_ L true _ (Lr.c X_14.out) (Lr.n X_14.out) (Lr.c Y_14.out) (Lr.n Y_14.out) E6.out).mono ?_
      rintro e w15 ⟨rfl, hb⟩
      refine ⟨_, rfl, ?_⟩
      have HA15 := Aside0.mk (below_step HA14.out hb)
      have S0_15 := Aside0.mk (Lr.below S0_14.out hb)
      have X_15 := Aside0.mk (Lr.below X_14.out hb)
      have Y2_15 := Aside0.mk (Lr.below Y2_14.out hb)
      have G0_15 := Aside0.mk (Lr.below G0_14.out hb)
      have BA_15 := Aside0.mk (Bx.below BA_14.out hb)
      have BB_15 := Aside0.mk (Bx.below BB_14.out hb)
      have BS0_15 := Aside0.mk (Bx.below BS0_14.out hb)
      have BX_15 := Aside0.mk (Bx.below BX_14.out hb)
      have BY_15 := Aside0.mk (Bx.below BY_14.out hb)
      have BG0_15 := Aside0.mk (Bx.below BG0_14.out hb)
      have HZ14 := Aside0.mk hb.size
      clear HA14 S0_14 X_14 Y2_14 G0_14 BA_14 BB_14 BS0_14 BX_14 BY_14 BG0_14
      clear hb
      clear Y_14
      refine hK.out _ _ ⟨Bx.cell BX_15.out, Bx.cell BA_15.out⟩ (fun hHeld => ?_)
      clear hK K
      refine norm_ (a' := ?_) ?_ ?_
      rotate_left
      · show Act.put _ (some 57) _ = _
        simp only [Act.put, List.setIfInBounds_toArray, List.set_cons_zero, List.set_cons_succ, i64_w, i32_w]
        rfl
      refine pure_ (i := 4) (N := some 58) (v := ?_) (a' := ?_) #[true, true, true, true, true] rfl rfl (by kernel_rfl) (fun _ _ _ h => h) (Or.inl ⟨by rfl, ?_⟩) ?_ ?_
      rotate_left
      · intro w'
        go_simp
        with_reducible rfl
      rotate_left
      · simp only [Act.put, List.setIfInBounds_toArray, List.set_cons_zero, List.set_cons_succ, i64_w, i32_w]
        rfl
      refine done_ (by kernel_rfl) ?_
      have cc_BY_ : w15.cell? ⟨w8.heap.size, 0, none⟩ = some (.slice A_Y2_ M.length c_Y2_) := Bx.cell BY_15.out
      have cc_BB_ : w15.cell? ⟨w.heap.size + 1, 0, none⟩ = some (.slice B m.length d) := Bx.cell BB_15.out
      go_upto_region 16 with (fail)
      obtain ⟨w16, hw⟩ : ∃ W_, W_ = w15.drew := ⟨_, rfl⟩
      have HD16 := Aside0.mk hw
      have hb : Below w15.heap.size w15 w16 := by rw [hw]; exact (Below.refl _ _).drew
      have HA16 := Aside0.mk (below_step HA15.out hb)
      have S0_16 := Aside0.mk (Lr.below S0_15.out hb)
      have X_16 := Aside0.mk (Lr.below X_15.out hb)
      have Y2_16 := Aside0.mk (Lr.below Y2_15.out hb)
      have G0_16 := Aside0.mk (Lr.below G0_15.out hb)
      have BA_16 := Aside0.mk (Bx.below BA_15.out hb)
      have BB_16 := Aside0.mk (Bx.below BB_15.out hb)
      have BS0_16 := Aside0.mk (Bx.below BS0_15.out hb)
      have BX_16 := Aside0.mk (Bx.below BX_15.out hb)
      have BY_16 := Aside0.mk (Bx.below BY_15.out hb)
      have BG0_16 := Aside0.mk (Bx.below BG0_15.out hb)
      have HZ15 := Aside0.mk hb.size
      clear HA15 S0_15 X_15 Y2_15 G0_15 BA_15 BB_15 BS0_15 BX_15 BY_15 BG0_15
      clear hb hw cc_BY_ cc_BB_
      refine start_ (n := 5) (S := fun w' => w'.cell? ⟨w8.heap.size, 0, none⟩ = some (.slice A_Y2_ M.length c_Y2_) ∧ w'.cell? ⟨w.heap.size + 1, 0, none⟩ = some (.slice B m.length d)) (ds := []) #[false, false, false, false, false] (by kernel_rfl) rfl rfl ⟨(HD16.out ▸ Bx.cell BY_16.out), (HD16.out ▸ Bx.cell BB_16.out)⟩ (fun hHeld => ?_)
      rw [← HD16.out] at hHeld ⊢
      refine take_ (i := 0) (N := some 59) (v := ?_) (a' := ?_) #[true, false, false, false, false] rfl rfl (by kernel_rfl) (fun _ _ _ h => h) (Or.inl ⟨by rfl, ?_⟩) hHeld ?_ ?_
      rotate_left
      · rintro w' ⟨s0, s1⟩
        go_simp
        with_reducible rfl
      rotate_left
      · simp only [Act.put, List.setIfInBounds_toArray, List.set_cons_zero, List.set_cons_succ, i64_w, i32_w]
        rfl
      refine take_ (i := 1) (N := some 60) (v := ?_) (a' := ?_) #[true, true, false, false, false] rfl rfl (by kernel_rfl) (fun _ _ _ h => h) (Or.inl ⟨by rfl, ?_⟩) hHeld ?_ ?_
      rotate_left
      · rintro w' ⟨s0, s1⟩
        go_simp
        with_reducible rfl
      rotate_left
      · simp only [Act.put, List.setIfInBounds_toArray, List.set_cons_zero, List.set_cons_succ, i64_w, i32_w]
        rfl
      refine one_ (i := 2) (N := some 61) #[true, true, true, false, false] rfl rfl (by kernel_rfl) (by decide) (fun K hK => ?_)
      refine goes_ Try.func15 (by kernel_rfl) rfl #[.agg #[.slice B m.length d]] (by rfl) rfl rfl (by simp only [List.map_toArray, List.map_cons, List.map_nil]; rfl) ?_
      with_reducible refine (laws_toTreap.calls k1b B d m M _ (Kd.C_below HRB.out HA16.out) HCB.out E1b.out).mono ?_
      rintro e w17 ⟨v_Y_, rfl, ho, hb⟩
      refine ⟨_, rfl, ?_⟩
      have HA17 := Aside0.mk (below_step HA16.out hb)
      have S0_17 := Aside0.mk (Lr.below S0_16.out hb)
      have X_17 := Aside0.mk (Lr.below X_16.out hb)
      have Y2_17 := Aside0.mk (Lr.below Y2_16.out hb)
      have G0_17 := Aside0.mk (Lr.below G0_16.out hb)
      have BA_17 := Aside0.mk (Bx.below BA_16.out hb)
      have BB_17 := Aside0.mk (Bx.below BB_16.out hb)
      have BS0_17 := Aside0.mk (Bx.below BS0_16.out hb)
      have BX_17 := Aside0.mk (Bx.below BX_16.out hb)
      have BY_17 := Aside0.mk (Bx.below BY_16.out hb)
      have BG0_17 := Aside0.mk (Bx.below BG0_16.out hb)
      have HZ16 := Aside0.mk hb.size
      have hl_ := Lr.of (lo := w.heap.size) ho HA16.out.size
      obtain ⟨A_Y_, c_Y_, e_Y_⟩ := Lr.slice hl_
      subst e_Y_
      have Y_17 := Aside0.mk hl_
      clear hl_ ho
      clear HA16 S0_16 X_16 Y2_16 G0_16 BA_16 BB_16 BS0_16 BX_16 BY_16 BG0_16
      clear hb
      refine hK.out _ _ ⟨Bx.cell BY_17.out, Bx.cell BB_17.out⟩ (fun hHeld => ?_)
      clear hK K
      refine norm_ (a' := ?_) ?_ ?_
      rotate_left
      · show Act.put _ (some 61) _ = _
        simp only [Act.put, List.setIfInBounds_toArray, List.set_cons_zero, List.set_cons_succ, i64_w, i32_w]
        rfl
      refine one_ (i := 3) (N := some 62) #[true, true, true, true, false] rfl rfl (by kernel_rfl) (by decide) (fun K hK => ?_)
      refine goes_ Try.func17 (by kernel_rfl) rfl #[.agg #[.slice A_Y2_ M.length c_Y2_], .agg #[.slice A_Y_ M.length c_Y_]] (by rfl) rfl rfl (by simp only [List.map_toArray, List.map_cons, List.map_nil]; rfl) ?_
      with_reducible refine (laws_eqTreap.calls k6b A_Y2_ c_Y2_ M A_Y_ c_Y_ M true _ (Lr.c Y2_17.out) (Lr.n Y2_17.out) (Lr.c Y_17.out) (Lr.n Y_17.out) E6b.out).mono ?_
      rintro e w18 ⟨rfl, hb⟩
      refine ⟨_, rfl, ?_⟩
      have HA18 := Aside0.mk (below_step HA17.out hb)
      have S0_18 := Aside0.mk (Lr.below S0_17.out hb)
      have X_18 := Aside0.mk (Lr.below X_17.out hb)
      have Y2_18 := Aside0.mk (Lr.below Y2_17.out hb)
      have G0_18 := Aside0.mk (Lr.below G0_17.out hb)
      have BA_18 := Aside0.mk (Bx.below BA_17.out hb)
      have BB_18 := Aside0.mk (Bx.below BB_17.out hb)
      have BS0_18 := Aside0.mk (Bx.below BS0_17.out hb)
      have BX_18 := Aside0.mk (Bx.below BX_17.out hb)
      have BY_18 := Aside0.mk (Bx.below BY_17.out hb)
      have BG0_18 := Aside0.mk (Bx.below BG0_17.out hb)
      have HZ17 := Aside0.mk hb.size
      clear HA17 S0_17 X_17 Y2_17 G0_17 BA_17 BB_17 BS0_17 BX_17 BY_17 BG0_17
      clear hb
      clear Y_17
      refine hK.out _ _ ⟨Bx.cell BY_18.out, Bx.cell BB_18.out⟩ (fun hHeld => ?_)
      clear hK K
      refine norm_ (a' := ?_) ?_ ?_
      rotate_left
      · show Act.put _ (some 62) _ = _
        simp only [Act.put, List.setIfInBounds_toArray, List.set_cons_zero, List.set_cons_succ, i64_w, i32_w]
        rfl
      refine pure_ (i := 4) (N := some 63) (v := ?_) (a' := ?_) #[true, true, true, true, true] rfl rfl (by kernel_rfl) (fun _ _ _ h => h) (Or.inl ⟨by rfl, ?_⟩) ?_ ?_
      rotate_left
      · intro w'
        go_simp
        with_reducible rfl
      rotate_left
      · simp only [Act.put, List.setIfInBounds_toArray, List.set_cons_zero, List.set_cons_succ, i64_w, i32_w]
        rfl
      refine done_ (by kernel_rfl) ?_
      have cc_BX_ : w18.cell? ⟨w6.heap.size, 0, none⟩ = some (.slice A_X_ L.length c_X_) := Bx.cell BX_18.out
      go_upto_region 23 with (first | (go_at_call 25; go_loud ((with_reducible refine (laws_markTreap.calls k7 (fun k_ => some k_ = ((.slice A_X_ L.length c_X_) : Value).ownBlock) (.slice A_X_ L.length c_X_) L 1 z7 q7 w _ HA18.out X_18.out E7.out).mono ?_); rintro e w19 ⟨rfl, hy, hb, hkp⟩; have HA19 := Aside0.mk hb; have S0_19 := Aside0.mk (Lr.kept (u := (.slice A_X_ L.length c_X_)) S0_18.out hkp (far RG_S0_.out RG_X_.out (by have := HWS.out; have := HZ0.out; have := HZ1.out; have := HZ2.out; have := HZ3.out; have := HZ4.out; have := HZ5.out; have := HZ6.out; have := HZ7.out; have := HZ8.out; have := HZ9.out; have := HZ10.out; have := HZ11.out; have := HZ12.out; have := HZ13.out; have := HZ14.out; have := HZ15.out; have := HZ16.out; have := HZ17.out; have := HL_bz_S0_.out; have := HS_bz_S0_.out; omega))); have Y2_19 := Aside0.mk (Lr.kept (u := (.slice A_X_ L.length c_X_)) Y2_18.out hkp (far RG_Y2_.out RG_X_.out (by have := HWS.out; have := HZ0.out; have := HZ1.out; have := HZ2.out; have := HZ3.out; have := HZ4.out; have := HZ5.out; have := HZ6.out; have := HZ7.out; have := HZ8.out; have := HZ9.out; have := HZ10.out; have := HZ11.out; have := HZ12.out; have := HZ13.out; have := HZ14.out; have := HZ15.out; have := HZ16.out; have := HZ17.out; have := HL_bz_S0_.out; have := HS_bz_S0_.out; omega))); have G0_19 := Aside0.mk (Lr.kept (u := (.slice A_X_ L.length c_X_)) G0_18.out hkp (far RG_G0_.out RG_X_.out (by have := HWS.out; have := HZ0.out; have := HZ1.out; have := HZ2.out; have := HZ3.out; have := HZ4.out; have := HZ5.out; have := HZ6.out; have := HZ7.out; have := HZ8.out; have := HZ9.out; have := HZ10.out; have := HZ11.out; have := HZ12.out; have := HZ13.out; have := HZ14.out; have := HZ15.out; have := HZ16.out; have := HZ17.out; have := HL_bz_S0_.out; have := HS_bz_S0_.out; omega))); have BA_19 := Aside0.mk (Bx.kept (u := (.slice A_X_ L.length c_X_)) BA_18.out hkp (out RG_X_.out (by have := HWS.out; have := HZ0.out; have := HZ1.out; have := HZ2.out; have := HZ3.out; have := HZ4.out; have := HZ5.out; have := HZ6.out; have := HZ7.out; have := HZ8.out; have := HZ9.out; have := HZ10.out; have := HZ11.out; have := HZ12.out; have := HZ13.out; have := HZ14.out; have := HZ15.out; have := HZ16.out; have := HZ17.out; have := HL_bz_S0_.out; have := HS_bz_S0_.out; omega))); have BB_19 := Aside0.mk (Bx.kept (u := (.slice A_X_ L.length c_X_)) BB_18.out hkp (out RG_X_.out (by have := HWS.out; have := HZ0.out; have := HZ1.out; have := HZ2.out; have := HZ3.out; have := HZ4.out; have := HZ5.out; have := HZ6.out; have := HZ7.out; have := HZ8.out; have := HZ9.out; have := HZ10.out; have := HZ11.out; have := HZ12.out; have := HZ13.out; have := HZ14.out; have := HZ15.out; have := HZ16.out; have := HZ17.out; have := HL_bz_S0_.out; have := HS_bz_S0_.out; omega))); have BS0_19 := Aside0.mk (Bx.kept (u := (.slice A_X_ L.length c_X_)) BS0_18.out hkp (out RG_X_.out (by have := HWS.out; have := HZ0.out; have := HZ1.out; have := HZ2.out; have := HZ3.out; have := HZ4.out; have := HZ5.out; have := HZ6.out; have := HZ7.out; have := HZ8.out; have := HZ9.out; have := HZ10.out; have := HZ11.out; have := HZ12.out; have := HZ13.out; have := HZ14.out; have := HZ15.out; have := HZ16.out; have := HZ17.out; have := HL_bz_S0_.out; have := HS_bz_S0_.out; omega))); have BX_19 := Aside0.mk (Bx.kept (u := (.slice A_X_ L.length c_X_)) BX_18.out hkp (out RG_X_.out (by have := HWS.out; have := HZ0.out; have := HZ1.out; have := HZ2.out; have := HZ3.out; have := HZ4.out; have := HZ5.out; have := HZ6.out; have := HZ7.out; have := HZ8.out; have := HZ9.out; have := HZ10.out; have := HZ11.out; have := HZ12.out; have := HZ13.out; have := HZ14.out; have := HZ15.out; have := HZ16.out; have := HZ17.out; have := HL_bz_S0_.out; have := HS_bz_S0_.out; omega))); have BY_19 := Aside0.mk (Bx.kept (u := (.slice A_X_ L.length c_X_)) BY_18.out hkp (out RG_X_.out (by have := HWS.out; have := HZ0.out; have := HZ1.out; have := HZ2.out; have := HZ3.out; have := HZ4.out; have := HZ5.out; have := HZ6.out; have := HZ7.out; have := HZ8.out; have := HZ9.out; have := HZ10.out; have := HZ11.out; have := HZ12.out; have := HZ13.out; have := HZ14.out; have := HZ15.out; have := HZ16.out; have := HZ17.out; have := HL_bz_S0_.out; have := HS_bz_S0_.out; omega))); have BG0_19 := Aside0.mk (Bx.kept (u := (.slice A_X_ L.length c_X_)) BG0_18.out hkp (out RG_X_.out (by have := HWS.out; have := HZ0.out; have := HZ1.out; have := HZ2.out; have := HZ3.out; have := HZ4.out; have := HZ5.out; have := HZ6.out; have := HZ7.out; have := HZ8.out; have := HZ9.out; have := HZ10.out; have := HZ11.out; have := HZ12.out; have := HZ13.out; have := HZ14.out; have := HZ15.out; have := HZ16.out; have := HZ17.out; have := HL_bz_S0_.out; have := HS_bz_S0_.out; omega))); have HZ18 := Aside0.mk hkp.1; clear HA18 S0_18 X_18 Y2_18 G0_18 BA_18 BB_18 BS0_18 BX_18 BY_18 BG0_18; have X_19 := Aside0.mk (Lr.of (lo := w.heap.size) hy (Nat.le_refl _)); clear hy hb hkp; clear cc_BX_; have cc_BY_ : w19.cell? ⟨w8.heap.size, 0, none⟩ = some (.slice A_Y2_ M.length c_Y2_) := Bx.cell BY_19.out)) | (go_at_call 25; go_loud ((with_reducible refine (laws_markTreap.calls k7b (fun k_ => some k_ = ((.slice A_Y2_ M.length c_Y2_) : Value).ownBlock) (.slice A_Y2_ M.length c_Y2_) M z7 z7b q7b w _ HA19.out Y2_19.out E7b.out).mono ?_); rintro e w20 ⟨rfl, hy, hb, hkp⟩; have HA20 := Aside0.mk hb; have S0_20 := Aside0.mk (Lr.kept (u := (.slice A_Y2_ M.length c_Y2_)) S0_19.out hkp (far RG_S0_.out RG_Y2_.out (by have := HWS.out; have := HZ0.out; have := HZ1.out; have := HZ2.out; have := HZ3.out; have := HZ4.out; have := HZ5.out; have := HZ6.out; have := HZ7.out; have := HZ8.out; have := HZ9.out; have := HZ10.out; have := HZ11.out; have := HZ12.out; have := HZ13.out; have := HZ14.out; have := HZ15.out; have := HZ16.out; have := HZ17.out; have := HZ18.out; have := HL_bz_S0_.out; have := HS_bz_S0_.out; omega))); have G0_20 := Aside0.mk (Lr.kept (u := (.slice A_Y2_ M.length c_Y2_)) G0_19.out hkp (far RG_G0_.out RG_Y2_.out (by have := HWS.out; have := HZ0.out; have := HZ1.out; have := HZ2.out; have := HZ3.out; have := HZ4.out; have := HZ5.out; have := HZ6.out; have := HZ7.out; have := HZ8.out; have := HZ9.out; have := HZ10.out; have := HZ11.out; have := HZ12.out; have := HZ13.out; have := HZ14.out; have := HZ15.out; have := HZ16.out; have := HZ17.out; have := HZ18.out; have := HL_bz_S0_.out; have := HS_bz_S0_.out; omega))); have BA_20 := Aside0.mk (Bx.kept (u := (.slice A_Y2_ M.length c_Y2_)) BA_19.out hkp (out RG_Y2_.out (by have := HWS.out; have := HZ0.out; have := HZ1.out; have := HZ2.out; have := HZ3.out; have := HZ4.out; have := HZ5.out; have := HZ6.out; have := HZ7.out; have := HZ8.out; have := HZ9.out; have := HZ10.out; have := HZ11.out; have := HZ12.out; have := HZ13.out; have := HZ14.out; have := HZ15.out; have := HZ16.out; have := HZ17.out; have := HZ18.out; have := HL_bz_S0_.out; have := HS_bz_S0_.out; omega))); have BB_20 := Aside0.mk (Bx.kept (u := (.slice A_Y2_ M.length c_Y2_)) BB_19.out hkp (out RG_Y2_.out (by have := HWS.out; have := HZ0.out; have := HZ1.out; have := HZ2.out; have := HZ3.out; have := HZ4.out; have := HZ5.out; have := HZ6.out; have := HZ7.out; have := HZ8.out; have := HZ9.out; have := HZ10.out; have := HZ11.out; have := HZ12.out; have := HZ13.out; have := HZ14.out; have := HZ15.out; have := HZ16.out; have := HZ17.out; have := HZ18.out; have := HL_bz_S0_.out; have := HS_bz_S0_.out; omega))); have BS0_20 := Aside0.mk (Bx.kept (u := (.slice A_Y2_ M.length c_Y2_)) BS0_19.out hkp (out RG_Y2_.out (by have := HWS.out; have := HZ0.out; have := HZ1.out; have := HZ2.out; have := HZ3.out; have := HZ4.out; have := HZ5.out; have := HZ6.out; have := HZ7.out; have := HZ8.out; have := HZ9.out; have := HZ10.out; have := HZ11.out; have := HZ12.out; have := HZ13.out; have := HZ14.out; have := HZ15.out; have := HZ16.out; have := HZ17.out; have := HZ18.out; have := HL_bz_S0_.out; have := HS_bz_S0_.out; omega))); have BX_20 := Aside0.mk (Bx.kept (u := (.slice A_Y2_ M.length c_Y2_)) BX_19.out hkp (out RG_Y2_.out (by have := HWS.out; have := HZ0.out; have := HZ1.out; have := HZ2.out; have := HZ3.out; have := HZ4.out; have := HZ5.out; have := HZ6.out; have := HZ7.out; have := HZ8.out; have := HZ9.out; have := HZ10.out; have := HZ11.out; have := HZ12.out; have := HZ13.out; have := HZ14.out; have := HZ15.out; have := HZ16.out; have := HZ17.out; have := HZ18.out; have := HL_bz_S0_.out; have := HS_bz_S0_.out; omega))); have BY_20 := Aside0.mk (Bx.kept (u := (.slice A_Y2_ M.length c_Y2_)) BY_19.out hkp (out RG_Y2_.out (by have := HWS.out; have := HZ0.out; have := HZ1.out; have := HZ2.out; have := HZ3.out; have := HZ4.out; have := HZ5.out; have := HZ6.out; have := HZ7.out; have := HZ8.out; have := HZ9.out; have := HZ10.out; have := HZ11.out; have := HZ12.out; have := HZ13.out; have := HZ14.out; have := HZ15.out; have := HZ16.out; have := HZ17.out; have := HZ18.out; have := HL_bz_S0_.out; have := HS_bz_S0_.out; omega))); have BG0_20 := Aside0.mk (Bx.kept (u := (.slice A_Y2_ M.length c_Y2_)) BG0_19.out hkp (out RG_Y2_.out (by have := HWS.out; have := HZ0.out; have := HZ1.out; have := HZ2.out; have := HZ3.out; have := HZ4.out; have := HZ5.out; have := HZ6.out; have := HZ7.out; have := HZ8.out; have := HZ9.out; have := HZ10.out; have := HZ11.out; have := HZ12.out; have := HZ13.out; have := HZ14.out; have := HZ15.out; have := HZ16.out; have := HZ17.out; have := HZ18.out; have := HL_bz_S0_.out; have := HS_bz_S0_.out; omega))); have HZ19 := Aside0.mk hkp.1; clear HA19 S0_19 Y2_19 G0_19 BA_19 BB_19 BS0_19 BX_19 BY_19 BG0_19; have Y2_20 := Aside0.mk (Lr.of (lo := w.heap.size) hy (Nat.le_refl _)); clear hy hb hkp; clear cc_BY_; have cc_BG0_ : w20.cell? ⟨w10.heap.size, 0, none⟩ = some (.slice A_G0_ s0.length c_G0_) := Bx.cell BG0_20.out; have cc_BS0_ : w20.cell? ⟨bz_S0_, 0, none⟩ = some (.slice A_S0_ s0.length c_S0_) := Bx.cell BS0_20.out)) | (go_at_call 17; go_loud ((with_reducible refine (laws_eqTreap.calls k4 A_G0_ c_G0_ s0 A_S0_ c_S0_ s0 true _ (Lr.c G0_20.out) (Lr.n G0_20.out) (Lr.c S0_20.out) (Lr.n S0_20.out) E4.out).mono ?_); rintro e w21 ⟨rfl, hb⟩; have HA21 := Aside0.mk (below_step HA20.out hb); have S0_21 := Aside0.mk (Lr.below S0_20.out hb); have G0_21 := Aside0.mk (Lr.below G0_20.out hb); have BA_21 := Aside0.mk (Bx.below BA_20.out hb); have BB_21 := Aside0.mk (Bx.below BB_20.out hb); have BS0_21 := Aside0.mk (Bx.below BS0_20.out hb); have BX_21 := Aside0.mk (Bx.below BX_20.out hb); have BY_21 := Aside0.mk (Bx.below BY_20.out hb); have BG0_21 := Aside0.mk (Bx.below BG0_20.out hb); have HZ20 := Aside0.mk hb.size; clear HA20 S0_20 G0_20 BA_20 BB_20 BS0_20 BX_20 BY_20 BG0_20; clear hb; clear cc_BG0_ cc_BS0_; have cc_BG0_ : w21.cell? ⟨w10.heap.size, 0, none⟩ = some (.slice A_G0_ s0.length c_G0_) := Bx.cell BG0_21.out)))
      go_upto_region 25 with (first | (go_at_call 25; go_loud ((with_reducible refine (laws_markTreap.calls k8 (fun k_ => some k_ = ((.slice A_G0_ s0.length c_G0_) : Value).ownBlock) (.slice A_G0_ s0.length c_G0_) s0 1 z8 q8 w _ HA21.out G0_21.out E8.out).mono ?_); rintro e w22 ⟨rfl, hy, hb, hkp⟩; have HA22 := Aside0.mk hb; have S0_22 := Aside0.mk (Lr.kept (u := (.slice A_G0_ s0.length c_G0_)) S0_21.out hkp (far RG_S0_.out RG_G0_.out (by have := HWS.out; have := HZ0.out; have := HZ1.out; have := HZ2.out; have := HZ3.out; have := HZ4.out; have := HZ5.out; have := HZ6.out; have := HZ7.out; have := HZ8.out; have := HZ9.out; have := HZ10.out; have := HZ11.out; have := HZ12.out; have := HZ13.out; have := HZ14.out; have := HZ15.out; have := HZ16.out; have := HZ17.out; have := HZ18.out; have := HZ19.out; have := HZ20.out; have := HL_bz_S0_.out; have := HS_bz_S0_.out; omega))); have BA_22 := Aside0.mk (Bx.kept (u := (.slice A_G0_ s0.length c_G0_)) BA_21.out hkp (out RG_G0_.out (by have := HWS.out; have := HZ0.out; have := HZ1.out; have := HZ2.out; have := HZ3.out; have := HZ4.out; have := HZ5.out; have := HZ6.out; have := HZ7.out; have := HZ8.out; have := HZ9.out; have := HZ10.out; have := HZ11.out; have := HZ12.out; have := HZ13.out; have := HZ14.out; have := HZ15.out; have := HZ16.out; have := HZ17.out; have := HZ18.out; have := HZ19.out; have := HZ20.out; have := HL_bz_S0_.out; have := HS_bz_S0_.out; omega))); have BB_22 := Aside0.mk (Bx.kept (u := (.slice A_G0_ s0.length c_G0_)) BB_21.out hkp (out RG_G0_.out (by have := HWS.out; have := HZ0.out; have := HZ1.out; have := HZ2.out; have := HZ3.out; have := HZ4.out; have := HZ5.out; have := HZ6.out; have := HZ7.out; have := HZ8.out; have := HZ9.out; have := HZ10.out; have := HZ11.out; have := HZ12.out; have := HZ13.out; have := HZ14.out; have := HZ15.out; have := HZ16.out; have := HZ17.out; have := HZ18.out; have := HZ19.out; have := HZ20.out; have := HL_bz_S0_.out; have := HS_bz_S0_.out; omega))); have BS0_22 := Aside0.mk (Bx.kept (u := (.slice A_G0_ s0.length c_G0_)) BS0_21.out hkp (out RG_G0_.out (by have := HWS.out; have := HZ0.out; have := HZ1.out; have := HZ2.out; have := HZ3.out; have := HZ4.out; have := HZ5.out; have := HZ6.out; have := HZ7.out; have := HZ8.out; have := HZ9.out; have := HZ10.out; have := HZ11.out; have := HZ12.out; have := HZ13.out; have := HZ14.out; have := HZ15.out; have := HZ16.out; have := HZ17.out; have := HZ18.out; have := HZ19.out; have := HZ20.out; have := HL_bz_S0_.out; have := HS_bz_S0_.out; omega))); have BX_22 := Aside0.mk (Bx.kept (u := (.slice A_G0_ s0.length c_G0_)) BX_21.out hkp (out RG_G0_.out (by have := HWS.out; have := HZ0.out; have := HZ1.out; have := HZ2.out; have := HZ3.out; have := HZ4.out; have := HZ5.out; have := HZ6.out; have := HZ7.out; have := HZ8.out; have := HZ9.out; have := HZ10.out; have := HZ11.out; have := HZ12.out; have := HZ13.out; have := HZ14.out; have := HZ15.out; have := HZ16.out; have := HZ17.out; have := HZ18.out; have := HZ19.out; have := HZ20.out; have := HL_bz_S0_.out; have := HS_bz_S0_.out; omega))); have BY_22 := Aside0.mk (Bx.kept (u := (.slice A_G0_ s0.length c_G0_)) BY_21.out hkp (out RG_G0_.out (by have := HWS.out; have := HZ0.out; have := HZ1.out; have := HZ2.out; have := HZ3.out; have := HZ4.out; have := HZ5.out; have := HZ6.out; have := HZ7.out; have := HZ8.out; have := HZ9.out; have := HZ10.out; have := HZ11.out; have := HZ12.out; have := HZ13.out; have := HZ14.out; have := HZ15.out; have := HZ16.out; have := HZ17.out; have := HZ18.out; have := HZ19.out; have := HZ20.out; have := HL_bz_S0_.out; have := HS_bz_S0_.out; omega))); have BG0_22 := Aside0.mk (Bx.kept (u := (.slice A_G0_ s0.length c_G0_)) BG0_21.out hkp (out RG_G0_.out (by have := HWS.out; have := HZ0.out; have := HZ1.out; have := HZ2.out; have := HZ3.out; have := HZ4.out; have := HZ5.out; have := HZ6.out; have := HZ7.out; have := HZ8.out; have := HZ9.out; have := HZ10.out; have := HZ11.out; have := HZ12.out; have := HZ13.out; have := HZ14.out; have := HZ15.out; have := HZ16.out; have := HZ17.out; have := HZ18.out; have := HZ19.out; have := HZ20.out; have := HL_bz_S0_.out; have := HS_bz_S0_.out; omega))); have HZ21 := Aside0.mk hkp.1; clear HA21 S0_21 G0_21 BA_21 BB_21 BS0_21 BX_21 BY_21 BG0_21; have G0_22 := Aside0.mk (Lr.of (lo := w.heap.size) hy (Nat.le_refl _)); clear hy hb hkp; clear cc_BG0_; have cc_BG0_ : w22.cell? ⟨w10.heap.size, 0, none⟩ = some (.slice A_G0_ s0.length c_G0_) := Bx.cell BG0_22.out)))
      go_upto_region 31 with (first | (go_at_call 30; go_loud (have hcal := laws_heldTreap.calls k10 A_G0_ c_G0_ q8 1 z8 w22 (Lr.c G0_22.out) (by have h_ := Lr.len G0_22.out; omega) E10.out; rw [HQ_G0_.out] at hcal; (with_reducible refine (hcal).mono ?_); rintro e w23 ⟨rfl, hb⟩; have HA23 := Aside0.mk (below_step HA22.out hb); have S0_23 := Aside0.mk (Lr.below S0_22.out hb); have G0_23 := Aside0.mk (Lr.below G0_22.out hb); have BA_23 := Aside0.mk (Bx.below BA_22.out hb); have BB_23 := Aside0.mk (Bx.below BB_22.out hb); have BS0_23 := Aside0.mk (Bx.below BS0_22.out hb); have BX_23 := Aside0.mk (Bx.below BX_22.out hb); have BY_23 := Aside0.mk (Bx.below BY_22.out hb); have BG0_23 := Aside0.mk (Bx.below BG0_22.out hb); have HZ22 := Aside0.mk hb.size; clear HA22 S0_22 G0_22 BA_22 BB_22 BS0_22 BX_22 BY_22 BG0_22; clear hb hcal; clear cc_BG0_; have cc_BA_ : w23.cell? ⟨w.heap.size, 0, none⟩ = some (.slice A l.length c) := Bx.cell BA_23.out; have cc_BB_ : w23.cell? ⟨w.heap.size + 1, 0, none⟩ = some (.slice B m.length d) := Bx.cell BB_23.out)))
      obtain ⟨w24, hw⟩ : ∃ W_, W_ = w23.drew := ⟨_, rfl⟩
      have HD24 := Aside0.mk hw
      have hb : Below w23.heap.size w23 w24 := by rw [hw]; exact (Below.refl _ _).drew
      have HA24 := Aside0.mk (below_step HA23.out hb)
      have S0_24 := Aside0.mk (Lr.below S0_23.out hb)
      have G0_24 := Aside0.mk (Lr.below G0_23.out hb)
      have BA_24 := Aside0.mk (Bx.below BA_23.out hb)
      have BB_24 := Aside0.mk (Bx.below BB_23.out hb)
      have BS0_24 := Aside0.mk (Bx.below BS0_23.out hb)
      have BX_24 := Aside0.mk (Bx.below BX_23.out hb)
      have BY_24 := Aside0.mk (Bx.below BY_23.out hb)
      have BG0_24 := Aside0.mk (Bx.below BG0_23.out hb)
      have HZ23 := Aside0.mk hb.size
      clear HA23 S0_23 G0_23 BA_23 BB_23 BS0_23 BX_23 BY_23 BG0_23
      clear hb hw cc_BA_ cc_BB_
      refine start_ (n := 11) (S := fun w' => w'.cell? ⟨w.heap.size, 0, none⟩ = some (.slice A l.length c) ∧ w'.cell? ⟨w.heap.size + 1, 0, none⟩ = some (.slice B m.length d)) (ds := []) #[false, false, false, false, false, false, false, false, false, false, false] (by kernel_rfl) rfl rfl ⟨(HD24.out ▸ Bx.cell BA_24.out), (HD24.out ▸ Bx.cell BB_24.out)⟩ (fun hHeld => ?_)
      rw [← HD24.out] at hHeld ⊢
      refine take_ (i := 0) (N := some 95) (v := ?_) (a' := ?_) #[true, false, false, false, false, false, false, false, false, false, false] rfl rfl (by kernel_rfl) (fun _ _ _ h => h) (Or.inl ⟨by rfl, ?_⟩) hHeld ?_ ?_
      rotate_left
      · rintro w' ⟨s0, s1⟩
        go_simp
        with_reducible rfl
      rotate_left
      · simp only [Act.put, List.setIfInBounds_toArray, List.set_cons_zero, List.set_cons_succ, i64_w, i32_w]
        rfl
      refine take_ (i := 2) (N := some 97) (v := ?_) (a' := ?_) #[true, false, true, false, false, false, false, false, false, false, false] rfl rfl (by kernel_rfl) (fun _ _ _ h => h) (Or.inl ⟨by rfl, ?_⟩) hHeld ?_ ?_
      rotate_left
      · rintro w' ⟨s0, s1⟩
        go_simp
        with_reducible rfl
      rotate_left
      · simp only [Act.put, List.setIfInBounds_toArray, List.set_cons_zero, List.set_cons_succ, i64_w, i32_w]
        rfl
      refine join_ (σ := Value × Value × Value × Nat) 2 #[true, true, true, true, true, true, true, true, true, false, false] ((fun s_ => [(96, .agg #[s_.1]), (98, .agg #[s_.2.1]), (99, .tuple #[.agg #[s_.2.2.1], .bool sb]), (15, .pointer (some ⟨s_.2.2.2, 0, none⟩)), (94, .tuple #[.agg #[s_.2.2.1], .bool sb]), (100, .agg #[s_.2.2.1]), (101, .bool sb)])) ((fun s_ w' => Below w24.heap.size w24 w' ∧ Lr w' w.heap.size s_.2.2.1 s0 ∧ Rng s_.2.2.1 w24.heap.size w'.heap.size ∧ Bx w' s_.2.2.2 (.slice none 0 0) 29 ∧ w24.heap.size ≤ s_.2.2.2)) ?_ ?_
      rotate_left
      · intro hCont
        refine two_ (i := 1) (j := 8) (Ni := some 96) (Nj := some 15) #[true, true, true, false, false, false, false, false, false, false, false] #[true, false, true, false, false, false, false, false, true, false, false] rfl rfl rfl rfl (by kernel_rfl) (by decide) (by decide) (fun K hK => ?_) (fun K hK => ?_)
        · skip
          refine goes_ Try.func15 (by kernel_rfl) rfl #[.agg #[.slice A l.length c]] (by rfl) rfl rfl (by simp only [List.map_toArray, List.map_cons, List.map_nil]; rfl) ?_
          with_reducible refine (laws_toTreap.calls k1 A c l L _ (Kd.C_below HR.out (below_step HA24.out (Below.refl w24.heap.size w24))) HC.out E1.out).mono ?_
          rintro e u_1 ⟨v_, rfl, ho, hb⟩
          refine ⟨_, rfl, ?_⟩
          have HJ_1 := Aside0.mk (below_step (Below.refl w24.heap.size w24) hb)
          have hl_ := Lr.of (lo := w.heap.size) ho (below_step HA24.out (Below.refl w24.heap.size w24)).size
          obtain ⟨A_q1, c_q1, e_⟩ := Lr.slice hl_
          subst e_
          have Q1_1 := Aside0.mk hl_
          clear hl_ ho hb
          refine hK.out _ _ ⟨Bx.cell (Bx.below BA_24.out HJ_1.out), Bx.cell (Bx.below BB_24.out HJ_1.out)⟩ (fun hHeld => ?_)
          clear hK K
          refine norm_ (a' := ?_) ?_ ?_
          rotate_left
          · show Act.put _ (some 96) _ = _
            simp only [Act.put, List.setIfInBounds_toArray, List.set_cons_zero, List.set_cons_succ, i64_w, i32_w]
            rfl
          refine two_ (i := 3) (j := 8) (Ni := some 98) (Nj := some 15) #[true, true, true, true, false, false, false, false, false, false, false] #[true, true, true, false, false, false, false, false, true, false, false] rfl rfl rfl rfl (by kernel_rfl) (by decide) (by decide) (fun K hK => ?_) (fun K hK => ?_)
          · skip
            refine goes_ Try.func15 (by kernel_rfl) rfl #[.agg #[.slice B m.length d]] (by rfl) rfl rfl (by simp only [List.map_toArray, List.map_cons, List.map_nil]; rfl) ?_
            with_reducible refine (laws_toTreap.calls k1b B d m M _ (Kd.C_below HRB.out (below_step HA24.out HJ_1.out)) HCB.out E1b.out).mono ?_
            rintro e u_13 ⟨v_, rfl, ho, hb⟩
            refine ⟨_, rfl, ?_⟩
            have HJ_13 := Aside0.mk (below_step HJ_1.out hb)
            have Q1_13 := Aside0.mk (Lr.below Q1_1.out hb)
            have hl_ := Lr.of (lo := w.heap.size) ho (below_step HA24.out HJ_1.out).size
            obtain ⟨A_q3, c_q3, e_⟩ := Lr.slice hl_
            subst e_
            have Q3_13 := Aside0.mk hl_
            clear hl_ ho hb
            refine hK.out _ _ ⟨Bx.cell (Bx.below BA_24.out HJ_13.out), Bx.cell (Bx.below BB_24.out HJ_13.out)⟩ (fun hHeld => ?_)
            clear hK K
            refine norm_ (a' := ?_) ?_ ?_
            rotate_left
            · show Act.put _ (some 98) _ = _
              simp only [Act.put, List.setIfInBounds_toArray, List.set_cons_zero, List.set_cons_succ, i64_w, i32_w]
              rfl
            refine two_ (i := 4) (j := 8) (Ni := some 99) (Nj := some 15) #[true, true, true, true, true, false, false, false, false, false, false] #[true, true, true, true, false, false, false, false, true, false, false] rfl rfl rfl rfl (by kernel_rfl) (by decide) (by decide) (fun K hK => ?_) (fun K hK => ?_)
            · skip
              refine goes_ Try.func29 (by kernel_rfl) rfl #[.agg #[.slice A_q1 L.length c_q1], .agg #[.slice A_q3 M.length c_q3]] (by rfl) rfl rfl (by simp only [List.map_toArray, List.map_cons, List.map_nil]; rfl) ?_
              with_reducible refine (impl_JoinTreaps.calls A_q1 c_q1 L A_q3 c_q3 M s0 sb _ (Lr.c Q1_13.out) (Lr.n Q1_13.out) (Lr.c Q3_13.out) (Lr.n Q3_13.out) E3.out).mono ?_
              rintro e u_134 ⟨v_, rfl, ho, hb⟩
              refine ⟨_, rfl, ?_⟩
              have HJ_134 := Aside0.mk (below_step HJ_13.out hb)
              have Q1_134 := Aside0.mk (Lr.below Q1_13.out hb)
              have Q3_134 := Aside0.mk (Lr.below Q3_13.out hb)
              have R4_134 := Aside0.mk (Rng.mono (Rng.of ho) HJ_13.out.size (Nat.le_refl _))
              have hl_ := Lr.of (lo := w.heap.size) ho (below_step HA24.out HJ_13.out).size
              obtain ⟨A_q4, c_q4, e_⟩ := Lr.slice hl_
              subst e_
              have Q4_134 := Aside0.mk hl_
              clear hl_ ho hb
              refine hK.out _ _ ⟨Bx.cell (Bx.below BA_24.out HJ_134.out), Bx.cell (Bx.below BB_24.out HJ_134.out)⟩ (fun hHeld => ?_)
              clear hK K
              refine norm_ (a' := ?_) ?_ ?_
              rotate_left
              · show Act.put _ (some 99) _ = _
                simp only [Act.put, List.setIfInBounds_toArray, List.set_cons_zero, List.set_cons_succ, i64_w, i32_w]
                rfl
              refine pure_ (i := 5) (N := some 94) (v := ?_) (a' := ?_) #[true, true, true, true, true, true, false, false, false, false, false] rfl rfl (by kernel_rfl) (fun _ _ _ h => h) (Or.inl ⟨by rfl, ?_⟩) ?_ ?_
              rotate_left
              · intro w'
                go_simp
                with_reducible rfl
              rotate_left
              · simp only [Act.put, List.setIfInBounds_toArray, List.set_cons_zero, List.set_cons_succ, i64_w, i32_w]
                rfl
              refine pure_ (i := 6) (N := some 100) (v := ?_) (a' := ?_) #[true, true, true, true, true, true, true, false, false, false, false] rfl rfl (by kernel_rfl) (fun _ _ _ h => h) (Or.inl ⟨by rfl, ?_⟩) ?_ ?_
              rotate_left
              · intro w'
                go_simp
                with_reducible rfl
              rotate_left
              · simp only [Act.put, List.setIfInBounds_toArray, List.set_cons_zero, List.set_cons_succ, i64_w, i32_w]
                rfl
              refine pure_ (i := 7) (N := some 101) (v := ?_) (a' := ?_) #[true, true, true, true, true, true, true, true, false, false, false] rfl rfl (by kernel_rfl) (fun _ _ _ h => h) (Or.inl ⟨by rfl, ?_⟩) ?_ ?_
              rotate_left
              · intro w'
                go_simp
                with_reducible rfl
              rotate_left
              · simp only [Act.put, List.setIfInBounds_toArray, List.set_cons_zero, List.set_cons_succ, i64_w, i32_w]
                rfl
              refine one_ (i := 8) (N := some 15) #[true, true, true, true, true, true, true, true, true, false, false] rfl rfl (by kernel_rfl) (by decide) (fun K hK => ?_)
              refine value_ (w1 := ?_) (v := ?_) (by rfl) rfl ?_ ?_
              rotate_left 2
              · go_simp
                constructor
                · rfl
                · rfl
              obtain ⟨u_1348, hu_⟩ : ∃ u_, u_ = u_134.alloc (.cells #[.slice none 0 0] 29) := ⟨_, rfl⟩
              rw [← hu_]
              obtain ⟨q0, hb⟩ := one (w := u_134) (.slice none 0 0) 29
              rw [← hu_] at q0 hb
              have HJ_1348 := Aside0.mk (below_step HJ_134.out hb)
              have Q1_1348 := Aside0.mk (Lr.below Q1_134.out hb)
              have Q3_1348 := Aside0.mk (Lr.below Q3_134.out hb)
              have Q4_1348 := Aside0.mk (Lr.below Q4_134.out hb)
              have R4_1348 := Aside0.mk (Rng.mono R4_134.out (Nat.le_refl _) hb.size)
              have Z_1348 := Aside0.mk q0
              clear hb hu_ q0
              refine hK.out _ _ ⟨Bx.cell (Bx.below BA_24.out HJ_1348.out), Bx.cell (Bx.below BB_24.out HJ_1348.out)⟩ (fun hHeld => ?_)
              clear hK K
              refine norm_ (a' := ?_) ?_ ?_
              rotate_left
              · show Act.put _ (some 15) _ = _
                simp only [Act.put, List.setIfInBounds_toArray, List.set_cons_zero, List.set_cons_succ, i64_w, i32_w]
                rfl
              exact norm_ (by simp only [putAll, Act.put, List.setIfInBounds_toArray, List.set_cons_zero, List.set_cons_succ]) (hCont (.slice A_q1 L.length c_q1, .slice A_q3 M.length c_q3, .slice A_q4 s0.length c_q4, u_134.heap.size) _ ⟨HJ_1348.out, Q4_1348.out, R4_1348.out, Z_1348.out, HJ_134.out.size⟩)
            · skip
              refine value_ (w1 := ?_) (v := ?_) (by rfl) rfl ?_ ?_
              rotate_left 2
              · go_simp
                constructor
                · rfl
                · rfl
              obtain ⟨u_138, hu_⟩ : ∃ u_, u_ = u_13.alloc (.cells #[.slice none 0 0] 29) := ⟨_, rfl⟩
              rw [← hu_]
              obtain ⟨q0, hb⟩ := one (w := u_13) (.slice none 0 0) 29
              rw [← hu_] at q0 hb
              have HJ_138 := Aside0.mk (below_step HJ_13.out hb)
              have Q1_138 := Aside0.mk (Lr.below Q1_13.out hb)
              have Q3_138 := Aside0.mk (Lr.below Q3_13.out hb)
              have Z_138 := Aside0.mk q0
              clear hb hu_ q0
              refine hK.out _ _ ⟨Bx.cell (Bx.below BA_24.out HJ_138.out), Bx.cell (Bx.below BB_24.out HJ_138.out)⟩ (fun hHeld => ?_)
              clear hK K
              refine norm_ (a' := ?_) ?_ ?_
              rotate_left
              · show Act.put _ (some 15) _ = _
                simp only [Act.put, List.setIfInBounds_toArray, List.set_cons_zero, List.set_cons_succ, i64_w, i32_w]
                rfl
              refine one_ (i := 4) (N := some 99) #[true, true, true, true, true, false, false, false, true, false, false] rfl rfl (by kernel_rfl) (by decide) (fun K hK => ?_)
              refine goes_ Try.func29 (by kernel_rfl) rfl #[.agg #[.slice A_q1 L.length c_q1], .agg #[.slice A_q3 M.length c_q3]] (by rfl) rfl rfl (by simp only [List.map_toArray, List.map_cons, List.map_nil]; rfl) ?_
              with_reducible refine (impl_JoinTreaps.calls A_q1 c_q1 L A_q3 c_q3 M s0 sb _ (Lr.c Q1_138.out) (Lr.n Q1_138.out) (Lr.c Q3_138.out) (Lr.n Q3_138.out) E3.out).mono ?_
              rintro e u_1384 ⟨v_, rfl, ho, hb⟩
              refine ⟨_, rfl, ?_⟩
              have HJ_1384 := Aside0.mk (below_step HJ_138.out hb)
              have Q1_1384 := Aside0.mk (Lr.below Q1_138.out hb)
              have Q3_1384 := Aside0.mk (Lr.below Q3_138.out hb)
              have Z_1384 := Aside0.mk (Bx.below Z_138.out hb)
              have R4_1384 := Aside0.mk (Rng.mono (Rng.of ho) HJ_138.out.size (Nat.le_refl _))
              have hl_ := Lr.of (lo := w.heap.size) ho (below_step HA24.out HJ_138.out).size
              obtain ⟨A_q4, c_q4, e_⟩ := Lr.slice hl_
              subst e_
              have Q4_1384 := Aside0.mk hl_
              clear hl_ ho hb
              refine hK.out _ _ ⟨Bx.cell (Bx.below BA_24.out HJ_1384.out), Bx.cell (Bx.below BB_24.out HJ_1384.out)⟩ (fun hHeld => ?_)
              clear hK K
              refine norm_ (a' := ?_) ?_ ?_
              rotate_left
              · show Act.put _ (some 99) _ = _
                simp only [Act.put, List.setIfInBounds_toArray, List.set_cons_zero, List.set_cons_succ, i64_w, i32_w]
                rfl
              refine pure_ (i := 5) (N := some 94) (v := ?_) (a' := ?_) #[true, true, true, true, true, true, false, false, true, false, false] rfl rfl (by kernel_rfl) (fun _ _ _ h => h) (Or.inl ⟨by rfl, ?_⟩) ?_ ?_
              rotate_left
              · intro w'
                go_simp
                with_reducible rfl
              rotate_left
              · simp only [Act.put, List.setIfInBounds_toArray, List.set_cons_zero, List.set_cons_succ, i64_w, i32_w]
                rfl
              refine pure_ (i := 6) (N := some 100) (v := ?_) (a' := ?_) #[true, true, true, true, true, true, true, false, true, false, false] rfl rfl (by kernel_rfl) (fun _ _ _ h => h) (Or.inl ⟨by rfl, ?_⟩) ?_ ?_
              rotate_left
              · intro w'
                go_simp
                with_reducible rfl
              rotate_left
              · simp only [Act.put, List.setIfInBounds_toArray, List.set_cons_zero, List.set_cons_succ, i64_w, i32_w]
                rfl
              refine pure_ (i := 7) (N := some 101) (v := ?_) (a' := ?_) #[true, true, true, true, true, true, true, true, true, false, false] rfl rfl (by kernel_rfl) (fun _ _ _ h => h) (Or.inl ⟨by rfl, ?_⟩) ?_ ?_
              rotate_left
              · intro w'
                go_simp
                with_reducible rfl
              rotate_left
              · simp only [Act.put, List.setIfInBounds_toArray, List.set_cons_zero, List.set_cons_succ, i64_w, i32_w]
                rfl
              exact norm_ (by simp only [putAll, Act.put, List.setIfInBounds_toArray, List.set_cons_zero, List.set_cons_succ]) (hCont (.slice A_q1 L.length c_q1, .slice A_q3 M.length c_q3, .slice A_q4 s0.length c_q4, u_13.heap.size) _ ⟨HJ_1384.out, Q4_1384.out, R4_1384.out, Z_1384.out, HJ_13.out.size⟩)
          · skip
            refine value_ (w1 := ?_) (v := ?_) (by rfl) rfl ?_ ?_
            rotate_left 2
            · go_simp
              constructor
              · rfl
              · rfl
            obtain ⟨u_18, hu_⟩ : ∃ u_, u_ = u_1.alloc (.cells #[.slice none 0 0] 29) := ⟨_, rfl⟩
            rw [← hu_]
            obtain ⟨q0, hb⟩ := one (w := u_1) (.slice none 0 0) 29
            rw [← hu_] at q0 hb
            have HJ_18 := Aside0.mk (below_step HJ_1.out hb)
            have Q1_18 := Aside0.mk (Lr.below Q1_1.out hb)
            have Z_18 := Aside0.mk q0
            clear hb hu_ q0
            refine hK.out _ _ ⟨Bx.cell (Bx.below BA_24.out HJ_18.out), Bx.cell (Bx.below BB_24.out HJ_18.out)⟩ (fun hHeld => ?_)
            clear hK K
            refine norm_ (a' := ?_) ?_ ?_
            rotate_left
            · show Act.put _ (some 15) _ = _
              simp only [Act.put, List.setIfInBounds_toArray, List.set_cons_zero, List.set_cons_succ, i64_w, i32_w]
              rfl
            refine one_ (i := 3) (N := some 98) #[true, true, true, true, false, false, false, false, true, false, false] rfl rfl (by kernel_rfl) (by decide) (fun K hK => ?_)
            refine goes_ Try.func15 (by kernel_rfl) rfl #[.agg #[.slice B m.length d]] (by rfl) rfl rfl (by simp only [List.map_toArray, List.map_cons, List.map_nil]; rfl) ?_
            with_reducible refine (laws_toTreap.calls k1b B d m M _ (Kd.C_below HRB.out (below_step HA24.out HJ_18.out)) HCB.out E1b.out).mono ?_
            rintro e u_183 ⟨v_, rfl, ho, hb⟩
            refine ⟨_, rfl, ?_⟩
            have HJ_183 := Aside0.mk (below_step HJ_18.out hb)
            have Q1_183 := Aside0.mk (Lr.below Q1_18.out hb)
            have Z_183 := Aside0.mk (Bx.below Z_18.out hb)
            have hl_ := Lr.of (lo := w.heap.size) ho (below_step HA24.out HJ_18.out).size
            obtain ⟨A_q3, c_q3, e_⟩ := Lr.slice hl_
            subst e_
            have Q3_183 := Aside0.mk hl_
            clear hl_ ho hb
            refine hK.out _ _ ⟨Bx.cell (Bx.below BA_24.out HJ_183.out), Bx.cell (Bx.below BB_24.out HJ_183.out)⟩ (fun hHeld => ?_)
            clear hK K
            refine norm_ (a' := ?_) ?_ ?_
            rotate_left
            · show Act.put _ (some 98) _ = _
              simp only [Act.put, List.setIfInBounds_toArray, List.set_cons_zero, List.set_cons_succ, i64_w, i32_w]
              rfl
            refine one_ (i := 4) (N := some 99) #[true, true, true, true, true, false, false, false, true, false, false] rfl rfl (by kernel_rfl) (by decide) (fun K hK => ?_)
            refine goes_ Try.func29 (by kernel_rfl) rfl #[.agg #[.slice A_q1 L.length c_q1], .agg #[.slice A_q3 M.length c_q3]] (by rfl) rfl rfl (by simp only [List.map_toArray, List.map_cons, List.map_nil]; rfl) ?_
            with_reducible refine (impl_JoinTreaps.calls A_q1 c_q1 L A_q3 c_q3 M s0 sb _ (Lr.c Q1_183.out) (Lr.n Q1_183.out) (Lr.c Q3_183.out) (Lr.n Q3_183.out) E3.out).mono ?_
            rintro e u_1834 ⟨v_, rfl, ho, hb⟩
            refine ⟨_, rfl, ?_⟩
            have HJ_1834 := Aside0.mk (below_step HJ_183.out hb)
            have Q1_1834 := Aside0.mk (Lr.below Q1_183.out hb)
            have Q3_1834 := Aside0.mk (Lr.below Q3_183.out hb)
            have Z_1834 := Aside0.mk (Bx.below Z_183.out hb)
            have R4_1834 := Aside0.mk (Rng.mono (Rng.of ho) HJ_183.out.size (Nat.le_refl _))
            have hl_ := Lr.of (lo := w.heap.size) ho (below_step HA24.out HJ_183.out).size
            obtain ⟨A_q4, c_q4, e_⟩ := Lr.slice hl_
            subst e_
            have Q4_1834 := Aside0.mk hl_
            clear hl_ ho hb
            refine hK.out _ _ ⟨Bx.cell (Bx.below BA_24.out HJ_1834.out), Bx.cell (Bx.below BB_24.out HJ_1834.out)⟩ (fun hHeld => ?_)
            clear hK K
            refine norm_ (a' := ?_) ?_ ?_
            rotate_left
            · show Act.put _ (some 99) _ = _
              simp only [Act.put, List.setIfInBounds_toArray, List.set_cons_zero, List.set_cons_succ, i64_w, i32_w]
              rfl
            refine pure_ (i := 5) (N := some 94) (v := ?_) (a' := ?_) #[true, true, true, true, true, true, false, false, true, false, false] rfl rfl (by kernel_rfl) (fun _ _ _ h => h) (Or.inl ⟨by rfl, ?_⟩) ?_ ?_
            rotate_left
            · intro w'
              go_simp
              with_reducible rfl
            rotate_left
            · simp only [Act.put, List.setIfInBounds_toArray, List.set_cons_zero, List.set_cons_succ, i64_w, i32_w]
              rfl
            refine pure_ (i := 6) (N := some 100) (v := ?_) (a' := ?_) #[true, true, true, true, true, true, true, false, true, false, false] rfl rfl (by kernel_rfl) (fun _ _ _ h => h) (Or.inl ⟨by rfl, ?_⟩) ?_ ?_
            rotate_left
            · intro w'
              go_simp
              with_reducible rfl
            rotate_left
            · simp only [Act.put, List.setIfInBounds_toArray, List.set_cons_zero, List.set_cons_succ, i64_w, i32_w]
              rfl
            refine pure_ (i := 7) (N := some 101) (v := ?_) (a' := ?_) #[true, true, true, true, true, true, true, true, true, false, false] rfl rfl (by kernel_rfl) (fun _ _ _ h => h) (Or.inl ⟨by rfl, ?_⟩) ?_ ?_
            rotate_left
            · intro w'
              go_simp
              with_reducible rfl
            rotate_left
            · simp only [Act.put, List.setIfInBounds_toArray, List.set_cons_zero, List.set_cons_succ, i64_w, i32_w]
              rfl
            exact norm_ (by simp only [putAll, Act.put, List.setIfInBounds_toArray, List.set_cons_zero, List.set_cons_succ]) (hCont (.slice A_q1 L.length c_q1, .slice A_q3 M.length c_q3, .slice A_q4 s0.length c_q4, u_1.heap.size) _ ⟨HJ_1834.out, Q4_1834.out, R4_1834.out, Z_1834.out, HJ_1.out.size⟩)
        · skip
          refine value_ (w1 := ?_) (v := ?_) (by rfl) rfl ?_ ?_
          rotate_left 2
          · go_simp
            constructor
            · rfl
            · rfl
          obtain ⟨u_8, hu_⟩ : ∃ u_, u_ = w24.alloc (.cells #[.slice none 0 0] 29) := ⟨_, rfl⟩
          rw [← hu_]
          obtain ⟨q0, hb⟩ := one (w := w24) (.slice none 0 0) 29
          rw [← hu_] at q0 hb
          have HJ_8 := Aside0.mk (below_step (Below.refl w24.heap.size w24) hb)
          have Z_8 := Aside0.mk q0
          clear hb hu_ q0
          refine hK.out _ _ ⟨Bx.cell (Bx.below BA_24.out HJ_8.out), Bx.cell (Bx.below BB_24.out HJ_8.out)⟩ (fun hHeld => ?_)
          clear hK K
          refine norm_ (a' := ?_) ?_ ?_
          rotate_left
          · show Act.put _ (some 15) _ = _
            simp only [Act.put, List.setIfInBounds_toArray, List.set_cons_zero, List.set_cons_succ, i64_w, i32_w]
            rfl
          refine one_ (i := 1) (N := some 96) #[true, true, true, false, false, false, false, false, true, false, false] rfl rfl (by kernel_rfl) (by decide) (fun K hK => ?_)
          refine goes_ Try.func15 (by kernel_rfl) rfl #[.agg #[.slice A l.length c]] (by rfl) rfl rfl (by simp only [List.map_toArray, List.map_cons, List.map_nil]; rfl) ?_
          with_reducible refine (laws_toTreap.calls k1 A c l L _ (Kd.C_below HR.out (below_step HA24.out HJ_8.out)) HC.out E1.out).mono ?_
          rintro e u_81 ⟨v_, rfl, ho, hb⟩
          refine ⟨_, rfl, ?_⟩
          have HJ_81 := Aside0.mk (below_step HJ_8.out hb)
          have Z_81 := Aside0.mk (Bx.below Z_8.out hb)
          have hl_ := Lr.of (lo := w.heap.size) ho (below_step HA24.out HJ_8.out).size
          obtain ⟨A_q1, c_q1, e_⟩ := Lr.slice hl_
          subst e_
          have Q1_81 := Aside0.mk hl_
          clear hl_ ho hb
          refine hK.out _ _ ⟨Bx.cell (Bx.below BA_24.out HJ_81.out), Bx.cell (Bx.below BB_24.out HJ_81.out)⟩ (fun hHeld => ?_)
          clear hK K
          refine norm_ (a' := ?_) ?_ ?_
          rotate_left
          · show Act.put _ (some 96) _ = _
            simp only [Act.put, List.setIfInBounds_toArray, List.set_cons_zero, List.set_cons_succ, i64_w, i32_w]
            rfl
          refine one_ (i := 3) (N := some 98) #[true, true, true, true, false, false, false, false, true, false, false] rfl rfl (by kernel_rfl) (by decide) (fun K hK => ?_)
          refine goes_ Try.func15 (by kernel_rfl) rfl #[.agg #[.slice B m.length d]] (by rfl) rfl rfl (by simp only [List.map_toArray, List.map_cons, List.map_nil]; rfl) ?_
          with_reducible refine (laws_toTreap.calls k1b B d m M _ (Kd.C_below HRB.out (below_step HA24.out HJ_81.out)) HCB.out E1b.out).mono ?_
          rintro e u_813 ⟨v_, rfl, ho, hb⟩
          refine ⟨_, rfl, ?_⟩
          have HJ_813 := Aside0.mk (below_step HJ_81.out hb)
          have Q1_813 := Aside0.mk (Lr.below Q1_81.out hb)
          have Z_813 := Aside0.mk (Bx.below Z_81.out hb)
          have hl_ := Lr.of (lo := w.heap.size) ho (below_step HA24.out HJ_81.out).size
          obtain ⟨A_q3, c_q3, e_⟩ := Lr.slice hl_
          subst e_
          have Q3_813 := Aside0.mk hl_
          clear hl_ ho hb
          refine hK.out _ _ ⟨Bx.cell (Bx.below BA_24.out HJ_813.out), Bx.cell (Bx.below BB_24.out HJ_813.out)⟩ (fun hHeld => ?_)
          clear hK K
          refine norm_ (a' := ?_) ?_ ?_
          rotate_left
          · show Act.put _ (some 98) _ = _
            simp only [Act.put, List.setIfInBounds_toArray, List.set_cons_zero, List.set_cons_succ, i64_w, i32_w]
            rfl
          refine one_ (i := 4) (N := some 99) #[true, true, true, true, true, false, false, false, true, false, false] rfl rfl (by kernel_rfl) (by decide) (fun K hK => ?_)
          refine goes_ Try.func29 (by kernel_rfl) rfl #[.agg #[.slice A_q1 L.length c_q1], .agg #[.slice A_q3 M.length c_q3]] (by rfl) rfl rfl (by simp only [List.map_toArray, List.map_cons, List.map_nil]; rfl) ?_
          with_reducible refine (impl_JoinTreaps.calls A_q1 c_q1 L A_q3 c_q3 M s0 sb _ (Lr.c Q1_813.out) (Lr.n Q1_813.out) (Lr.c Q3_813.out) (Lr.n Q3_813.out) E3.out).mono ?_
          rintro e u_8134 ⟨v_, rfl, ho, hb⟩
          refine ⟨_, rfl, ?_⟩
          have HJ_8134 := Aside0.mk (below_step HJ_813.out hb)
          have Q1_8134 := Aside0.mk (Lr.below Q1_813.out hb)
          have Q3_8134 := Aside0.mk (Lr.below Q3_813.out hb)
          have Z_8134 := Aside0.mk (Bx.below Z_813.out hb)
          have R4_8134 := Aside0.mk (Rng.mono (Rng.of ho) HJ_813.out.size (Nat.le_refl _))
          have hl_ := Lr.of (lo := w.heap.size) ho (below_step HA24.out HJ_813.out).size
          obtain ⟨A_q4, c_q4, e_⟩ := Lr.slice hl_
          subst e_
          have Q4_8134 := Aside0.mk hl_
          clear hl_ ho hb
          refine hK.out _ _ ⟨Bx.cell (Bx.below BA_24.out HJ_8134.out), Bx.cell (Bx.below BB_24.out HJ_8134.out)⟩ (fun hHeld => ?_)
          clear hK K
          refine norm_ (a' := ?_) ?_ ?_
          rotate_left
          · show Act.put _ (some 99) _ = _
            simp only [Act.put, List.setIfInBounds_toArray, List.set_cons_zero, List.set_cons_succ, i64_w, i32_w]
            rfl
          refine pure_ (i := 5) (N := some 94) (v := ?_) (a' := ?_) #[true, true, true, true, true, true, false, false, true, false, false] rfl rfl (by kernel_rfl) (fun _ _ _ h => h) (Or.inl ⟨by rfl, ?_⟩) ?_ ?_
          rotate_left
          · intro w'
            go_simp
            with_reducible rfl
          rotate_left
          · simp only [Act.put, List.setIfInBounds_toArray, List.set_cons_zero, List.set_cons_succ, i64_w, i32_w]
            rfl
          refine pure_ (i := 6) (N := some 100) (v := ?_) (a' := ?_) #[true, true, true, true, true, true, true, false, true, false, false] rfl rfl (by kernel_rfl) (fun _ _ _ h => h) (Or.inl ⟨by rfl, ?_⟩) ?_ ?_
          rotate_left
          · intro w'
            go_simp
            with_reducible rfl
          rotate_left
          · simp only [Act.put, List.setIfInBounds_toArray, List.set_cons_zero, List.set_cons_succ, i64_w, i32_w]
            rfl
          refine pure_ (i := 7) (N := some 101) (v := ?_) (a' := ?_) #[true, true, true, true, true, true, true, true, true, false, false] rfl rfl (by kernel_rfl) (fun _ _ _ h => h) (Or.inl ⟨by rfl, ?_⟩) ?_ ?_
          rotate_left
          · intro w'
            go_simp
            with_reducible rfl
          rotate_left
          · simp only [Act.put, List.setIfInBounds_toArray, List.set_cons_zero, List.set_cons_succ, i64_w, i32_w]
            rfl
          exact norm_ (by simp only [putAll, Act.put, List.setIfInBounds_toArray, List.set_cons_zero, List.set_cons_succ]) (hCont (.slice A_q1 L.length c_q1, .slice A_q3 M.length c_q3, .slice A_q4 s0.length c_q4, w24.heap.size) _ ⟨HJ_8134.out, Q4_8134.out, R4_8134.out, Z_8134.out, (Below.refl w24.heap.size w24).size⟩)
      rintro ⟨va_, vb_, vc_, bz_H0_⟩ w25 ⟨hb, hl_, hr_, hz_, hs_⟩
      have HA25 := Aside0.mk (below_step HA24.out hb)
      have S0_25 := Aside0.mk (Lr.below S0_24.out hb)
      have G0_25 := Aside0.mk (Lr.below G0_24.out hb)
      have BA_25 := Aside0.mk (Bx.below BA_24.out hb)
      have BB_25 := Aside0.mk (Bx.below BB_24.out hb)
      have BS0_25 := Aside0.mk (Bx.below BS0_24.out hb)
      have BX_25 := Aside0.mk (Bx.below BX_24.out hb)
      have BY_25 := Aside0.mk (Bx.below BY_24.out hb)
      have BG0_25 := Aside0.mk (Bx.below BG0_24.out hb)
      have HZ24 := Aside0.mk hb.size
      have RG_H0_ := Aside0.mk hr_
      obtain ⟨A_H0_, c_H0_, e_⟩ := Lr.slice (show Lr w25 w.heap.size vc_ s0 from hl_)
      subst e_
      have H0_25 := Aside0.mk (show Lr w25 w.heap.size (.slice A_H0_ s0.length c_H0_) s0 from hl_)
      have Z_25 := Aside0.mk (show Bx w25 bz_H0_ (.slice none 0 0) 29 from hz_)
      have HS_bz_H0_ := Aside0.mk (show w24.heap.size ≤ bz_H0_ from hs_)
      have HL_bz_H0_ := Aside0.mk (blk_lt hz_)
      clear hl_ hr_ hz_ hs_ HA24 S0_24 G0_24 BA_24 BB_24 BS0_24 BX_24 BY_24 BG0_24 hb
      have hHeld := (⟨Bx.cell BA_25.out, Bx.cell BB_25.out⟩ : w25.cell? ⟨w.heap.size, 0, none⟩ = some (.slice A l.length c) ∧ w25.cell? ⟨w.heap.size + 1, 0, none⟩ = some (.slice B m.length d))
      refine norm_ (a' := ?_) ?_ ?_
      rotate_left
      · simp only [putAll, Act.put, List.setIfInBounds_toArray, List.set_cons_zero, List.set_cons_succ]
        rfl
      refine one_ (i := 9) (N := none) #[true, true, true, true, true, true, true, true, true, true, false] rfl rfl (by kernel_rfl) (by decide) (fun K hK => ?_)
      have hz0_ := Bx.cell Z_25.out
      have hzf_ := blk_frozen Z_25.out 0
      refine skip_ (w1 := ?_) (by rfl) rfl ?_ ?_
      rotate_left
      · go_simp
        rfl
      obtain ⟨w26, hw⟩ : ∃ W_, W_ = w25.setCell ⟨bz_H0_, 0, none⟩ (.slice A_H0_ s0.length c_H0_) := ⟨_, rfl⟩
      rw [← hw]
      have hz_ := Z_25.out
      have HA26 := Aside0.mk (show Below w.heap.size w w26 by rw [hw]; exact HA25.out.setCell (p := ⟨bz_H0_, 0, none⟩) (show w.heap.size ≤ bz_H0_ by have h2 := HS_bz_H0_.out; have := HWS.out; have := HZ0.out; have := HZ1.out; have := HZ2.out; have := HZ3.out; have := HZ4.out; have := HZ5.out; have := HZ6.out; have := HZ7.out; have := HZ8.out; have := HZ9.out; have := HZ10.out; have := HZ11.out; have := HZ12.out; have := HZ13.out; have := HZ14.out; have := HZ15.out; have := HZ16.out; have := HZ17.out; have := HZ18.out; have := HZ19.out; have := HZ20.out; have := HZ21.out; have := HZ22.out; have := HZ23.out; have := HL_bz_S0_.out; have := HS_bz_S0_.out; omega) _)
      have S0_26 := Aside0.mk (show Lr w26 w.heap.size _ _ by rw [hw]; exact Lr.set S0_25.out hz_ _)
      have G0_26 := Aside0.mk (show Lr w26 w.heap.size _ _ by rw [hw]; exact Lr.set G0_25.out hz_ _)
      have H0_26 := Aside0.mk (show Lr w26 w.heap.size _ _ by rw [hw]; exact Lr.set H0_25.out hz_ _)
      have BA_26 := Aside0.mk (show Bx w26 _ _ _ by rw [hw]; exact Bx.set BA_25.out (by have h2 := HS_bz_H0_.out; have := HWS.out; have := HZ0.out; have := HZ1.out; have := HZ2.out; have := HZ3.out; have := HZ4.out; have := HZ5.out; have := HZ6.out; have := HZ7.out; have := HZ8.out; have := HZ9.out; have := HZ10.out; have := HZ11.out; have := HZ12.out; have := HZ13.out; have := HZ14.out; have := HZ15.out; have := HZ16.out; have := HZ17.out; have := HZ18.out; have := HZ19.out; have := HZ20.out; have := HZ21.out; have := HZ22.out; have := HZ23.out; have := HL_bz_S0_.out; have := HS_bz_S0_.out; omega) _)
      have BB_26 := Aside0.mk (show Bx w26 _ _ _ by rw [hw]; exact Bx.set BB_25.out (by have h2 := HS_bz_H0_.out; have := HWS.out; have := HZ0.out; have := HZ1.out; have := HZ2.out; have := HZ3.out; have := HZ4.out; have := HZ5.out; have := HZ6.out; have := HZ7.out; have := HZ8.out; have := HZ9.out; have := HZ10.out; have := HZ11.out; have := HZ12.out; have := HZ13.out; have := HZ14.out; have := HZ15.out; have := HZ16.out; have := HZ17.out; have := HZ18.out; have := HZ19.out; have := HZ20.out; have := HZ21.out; have := HZ22.out; have := HZ23.out; have := HL_bz_S0_.out; have := HS_bz_S0_.out; omega) _)
      have BS0_26 := Aside0.mk (show Bx w26 _ _ _ by rw [hw]; exact Bx.set BS0_25.out (by have h2 := HS_bz_H0_.out; have := HWS.out; have := HZ0.out; have := HZ1.out; have := HZ2.out; have := HZ3.out; have := HZ4.out; have := HZ5.out; have := HZ6.out; have := HZ7.out; have := HZ8.out; have := HZ9.out; have := HZ10.out; have := HZ11.out; have := HZ12.out; have := HZ13.out; have := HZ14.out; have := HZ15.out; have := HZ16.out; have := HZ17.out; have := HZ18.out; have := HZ19.out; have := HZ20.out; have := HZ21.out; have := HZ22.out; have := HZ23.out; have := HL_bz_S0_.out; have := HS_bz_S0_.out; omega) _)
      have BX_26 := Aside0.mk (show Bx w26 _ _ _ by rw [hw]; exact Bx.set BX_25.out (by have h2 := HS_bz_H0_.out; have := HWS.out; have := HZ0.out; have := HZ1.out; have := HZ2.out; have := HZ3.out; have := HZ4.out; have := HZ5.out; have := HZ6.out; have := HZ7.out; have := HZ8.out; have := HZ9.out; have := HZ10.out; have := HZ11.out; have := HZ12.out; have := HZ13.out; have := HZ14.out; have := HZ15.out; have := HZ16.out; have := HZ17.out; have := HZ18.out; have := HZ19.out; have := HZ20.out; have := HZ21.out; have := HZ22.out; have := HZ23.out; have := HL_bz_S0_.out; have := HS_bz_S0_.out; omega) _)
      have BY_26 := Aside0.mk (show Bx w26 _ _ _ by rw [hw]; exact Bx.set BY_25.out (by have h2 := HS_bz_H0_.out; have := HWS.out; have := HZ0.out; have := HZ1.out; have := HZ2.out; have := HZ3.out; have := HZ4.out; have := HZ5.out; have := HZ6.out; have := HZ7.out; have := HZ8.out; have := HZ9.out; have := HZ10.out; have := HZ11.out; have := HZ12.out; have := HZ13.out; have := HZ14.out; have := HZ15.out; have := HZ16.out; have := HZ17.out; have := HZ18.out; have := HZ19.out; have := HZ20.out; have := HZ21.out; have := HZ22.out; have := HZ23.out; have := HL_bz_S0_.out; have := HS_bz_S0_.out; omega) _)
      have BG0_26 := Aside0.mk (show Bx w26 _ _ _ by rw [hw]; exact Bx.set BG0_25.out (by have h2 := HS_bz_H0_.out; have := HWS.out; have := HZ0.out; have := HZ1.out; have := HZ2.out; have := HZ3.out; have := HZ4.out; have := HZ5.out; have := HZ6.out; have := HZ7.out; have := HZ8.out; have := HZ9.out; have := HZ10.out; have := HZ11.out; have := HZ12.out; have := HZ13.out; have := HZ14.out; have := HZ15.out; have := HZ16.out; have := HZ17.out; have := HZ18.out; have := HZ19.out; have := HZ20.out; have := HZ21.out; have := HZ22.out; have := HZ23.out; have := HL_bz_S0_.out; have := HS_bz_S0_.out; omega) _)
      have BH0_26 := Aside0.mk (show Bx w26 bz_H0_ (.slice A_H0_ s0.length c_H0_) 29 by rw [hw]; exact Bx.put hz_ _)
      have HZ25 := Aside0.mk (show w25.heap.size ≤ w26.heap.size by rw [hw]; simp [World.setCell])
      clear hz0_ hzf_ hz_ hw Z_25 HA25 S0_25 G0_25 H0_25 BA_25 BB_25 BS0_25 BX_25 BY_25 BG0_25
      refine hK.out _ _ ⟨Bx.cell BA_26.out, Bx.cell BB_26.out⟩ (fun hHeld => ?_)
      clear hK K
      refine pure_ (i := 10) (N := some 16) (v := ?_) (a' := ?_) #[true, true, true, true, true, true, true, true, true, true, true] rfl rfl (by kernel_rfl) (fun _ _ _ h => h) (Or.inl ⟨by rfl, ?_⟩) ?_ ?_
      rotate_left
      · intro w'
        go_simp
        with_reducible rfl
      rotate_left
      · simp only [Act.put, List.setIfInBounds_toArray, List.set_cons_zero, List.set_cons_succ, i64_w, i32_w]
        rfl
      refine done_ (by kernel_rfl) ?_
      have cc_BH0_ : w26.cell? ⟨bz_H0_, 0, none⟩ = some (.slice A_H0_ s0.length c_H0_) := Bx.cell BH0_26.out
      have cc_BS0_ : w26.cell? ⟨bz_S0_, 0, none⟩ = some (.slice A_S0_ s0.length c_S0_) := Bx.cell BS0_26.out
      go_upto_region 34 with (first | (go_at_call 17; go_loud ((with_reducible refine (laws_eqTreap.calls k4 A_H0_ c_H0_ s0 A_S0_ c_S0_ s0 true _ (Lr.c H0_26.out) (Lr.n H0_26.out) (Lr.c S0_26.out) (Lr.n S0_26.out) E4.out).mono ?_); rintro e w27 ⟨rfl, hb⟩; have HA27 := Aside0.mk (below_step HA26.out hb); have S0_27 := Aside0.mk (Lr.below S0_26.out hb); have G0_27 := Aside0.mk (Lr.below G0_26.out hb); have H0_27 := Aside0.mk (Lr.below H0_26.out hb); have BA_27 := Aside0.mk (Bx.below BA_26.out hb); have BB_27 := Aside0.mk (Bx.below BB_26.out hb); have BS0_27 := Aside0.mk (Bx.below BS0_26.out hb); have BX_27 := Aside0.mk (Bx.below BX_26.out hb); have BY_27 := Aside0.mk (Bx.below BY_26.out hb); have BG0_27 := Aside0.mk (Bx.below BG0_26.out hb); have BH0_27 := Aside0.mk (Bx.below BH0_26.out hb); have HZ26 := Aside0.mk hb.size; clear HA26 S0_26 G0_26 H0_26 BA_26 BB_26 BS0_26 BX_26 BY_26 BG0_26 BH0_26; clear hb; clear cc_BH0_ cc_BS0_; have cc_BG0_ : w27.cell? ⟨w10.heap.size, 0, none⟩ = some (.slice A_G0_ s0.length c_G0_) := Bx.cell BG0_27.out)))
      go_wp2_with (first | (go_at_call 30; go_loud (have hcal := laws_heldTreap.calls k10 A_G0_ c_G0_ q8 1 z8 w27 (Lr.c G0_27.out) (by have h_ := Lr.len G0_27.out; omega) E10.out; rw [HQ_G0_.out] at hcal; (with_reducible refine (hcal).mono ?_); rintro e w28 ⟨rfl, hb⟩; have HA28 := Aside0.mk (below_step HA27.out hb); have S0_28 := Aside0.mk (Lr.below S0_27.out hb); have G0_28 := Aside0.mk (Lr.below G0_27.out hb); have H0_28 := Aside0.mk (Lr.below H0_27.out hb); have BA_28 := Aside0.mk (Bx.below BA_27.out hb); have BB_28 := Aside0.mk (Bx.below BB_27.out hb); have BS0_28 := Aside0.mk (Bx.below BS0_27.out hb); have BX_28 := Aside0.mk (Bx.below BX_27.out hb); have BY_28 := Aside0.mk (Bx.below BY_27.out hb); have BG0_28 := Aside0.mk (Bx.below BG0_27.out hb); have BH0_28 := Aside0.mk (Bx.below BH0_27.out hb); have HZ27 := Aside0.mk hb.size; clear HA27 S0_27 G0_27 H0_27 BA_27 BB_27 BS0_27 BX_27 BY_27 BG0_27 BH0_27; clear hb hcal; clear cc_BG0_)))
      go_ret
      exact ⟨rfl, HA28.out⟩
end Go.Proofs.Ytjknkeipginpcaa.LwJo
end

section
-- Written by a program of this session (pprint.py) out of the translation's print; Lean checks it.
namespace Go.Proofs.Ytjknkeipginpcaa.PQ
open Go.RowKit Go.Proofs.YtjknkeipginpcaaW.PrintWords Go.Proofs.YtjknkeipginpcaaW.PrintLast Go.Proofs.YtjknkeipginpcaaW.PrintMore
attribute [local go_sem] max2_int min2_int max_two min_two max_three min_three max_four min_four   -- for this text's walks alone
set_option linter.unusedVariables false
set_option linter.unusedSimpArgs false

--OWNPART laws_FnExactJoinTreaps
/-! ### laws_FnExactJoinTreaps: function 7, by hand -/
--NEEDS loop.example/g00274/impl.GoodTreap
--NEEDS loop.example/g00274/spec.l7Of
--NEEDS loop.example/g00274/impl.JoinTreaps
--NEEDS loop.example/g00274/spec.JoinTreaps
--NEEDS loop.example/g00274/laws.szTreap
--NEEDS loop.example/g00274/laws.toTreap
--NEEDS loop.example/g00274/laws.eqTreap
--NEEDS loop.example/g00274/laws.markTreap
--NEEDS loop.example/g00274/laws.heldTreap
--IMPORT LwJo
def laws_FnExactJoinTreaps.Pure : Prop := True
theorem laws_FnExactJoinTreaps.walk (P : laws_FnExactJoinTreaps.Pure) (A0_0 : Option Addr) (c0_0 : Nat) (l0_0 : List (S99)) (A1_0 : Option Addr) (c1_0 : Nat) (l1_0 : List (S99)) (w : World) (hr0_0 : Kd.C k99 w A0_0 l0_0.length l0_0) (hc0_0 : l0_0.length ≤ c0_0) (w0_0 : (l0_0.length ≤ maxLen ∧ ∀ x_ ∈ l0_0, (x_.f0.size ≤ maxLen ∧ (x_.f1.size ≤ maxLen ∧ ((Lit.int .i64 x_.f2).wf = true ∧ (Lit.int .i64 x_.f3).wf = true))))) (hr1_0 : Kd.C k99 w A1_0 l1_0.length l1_0) (hc1_0 : l1_0.length ≤ c1_0) (w1_0 : (l1_0.length ≤ maxLen ∧ ∀ x_ ∈ l1_0, (x_.f0.size ≤ maxLen ∧ (x_.f1.size ≤ maxLen ∧ ((Lit.int .i64 x_.f2).wf = true ∧ (Lit.int .i64 x_.f3).wf = true))))) :
  Calls Try.prog 7 #[.agg #[.slice A0_0 l0_0.length c0_0], .agg #[.slice A1_0 l1_0.length c1_0]] w fun e w' => e = .returned (.bool true) ∧ Below w.heap.size w w' :=
 LwJo.calls A0_0 c0_0 l0_0 A1_0 c1_0 l1_0 w hr0_0 hc0_0 ⟨w0_0.1, fun x hx => ⟨(w0_0.2 x hx).1, (w0_0.2 x hx).2.1⟩⟩ hr1_0 hc1_0 ⟨w1_0.1, fun x hx => ⟨(w1_0.2 x hx).1, (w1_0.2 x hx).2.1⟩⟩

end Go.Proofs.Ytjknkeipginpcaa.PQ
end

section
/- Nothing is left of the law FnExactJoinTreaps: it is walked whole. No conditions. -/
namespace Go.Proofs.Ytjknkeipginpcaa.Pure
open Go.Proofs.Ytjknkeipginpcaa.PQ
theorem FnExactJoinTreaps : laws_FnExactJoinTreaps.Pure := trivial
end Go.Proofs.Ytjknkeipginpcaa.Pure
end
