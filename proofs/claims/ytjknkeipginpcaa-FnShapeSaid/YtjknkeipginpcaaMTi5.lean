/- Several texts in one: what the claim's last text rests on. No conditions. -/
import Derived.Test.YtjknkeipginpcaaProg
import Derived.Below
import Derived.Deep.Draws
import Derived.Deep.AppendLies
import Derived.Maps.AppendAt
import Derived.OwnWalk
import Derived.Laws.BytesArg
import Derived.Laws.MakeOwn
import Derived.Laws.OwnMore
import Derived.Deep.OwnRows
import Derived.Tactics
import Derived.Lib.ConvBytes
import Derived.Laws.Slices
import Derived.WalkKit
import Derived.KernelRfl
import Derived.RowKit3
import Derived.Deep.LoopGhost
import Derived.Deep.QuietTactic
import Derived.BigQuiet
import Derived.WideLaws
import Derived.Deep.DeepCutAuto
import Derived.Deep.CutBlock
import Derived.Deep.RegionHeld3
import Derived.Laws.Rows
import Derived.Lib.AppendStr
import Derived.ArgAppend
import Derived.Laws.IdiomCopy
import Derived.OrdersHeld
import Derived.Laws.BitsLemmas
import Derived.RowKit
import Derived.Test.YtjknkeipginpcaaMTi1
import Derived.Test.YtjknkeipginpcaaMTi0
import Derived.Test.YtjknkeipginpcaaMTi3
import Derived.Test.YtjknkeipginpcaaMTi2
section
namespace Go.Proofs.Ytjknkeipginpcaa.PQ
open Go.RowKit Go.Proofs.YtjknkeipginpcaaW.PrintWords Go.Proofs.YtjknkeipginpcaaW.PrintLast Go.Proofs.YtjknkeipginpcaaW.PrintMore
attribute [local go_sem] max2_int min2_int max_two min_two max_three min_three max_four min_four
set_option linter.unusedVariables false
set_option linter.unusedSimpArgs false
def errW : Option Int → Value
  | none => .nilIface
  | some c => .iface 0 (.int .i64 c)
theorem errW_none : errW none = .nilIface := rfl
theorem errW_some (c : Int) : errW (some c) = .iface 0 (.int .i64 c) := rfl

theorem info4 : (Try.prog.info? 4).map (fun i => (i.zero, i.size, i.bytes)) = some (some (.bool false), 1, 1) := by kernel_rfl
theorem info71 : (Try.prog.info? 71).map (fun i => (i.zero, i.size, i.bytes)) = some (some (.agg #[(.string ⟨#[]⟩), (.string ⟨#[]⟩), (.int .i64 0), (.int .i64 0)]), 4, 48) := by kernel_rfl
theorem info74 : (Try.prog.info? 74).map (fun i => (i.zero, i.size, i.bytes)) = some (some (.agg #[(.string ⟨#[]⟩), (.string ⟨#[]⟩)]), 2, 32) := by kernel_rfl
theorem info80 : (Try.prog.info? 80).map (fun i => (i.zero, i.size, i.bytes)) = some (some (.agg #[(.string ⟨#[]⟩), (.string ⟨#[]⟩)]), 2, 32) := by kernel_rfl
structure S80 where
  f0 : ByteArray
  f1 : ByteArray
def z80 : S80 := ⟨(⟨#[]⟩ : ByteArray), (⟨#[]⟩ : ByteArray)⟩
def k80 : Kd S80 := Kd.iso (Kd.pair Kd.string Kd.string) (fun x : S80 => (x.f0, x.f1))
theorem k80_open {w : World} {x : S80} {cs : List Value} (h : k80.K w x cs) : cs = [.string x.f0, .string x.f1] := by
  obtain ⟨_, _, rfl, rfl, rfl⟩ := h
  exact rfl
theorem k80_openM {w : World} {base : Nat} {ok : Nat → Prop} {x : S80} {cs : List Value} (h : k80.M w base ok x cs) : cs = [.string x.f0, .string x.f1] := by
  obtain ⟨_, _, rfl, rfl, rfl⟩ := h
  exact rfl
theorem k80_mkM (w : World) (base : Nat) (ok : Nat → Prop) (x : S80)  : k80.M w base ok x [.string x.f0, .string x.f1] := ⟨[.string x.f0], [.string x.f1], rfl, rfl, rfl⟩
def rd_T80 (xs : List S80) (i : Int) : S80 := xs.getD i.toNat z80
theorem at_T80 {w : World} {A : Option Addr} {n : Nat} {xs : List S80} (h : Kd.C k80 w A n xs) (i : Int) (h0 : 0 ≤ i) (h1 : i < n) : ∃ ad , A = some ad ∧ w.cell? (ad.add (i.toNat * 2)) = some (.string (rd_T80 xs i).f0) ∧ w.cell? ⟨(ad.add (i.toNat * 2)).block, (ad.add (i.toNat * 2)).off + 1, none⟩ = some (.string (rd_T80 xs i).f1) := by
  obtain ⟨ad, c, e, _, hK, hc0⟩ := Kd.C_get h z80 i h0 h1
  have hc : ∀ j u, c[j]? = some u → w.cell? (ad.add (i.toNat * 2 + j)) = some u := hc0
  obtain rfl := k80_open hK
  exact ⟨ad, e, hc 0 _ rfl, by rw [← add_field _ _ 1 (by omega)]; exact hc 1 _ rfl⟩

structure S71 where
  f0 : ByteArray
  f1 : ByteArray
  f2 : Int
  f3 : Int
def z71 : S71 := ⟨(⟨#[]⟩ : ByteArray), (⟨#[]⟩ : ByteArray), (0 : Int), (0 : Int)⟩
def k71 : Kd S71 := Kd.iso (Kd.pair Kd.string (Kd.pair Kd.string (Kd.pair (Kd.int .i64) (Kd.int .i64)))) (fun x : S71 => (x.f0, x.f1, x.f2, x.f3))
theorem k71_open {w : World} {x : S71} {cs : List Value} (h : k71.K w x cs) : cs = [.string x.f0, .string x.f1, .int .i64 x.f2, .int .i64 x.f3] := by
  obtain ⟨_, _, rfl, rfl, ⟨_, _, rfl, rfl, ⟨_, _, rfl, rfl, rfl⟩⟩⟩ := h
  exact rfl
theorem k71_openM {w : World} {base : Nat} {ok : Nat → Prop} {x : S71} {cs : List Value} (h : k71.M w base ok x cs) : cs = [.string x.f0, .string x.f1, .int .i64 x.f2, .int .i64 x.f3] := by
  obtain ⟨_, _, rfl, rfl, ⟨_, _, rfl, rfl, ⟨_, _, rfl, rfl, rfl⟩⟩⟩ := h
  exact rfl
theorem k71_mkM (w : World) (base : Nat) (ok : Nat → Prop) (x : S71)  : k71.M w base ok x [.string x.f0, .string x.f1, .int .i64 x.f2, .int .i64 x.f3] := ⟨[.string x.f0], [.string x.f1, .int .i64 x.f2, .int .i64 x.f3], rfl, rfl, ⟨[.string x.f1], [.int .i64 x.f2, .int .i64 x.f3], rfl, rfl, ⟨[.int .i64 x.f2], [.int .i64 x.f3], rfl, rfl, rfl⟩⟩⟩
def rd_T71 (xs : List S71) (i : Int) : S71 := xs.getD i.toNat z71
theorem at_T71 {w : World} {A : Option Addr} {n : Nat} {xs : List S71} (h : Kd.C k71 w A n xs) (i : Int) (h0 : 0 ≤ i) (h1 : i < n) : ∃ ad , A = some ad ∧ w.cell? (ad.add (i.toNat * 4)) = some (.string (rd_T71 xs i).f0) ∧ w.cell? ⟨(ad.add (i.toNat * 4)).block, (ad.add (i.toNat * 4)).off + 1, none⟩ = some (.string (rd_T71 xs i).f1) ∧ w.cell? ⟨(ad.add (i.toNat * 4)).block, (ad.add (i.toNat * 4)).off + 2, none⟩ = some (.int .i64 (rd_T71 xs i).f2) ∧ w.cell? ⟨(ad.add (i.toNat * 4)).block, (ad.add (i.toNat * 4)).off + 3, none⟩ = some (.int .i64 (rd_T71 xs i).f3) := by
  obtain ⟨ad, c, e, _, hK, hc0⟩ := Kd.C_get h z71 i h0 h1
  have hc : ∀ j u, c[j]? = some u → w.cell? (ad.add (i.toNat * 4 + j)) = some u := hc0
  obtain rfl := k71_open hK
  exact ⟨ad, e, hc 0 _ rfl, by rw [← add_field _ _ 1 (by omega)]; exact hc 1 _ rfl, by rw [← add_field _ _ 2 (by omega)]; exact hc 2 _ rfl, by rw [← add_field _ _ 3 (by omega)]; exact hc 3 _ rfl⟩

structure S74 where
  f0 : ByteArray
  f1 : ByteArray
def z74 : S74 := ⟨(⟨#[]⟩ : ByteArray), (⟨#[]⟩ : ByteArray)⟩
def k74 : Kd S74 := Kd.iso (Kd.pair Kd.string Kd.string) (fun x : S74 => (x.f0, x.f1))
theorem k74_open {w : World} {x : S74} {cs : List Value} (h : k74.K w x cs) : cs = [.string x.f0, .string x.f1] := by
  obtain ⟨_, _, rfl, rfl, rfl⟩ := h
  exact rfl
theorem k74_mkM (w : World) (base : Nat) (ok : Nat → Prop) (x : S74)  : k74.M w base ok x [.string x.f0, .string x.f1] := ⟨[.string x.f0], [.string x.f1], rfl, rfl, rfl⟩
def rd_T74 (xs : List S74) (i : Int) : S74 := xs.getD i.toNat z74
theorem at_T74 {w : World} {A : Option Addr} {n : Nat} {xs : List S74} (h : Kd.C k74 w A n xs) (i : Int) (h0 : 0 ≤ i) (h1 : i < n) : ∃ ad , A = some ad ∧ w.cell? (ad.add (i.toNat * 2)) = some (.string (rd_T74 xs i).f0) ∧ w.cell? ⟨(ad.add (i.toNat * 2)).block, (ad.add (i.toNat * 2)).off + 1, none⟩ = some (.string (rd_T74 xs i).f1) := by
  obtain ⟨ad, c, e, _, hK, hc0⟩ := Kd.C_get h z74 i h0 h1
  have hc : ∀ j u, c[j]? = some u → w.cell? (ad.add (i.toNat * 2 + j)) = some u := hc0
  obtain rfl := k74_open hK
  exact ⟨ad, e, hc 0 _ rfl, by rw [← add_field _ _ 1 (by omega)]; exact hc 1 _ rfl⟩

structure S99 where
  f0 : ByteArray
  f1 : ByteArray
  f2 : Int
  f3 : Int
def impl_WeightOf.l0 : Nat → ByteArray → Int → Int → Int → Option (Int)
 | 0, _, _, _, _ => none
 | k + 1, x0, x3, x6, x7 => if x7 < x6 then (if 0 ≤ x7 then (if x7 < (x0.size : Int) then (impl_WeightOf.l0 k x0 (Int.tmod (Go.bits .xor .i64 (wrap64 (33 * x3)) (wrap64 (bt x0 x7))) 1000003) x6 (wrap64 (x7 + 1))) else (none)) else (none)) else (some (Int.tmod (wrap64 (x3 * 7919)) 1000003))
def impl_WeightOf.f (k : Nat) (a0 : ByteArray) : Option (Int) := impl_WeightOf.l0 k a0 5381 (a0.size : Int) 0
set_option maxHeartbeats 8000000 in
set_option maxRecDepth 100000 in
theorem impl_WeightOf.calls (k : Nat) (a0 : ByteArray) (r : Int) (w : World) (h : impl_WeightOf.f k a0 = some r) :
  Calls Try.prog 43 #[.string a0] w fun e w' => e = .returned (.int .i64 r) ∧ Drawn0 w w' := by
 have H : (impl_WeightOf.l0 k a0 5381 (a0.size : Int) 0) = some r := h
 clear h
 have H' := aM H
 clear H
 go_enter Try.func43, Try.ntmps43
 go_wp2
 go_loopg [3, 7] k (fun kq v3 v7 w' => ∃ (x3_1 : Int) (x7_1 : Int), v3 = .int .i64 x3_1 ∧ v7 = .int .i64 x7_1 ∧ Aside0 (impl_WeightOf.l0 kq a0 x3_1 (a0.size : Int) x7_1 = some r) ∧ Aside0 (kq ≤ k) ∧ Drawn0 w w')
 case atStart => exact ⟨(5381), (0), (by first | rfl | (simp; done) | (simp [*]; done)), (by first | rfl | (simp; done) | (simp [*]; done)), H', ⟨Nat.le_refl _⟩, by repeat (first | exact Drawn0.refl _ | apply Drawn0.step)⟩
 case round =>
  clear H'
  obtain ⟨x3_1, x7_1, rfl, rfl, HA, HK1, ⟨m1, rfl⟩⟩ := hrel
  cases gk with
  | zero => exact absurd HA.out (by simp [impl_WeightOf.l0])
  | succ k1 =>
   have H := HA.out
   clear HA
   simp only [impl_WeightOf.l0] at H
   by_cases c2 : x7_1 < (a0.size : Int)
   ·
    rw [if_pos c2] at H
    have c2b0 : decide (x7_1 < (a0.size : Int)) = true := decide_eq_true c2
    clear c2
    by_cases c3 : 0 ≤ x7_1
    ·
     rw [if_pos c3] at H
     have c3b0 : decide (0 ≤ x7_1) = true := decide_eq_true c3
     clear c3
     by_cases c4 : x7_1 < (a0.size : Int)
     ·
      rw [if_pos c4] at H
      have c4b0 : decide (x7_1 < (a0.size : Int)) = true := decide_eq_true c4
      clear c4
      have H' := aM H
      clear H
      have p5 : 0 ≤ (x7_1 : Int) := of_decide_eq_true (by first | (with_reducible assumption) | assumption)
      have q5 : x7_1 < (a0.size : Int) := of_decide_eq_true (by first | (with_reducible assumption) | assumption)
      have hx5 := bt_at a0 x7_1
      replace p5 := eq_true p5
      replace q5 := eq_true q5
      go_wp2
      go_roundg k1
      case measure => have := HK1.out; omega
      case rel => exact ⟨(Int.tmod (Go.bits .xor .i64 (wrap64 (33 * x3_1)) (wrap64 (bt a0 x7_1))) 1000003), (wrap64 (x7_1 + 1)), (by first | rfl | (simp; done) | (simp [*]; done)), (by first | rfl | (simp; done) | (simp [*]; done)), H', ⟨by have := HK1.out; omega⟩, by repeat (first | exact Drawn0.refl _ | apply Drawn0.step)⟩
     ·
      rw [if_neg c4] at H
      exact absurd H (by simp)
    ·
     rw [if_neg c3] at H
     exact absurd H (by simp)
   ·
    rw [if_neg c2] at H
    have c2b0 : decide (x7_1 < (a0.size : Int)) = false := decide_eq_false c2
    clear c2
    obtain rfl := Option.some.inj H
    go_wp2
    go_ret
    exact ⟨by first | rfl | (simp; done) | (simp [*]; done), by repeat (first | exact Drawn0.refl _ | apply Drawn0.step)⟩

def spec_WeightOf.l0 : Nat → ByteArray → Int → Int → Option (Int)
 | 0, _, _, _ => none
 | k + 1, x0, x3, x4 => if x4 < (x0.size : Int) then (if 0 ≤ x4 then (spec_WeightOf.l0 k x0 (Int.tmod (Go.bits .xor .i64 (wrap64 (33 * x3)) (wrap64 (bt x0 x4))) 1000003) (wrap64 (x4 + 1))) else (none)) else (some (Int.tmod (wrap64 (x3 * 7919)) 1000003))
def spec_WeightOf.f (k : Nat) (a0 : ByteArray) : Option (Int) := spec_WeightOf.l0 k a0 5381 0
set_option maxHeartbeats 8000000 in
set_option maxRecDepth 100000 in
theorem spec_WeightOf.calls (k : Nat) (a0 : ByteArray) (r : Int) (w : World) (h : spec_WeightOf.f k a0 = some r) :
  Calls Try.prog 44 #[.string a0] w fun e w' => e = .returned (.int .i64 r) ∧ Drawn0 w w' := by
 have H : (spec_WeightOf.l0 k a0 5381 0) = some r := h
 clear h
 have H' := aM H
 clear H
 go_enter Try.func44, Try.ntmps44
 go_wp2
 go_loopg [3, 4] k (fun kq v3 v4 w' => ∃ (x3_1 : Int) (x4_1 : Int), v3 = .int .i64 x3_1 ∧ v4 = .int .i64 x4_1 ∧ Aside0 (spec_WeightOf.l0 kq a0 x3_1 x4_1 = some r) ∧ Aside0 (kq ≤ k) ∧ Drawn0 w w')
 case atStart => exact ⟨(5381), (0), (by first | rfl | (simp; done) | (simp [*]; done)), (by first | rfl | (simp; done) | (simp [*]; done)), H', ⟨Nat.le_refl _⟩, by repeat (first | exact Drawn0.refl _ | apply Drawn0.step)⟩
 case round =>
  clear H'
  obtain ⟨x3_1, x4_1, rfl, rfl, HA, HK1, ⟨m1, rfl⟩⟩ := hrel
  cases gk with
  | zero => exact absurd HA.out (by simp [spec_WeightOf.l0])
  | succ k1 =>
   have H := HA.out
   clear HA
   simp only [spec_WeightOf.l0] at H
   by_cases c2 : x4_1 < (a0.size : Int)
   ·
    rw [if_pos c2] at H
    have c2b0 : decide (x4_1 < (a0.size : Int)) = true := decide_eq_true c2
    clear c2
    by_cases c3 : 0 ≤ x4_1
    ·
     rw [if_pos c3] at H
     have c3b0 : decide (0 ≤ x4_1) = true := decide_eq_true c3
     clear c3
     have H' := aM H
     clear H
     have p4 : 0 ≤ (x4_1 : Int) := of_decide_eq_true (by first | (with_reducible assumption) | assumption)
     have q4 : x4_1 < (a0.size : Int) := of_decide_eq_true (by first | (with_reducible assumption) | assumption)
     have hx4 := bt_at a0 x4_1
     replace p4 := eq_true p4
     replace q4 := eq_true q4
     go_wp2
     go_roundg k1
     case measure => have := HK1.out; omega
     case rel => exact ⟨(Int.tmod (Go.bits .xor .i64 (wrap64 (33 * x3_1)) (wrap64 (bt a0 x4_1))) 1000003), (wrap64 (x4_1 + 1)), (by first | rfl | (simp; done) | (simp [*]; done)), (by first | rfl | (simp; done) | (simp [*]; done)), H', ⟨by have := HK1.out; omega⟩, by repeat (first | exact Drawn0.refl _ | apply Drawn0.step)⟩
    ·
     rw [if_neg c3] at H
     exact absurd H (by simp)
   ·
    rw [if_neg c2] at H
    have c2b0 : decide (x4_1 < (a0.size : Int)) = false := decide_eq_false c2
    clear c2
    obtain rfl := Option.some.inj H
    go_wp2
    go_ret
    exact ⟨by first | rfl | (simp; done) | (simp [*]; done), by repeat (first | exact Drawn0.refl _ | apply Drawn0.step)⟩

theorem eqA71 (d : Nat) (w : World) (x0 y0 : ByteArray) (x1 y1 : ByteArray) (x2 y2 : Int) (x3 y3 : Int) :
  (Op.equalIn (d + 2) 71 (.agg #[.string x0, .string x1, .int .i64 x2, .int .i64 x3]) (.agg #[.string y0, .string y1, .int .i64 y2, .int .i64 y3])).run Try.prog w = .ok (x0.toList == y0.toList && (x1.toList == y1.toList && (x2 == y2 && (x3 == y3)))) w := by
 refine eqA_of Try.underlying71 (by kernel_rfl) ?_
 refine eqf_cons (by rfl) (by go_simp; rfl) (by go_simp; rfl) (by go_simp) ?_
 refine eqf_cons (by rfl) (by go_simp; rfl) (by go_simp; rfl) (by go_simp) ?_
 refine eqf_cons (by rfl) (by go_simp; rfl) (by go_simp; rfl) (by go_simp) ?_
 exact eqf_last (by rfl) (by go_simp; rfl) (by go_simp; rfl) (by go_simp)
end Go.Proofs.Ytjknkeipginpcaa.PQ
end

section
namespace Go.Proofs.Ytjknkeipginpcaa.PQ
open Go.RowKit Go.Proofs.YtjknkeipginpcaaW.PrintWords Go.Proofs.YtjknkeipginpcaaW.PrintLast Go.Proofs.YtjknkeipginpcaaW.PrintMore
attribute [local go_sem] max2_int min2_int max_two min_two max_three min_three max_four min_four
set_option linter.unusedVariables false
set_option linter.unusedSimpArgs false
attribute [local go_sem high] eqA71
def impl_Limb.l0 : Nat → List (S71) → List (S71) → Int → Int → Option (Bool)
 | 0, _, _, _, _ => none
 | k + 1, x0, x1, x12, x13 => if x13 < x12 then (if 0 ≤ x13 then (if x13 < (x0.length : Int) then (if x13 < (x1.length : Int) then (if (!((((rd_T71 x0 x13).f0).toList) == (((rd_T71 x1 x13).f0).toList)) || (!((((rd_T71 x0 x13).f1).toList) == (((rd_T71 x1 x13).f1).toList)) || (!(((rd_T71 x0 x13).f2) == ((rd_T71 x1 x13).f2)) || (!(((rd_T71 x0 x13).f3) == ((rd_T71 x1 x13).f3)))))) = true then (some false) else (impl_Limb.l0 k x0 x1 x12 (wrap64 (x13 + 1)))) else (none)) else (none)) else (none)) else (some true)
def impl_Limb.f (k : Nat) (l0 : List (S71)) (l1 : List (S71)) : Option (Bool) := if (l0.length : Int) = (l1.length : Int) then (impl_Limb.l0 k l0 l1 (l0.length : Int) 0) else (some false)
set_option maxHeartbeats 8000000 in
set_option maxRecDepth 100000 in
theorem impl_Limb.calls (k : Nat) (A0 : Option Addr) (c0 : Nat) (l0 : List (S71)) (A1 : Option Addr) (c1 : Nat) (l1 : List (S71)) (r : Bool) (w : World) (hr0 : Kd.C k71 w A0 l0.length l0) (hc0 : l0.length ≤ c0) (hr1 : Kd.C k71 w A1 l1.length l1) (hc1 : l1.length ≤ c1) (h : impl_Limb.f k l0 l1 = some r) :
  Calls Try.prog 76 #[.slice A0 l0.length c0, .slice A1 l1.length c1] w fun e w' => e = .returned (.bool r) ∧ Drawn0 w w' := by
 have hu71 := Try.underlying71
 have HR0 := aM hr0
 have HC0 := aM hc0
 clear hr0 hc0
 have HR1 := aM hr1
 have HC1 := aM hc1
 clear hr1 hc1
 have H : (if (l0.length : Int) = (l1.length : Int) then (impl_Limb.l0 k l0 l1 (l0.length : Int) 0) else (some false)) = some r := h
 clear h
 by_cases c3 : (l0.length : Int) = (l1.length : Int)
 ·
  rw [if_pos c3] at H
  have c3b0 : ((l0.length : Int) == (l1.length : Int)) = true := beq_iff_eq.mpr c3
  have c3b1 : ((l0.length : Int) != (l1.length : Int)) = false := bne_eq_false_iff_eq.mpr c3
  have c3b2 : (l0.length == l1.length) = true := by first | simpa using c3 | (simp at c3 ⊢; omega)
  clear c3
  have H' := aM H
  clear H
  go_enter Try.func76, Try.ntmps76
  go_wp2
  repeat (go_quiet (fail); try go_wp2)
  go_loopg [13] k (fun kq v13 w' => ∃ (x13_1 : Int), v13 = .int .i64 x13_1 ∧ Aside0 (impl_Limb.l0 kq l0 l1 (l0.length : Int) x13_1 = some r) ∧ Aside0 (kq ≤ k) ∧ Drawn0 w w')
  case atStart => exact ⟨(0), (by first | rfl | (simp; done) | (simp [*]; done)), H', ⟨Nat.le_refl _⟩, by repeat (first | exact Drawn0.refl _ | apply Drawn0.step)⟩
  case round =>
   clear H'
   try clear c1
   try clear p2
   try clear c3
   try clear c3b0
   try clear c3b1
   try clear c3b2
   obtain ⟨x13_1, rfl, HA, HK1, ⟨m1, rfl⟩⟩ := hrel
   cases gk with
   | zero => exact absurd HA.out (by simp [impl_Limb.l0])
   | succ k1 =>
    have H := HA.out
    clear HA
    simp only [impl_Limb.l0] at H
    by_cases c4 : x13_1 < (l0.length : Int)
    ·
     rw [if_pos c4] at H
     have c4b0 : decide (x13_1 < (l0.length : Int)) = true := decide_eq_true c4
     clear c4
     by_cases c5 : 0 ≤ x13_1
     ·
      rw [if_pos c5] at H
      have c5b0 : decide (0 ≤ x13_1) = true := decide_eq_true c5
      clear c5
      by_cases c6 : x13_1 < (l0.length : Int)
      ·
       rw [if_pos c6] at H
       have c6b0 : decide (x13_1 < (l0.length : Int)) = true := decide_eq_true c6
       clear c6
       by_cases c7 : x13_1 < (l1.length : Int)
       ·
        rw [if_pos c7] at H
        have c7b0 : decide (x13_1 < (l1.length : Int)) = true := decide_eq_true c7
        clear c7
        by_cases c8 : (!((((rd_T71 l0 x13_1).f0).toList) == (((rd_T71 l1 x13_1).f0).toList)) || (!((((rd_T71 l0 x13_1).f1).toList) == (((rd_T71 l1 x13_1).f1).toList)) || (!(((rd_T71 l0 x13_1).f2) == ((rd_T71 l1 x13_1).f2)) || (!(((rd_T71 l0 x13_1).f3) == ((rd_T71 l1 x13_1).f3)))))) = true
        ·
         rw [if_pos c8] at H
         have c8b0 : (!((((rd_T71 l0 x13_1).f0).toList) == (((rd_T71 l1 x13_1).f0).toList)) || (!((((rd_T71 l0 x13_1).f1).toList) == (((rd_T71 l1 x13_1).f1).toList)) || (!(((rd_T71 l0 x13_1).f2) == ((rd_T71 l1 x13_1).f2)) || (!(((rd_T71 l0 x13_1).f3) == ((rd_T71 l1 x13_1).f3)))))) = true := c8
         clear c8
         obtain rfl := Option.some.inj H
         have p130 : 0 ≤ (x13_1 : Int) := of_decide_eq_true (by first | (with_reducible assumption) | assumption)
         have q130 : x13_1 < (l0.length : Int) := of_decide_eq_true (by first | (with_reducible assumption) | assumption)
         obtain ⟨ad130, e130, hx130_0, hx130_1, hx130_2, hx130_3⟩ := at_T71 HR0.out x13_1 p130 q130
         cases e130
         try have hz_hx130_0 := aM hx130_0
         try have hz_hx130_1 := aM hx130_1
         try have hz_hx130_2 := aM hx130_2
         try have hz_hx130_3 := aM hx130_3
         replace p130 := eq_true p130
         replace q130 := eq_true q130
         have p131 : 0 ≤ (x13_1 : Int) := of_decide_eq_true (by first | (with_reducible assumption) | assumption)
         have q131 : x13_1 < (l1.length : Int) := of_decide_eq_true (by first | (with_reducible assumption) | assumption)
         obtain ⟨ad131, e131, hx131_0, hx131_1, hx131_2, hx131_3⟩ := at_T71 HR1.out x13_1 p131 q131
         cases e131
         try have hz_hx131_0 := aM hx131_0
         try have hz_hx131_1 := aM hx131_1
         try have hz_hx131_2 := aM hx131_2
         try have hz_hx131_3 := aM hx131_3
         replace p131 := eq_true p131
         replace q131 := eq_true q131
         go_wp2
         repeat (go_quiet (fail); try go_wp2)
         go_ret
         exact ⟨by first | rfl | (simp; done) | (simp [*]; done), by repeat (first | exact Drawn0.refl _ | apply Drawn0.step)⟩
        ·
         rw [if_neg c8] at H
         have c8b0 : (!((((rd_T71 l0 x13_1).f0).toList) == (((rd_T71 l1 x13_1).f0).toList)) || (!((((rd_T71 l0 x13_1).f1).toList) == (((rd_T71 l1 x13_1).f1).toList)) || (!(((rd_T71 l0 x13_1).f2) == ((rd_T71 l1 x13_1).f2)) || (!(((rd_T71 l0 x13_1).f3) == ((rd_T71 l1 x13_1).f3)))))) = false := by simpa using c8
         clear c8
         have H' := aM H
         clear H
         have p130 : 0 ≤ (x13_1 : Int) := of_decide_eq_true (by first | (with_reducible assumption) | assumption)
         have q130 : x13_1 < (l0.length : Int) := of_decide_eq_true (by first | (with_reducible assumption) | assumption)
         obtain ⟨ad130, e130, hx130_0, hx130_1, hx130_2, hx130_3⟩ := at_T71 HR0.out x13_1 p130 q130
         cases e130
         try have hz_hx130_0 := aM hx130_0
         try have hz_hx130_1 := aM hx130_1
         try have hz_hx130_2 := aM hx130_2
         try have hz_hx130_3 := aM hx130_3
         replace p130 := eq_true p130
         replace q130 := eq_true q130
         have p131 : 0 ≤ (x13_1 : Int) := of_decide_eq_true (by first | (with_reducible assumption) | assumption)
         have q131 : x13_1 < (l1.length : Int) := of_decide_eq_true (by first | (with_reducible assumption) | assumption)
         obtain ⟨ad131, e131, hx131_0, hx131_1, hx131_2, hx131_3⟩ := at_T71 HR1.out x13_1 p131 q131
         cases e131
         try have hz_hx131_0 := aM hx131_0
         try have hz_hx131_1 := aM hx131_1
         try have hz_hx131_2 := aM hx131_2
         try have hz_hx131_3 := aM hx131_3
         replace p131 := eq_true p131
         replace q131 := eq_true q131
         go_wp2
         repeat (go_quiet (fail); try go_wp2)
         go_roundg k1
         case measure => have := HK1.out; omega
         case rel => exact ⟨(wrap64 (x13_1 + 1)), (by first | rfl | (simp; done) | (simp [*]; done)), H', ⟨by have := HK1.out; omega⟩, by repeat (first | exact Drawn0.refl _ | apply Drawn0.step)⟩
       ·
        rw [if_neg c7] at H
        exact absurd H (by simp)
      ·
       rw [if_neg c6] at H
       exact absurd H (by simp)
     ·
      rw [if_neg c5] at H
      exact absurd H (by simp)
    ·
     rw [if_neg c4] at H
     have c4b0 : decide (x13_1 < (l0.length : Int)) = false := decide_eq_false c4
     clear c4
     obtain rfl := Option.some.inj H
     go_wp2
     repeat (go_quiet (fail); try go_wp2)
     go_ret
     exact ⟨by first | rfl | (simp; done) | (simp [*]; done), by repeat (first | exact Drawn0.refl _ | apply Drawn0.step)⟩
 ·
  rw [if_neg c3] at H
  have c3b0 : ((l0.length : Int) == (l1.length : Int)) = false := beq_eq_false_iff_ne.mpr c3
  have c3b1 : ((l0.length : Int) != (l1.length : Int)) = true := bne_iff_ne.mpr c3
  have c3b2 : (l0.length == l1.length) = false := by first | simpa using c3 | (simp at c3 ⊢; omega)
  obtain rfl := Option.some.inj H
  go_enter Try.func76, Try.ntmps76
  go_wp2
  repeat (go_quiet (fail); try go_wp2)
  go_ret
  exact ⟨by first | rfl | (simp; done) | (simp [*]; done), by repeat (first | exact Drawn0.refl _ | apply Drawn0.step)⟩

end Go.Proofs.Ytjknkeipginpcaa.PQ
end

section
namespace Go.Proofs.Ytjknkeipginpcaa.PQ
open Go.RowKit Go.Proofs.YtjknkeipginpcaaW.PrintWords Go.Proofs.YtjknkeipginpcaaW.PrintLast Go.Proofs.YtjknkeipginpcaaW.PrintMore
attribute [local go_sem] max2_int min2_int max_two min_two max_three min_three max_four min_four
set_option linter.unusedVariables false
set_option linter.unusedSimpArgs false
def impl_within.f (a0 : Int) (a1 : Int) (a2 : Int) : Option (Bool) := if a0 ≥ a1 then (some (decide (a0 ≤ a2))) else (some false)
set_option maxHeartbeats 8000000 in
set_option maxRecDepth 100000 in
theorem impl_within.calls (a0 : Int) (a1 : Int) (a2 : Int) (r : Bool) (w : World) (h : impl_within.f a0 a1 a2 = some r) :
  Calls Try.prog 85 #[.int .i64 a0, .int .i64 a1, .int .i64 a2] w fun e w' => e = .returned (.bool r) ∧ Drawn0 w w' := by
 have H : (if a0 ≥ a1 then (some (decide (a0 ≤ a2))) else (some false)) = some r := h
 clear h
 by_cases c4 : a0 ≥ a1
 ·
  rw [if_pos c4] at H
  have c4b0 : decide (a1 ≤ a0) = true := decide_eq_true c4
  clear c4
  obtain rfl := Option.some.inj H
  go_enter Try.func85, Try.ntmps85
  go_wp2
  go_ret
  exact ⟨by first | rfl | (simp; done) | (simp [*]; done), by repeat (first | exact Drawn0.refl _ | apply Drawn0.step)⟩
 ·
  rw [if_neg c4] at H
  have c4b0 : decide (a1 ≤ a0) = false := decide_eq_false c4
  clear c4
  obtain rfl := Option.some.inj H
  go_enter Try.func85, Try.ntmps85
  go_wp2
  go_ret
  exact ⟨by first | rfl | (simp; done) | (simp [*]; done), by repeat (first | exact Drawn0.refl _ | apply Drawn0.step)⟩

def impl_treapKeyOK.f (a0 : ByteArray) : Option (Bool) := (impl_within.f (a0.size : Int) 1 40).bind fun t129 => (some t129)
set_option maxHeartbeats 8000000 in
set_option maxRecDepth 100000 in
theorem impl_treapKeyOK.calls (a0 : ByteArray) (r : Bool) (w : World) (h : impl_treapKeyOK.f a0 = some r) :
  Calls Try.prog 70 #[.string a0] w fun e w' => e = .returned (.bool r) ∧ Drawn0 w w' := by
 have H : ((impl_within.f (a0.size : Int) 1 40).bind fun t129 => (some t129)) = some r := h
 clear h
 replace H := Option.bind_eq_some_iff.mp H
 obtain ⟨t129, A20, H⟩ := H
 replace H : (some t129) = some r := H
 have A2 := aM A20
 clear A20
 obtain rfl := Option.some.inj H
 go_enter Try.func70, Try.ntmps70
 go_wp2_with (first | ((with_reducible refine gate_callee (f := 85) rfl ?_); refine goesL_ (some 5) rfl rfl Try.func85 (by kernel_rfl) rfl #[.int .i64 (a0.size : Int), .int .i64 1, .int .i64 40] rfl (by (try simp only [List.map_toArray, List.map_cons, List.map_nil]); first | done | rfl | (simp only [List.length_drop, List.length_take]; rfl)) ?_; (with_reducible refine (impl_within.calls (a0.size : Int) 1 40 t129 _ A2.out).mono ?_); rintro e w' ⟨rfl, ⟨nd, rfl⟩⟩; refine ⟨_, rfl, ?_⟩))
 go_ret
 exact ⟨by first | rfl | (simp; done) | (simp [*]; done), by repeat (first | exact Drawn0.refl _ | apply Drawn0.step)⟩

def spec_l1In.f (a0 : Int) (a1 : Int) (a2 : Int) : Option (Bool) := if a0 ≥ a1 then (some (decide (a0 ≤ a2))) else (some false)
set_option maxHeartbeats 8000000 in
set_option maxRecDepth 100000 in
theorem spec_l1In.calls (a0 : Int) (a1 : Int) (a2 : Int) (r : Bool) (w : World) (h : spec_l1In.f a0 a1 a2 = some r) :
  Calls Try.prog 68 #[.int .i64 a0, .int .i64 a1, .int .i64 a2] w fun e w' => e = .returned (.bool r) ∧ Drawn0 w w' := by
 have H : (if a0 ≥ a1 then (some (decide (a0 ≤ a2))) else (some false)) = some r := h
 clear h
 by_cases c4 : a0 ≥ a1
 ·
  rw [if_pos c4] at H
  have c4b0 : decide (a1 ≤ a0) = true := decide_eq_true c4
  clear c4
  obtain rfl := Option.some.inj H
  go_enter Try.func68, Try.ntmps68
  go_wp2
  go_ret
  exact ⟨by first | rfl | (simp; done) | (simp [*]; done), by repeat (first | exact Drawn0.refl _ | apply Drawn0.step)⟩
 ·
  rw [if_neg c4] at H
  have c4b0 : decide (a1 ≤ a0) = false := decide_eq_false c4
  clear c4
  obtain rfl := Option.some.inj H
  go_enter Try.func68, Try.ntmps68
  go_wp2
  go_ret
  exact ⟨by first | rfl | (simp; done) | (simp [*]; done), by repeat (first | exact Drawn0.refl _ | apply Drawn0.step)⟩

end Go.Proofs.Ytjknkeipginpcaa.PQ
end

section
namespace Go.Proofs.Ytjknkeipginpcaa.PQ
open Go.RowKit Go.Proofs.YtjknkeipginpcaaW.PrintWords Go.Proofs.YtjknkeipginpcaaW.PrintLast Go.Proofs.YtjknkeipginpcaaW.PrintMore
/-- The second world is the first with more in it. -/
structure Gr (W W2 : World) : Prop where
  b : Below W.heap.size W W2
attribute [class] Gr
instance gr0 (W : World) : Gr W W := ⟨Below.refl _ _⟩
instance gr1 (W W2 : World) [h : Gr W W2] (o : Obj) : Gr W (W2.alloc o) := ⟨below_alloc h.b o⟩
instance gr2 (W W2 : World) [h : Gr W W2] : Gr W W2.drew := ⟨below_drew1 h.b⟩
instance gr3 (W W2 : World) [h : Gr W W2] (m : Nat) : Gr W (W2.drewN m) := ⟨pw_below_drewN h.b m⟩
theorem gB {w W W2 : World} (h : Below w.heap.size w W) [g : Gr W W2] : Below w.heap.size w W2 := below_step h g.b
theorem gK {W W2 : World} {k : Nat} {o : Obj} (h : W.heap[k]? = some o) [g : Gr W W2] : W2.heap[k]? = some o := (g.b.block k (blk_lt h)).trans h
theorem gR {W W2 : World} {α : Type} {d : Kd α} {e : TypeId} {base : Nat} {ok : Nat → Prop} {v : Value} {xs : List α} (h : Kd.R d e W base ok v xs) [g : Gr W W2] : Kd.R d e W2 base ok v xs := Kd.R_below h g.b
end Go.Proofs.Ytjknkeipginpcaa.PQ
end

section
namespace Go.Proofs.Ytjknkeipginpcaa.PQ
open Go.RowKit Go.Proofs.YtjknkeipginpcaaW.PrintWords Go.Proofs.YtjknkeipginpcaaW.PrintLast Go.Proofs.YtjknkeipginpcaaW.PrintMore
attribute [local go_sem] max2_int min2_int max_two min_two max_three min_three max_four min_four
set_option linter.unusedVariables false
set_option linter.unusedSimpArgs false
mutual
def spec_l7Pairs.j0 : Nat → Int → Int → Bool → List (S71) → Option ((List (S74)) × Bool)
 | 0, _, _, _, _ => none
 | k + 1, x1, x2, x26, x166000 => if x26 = true then (some (([] : List (S74)), false)) else (if 0 ≤ x1 then (if x1 < (x166000.length : Int) then (if ((rd_T71 x166000 x1).f2) = (-1) then (if ((rd_T71 x166000 x1).f3) = (-1) then (spec_l7Pairs.j1 k x2 false x166000 ((rd_T71 x166000 x1).f0) ((rd_T71 x166000 x1).f1) ((rd_T71 x166000 x1).f2) ((rd_T71 x166000 x1).f3)) else (spec_l7Pairs.j1 k x2 (decide (((rd_T71 x166000 x1).f3) ≤ x1)) x166000 ((rd_T71 x166000 x1).f0) ((rd_T71 x166000 x1).f1) ((rd_T71 x166000 x1).f2) ((rd_T71 x166000 x1).f3))) else (if ((rd_T71 x166000 x1).f2) ≤ x1 then (spec_l7Pairs.j1 k x2 true x166000 ((rd_T71 x166000 x1).f0) ((rd_T71 x166000 x1).f1) ((rd_T71 x166000 x1).f2) ((rd_T71 x166000 x1).f3)) else (if ((rd_T71 x166000 x1).f3) = (-1) then (spec_l7Pairs.j1 k x2 false x166000 ((rd_T71 x166000 x1).f0) ((rd_T71 x166000 x1).f1) ((rd_T71 x166000 x1).f2) ((rd_T71 x166000 x1).f3)) else (spec_l7Pairs.j1 k x2 (decide (((rd_T71 x166000 x1).f3) ≤ x1)) x166000 ((rd_T71 x166000 x1).f0) ((rd_T71 x166000 x1).f1) ((rd_T71 x166000 x1).f2) ((rd_T71 x166000 x1).f3))))) else (none)) else (none))
def spec_l7Pairs.j1 : Nat → Int → Bool → List (S71) → ByteArray → ByteArray → Int → Int → Option ((List (S74)) × Bool)
 | 0, _, _, _, _, _, _, _ => none
 | k + 1, x2, x51, x166000, x169000, x169001, x169002, x169003 => if x51 = true then (some (([] : List (S74)), false)) else ((spec_l7Pairs.f k x166000 x169002 (wrap64 (x2 + 1))).bind fun bt169 => ((spec_l7Pairs.f k x166000 x169003 (wrap64 (x2 + 1))).bind fun bt173 => (if bt169.2 = true then (if bt173.2 = true then (if (wrap64 ((bt169.1.length : Int) + (bt173.1.length : Int))) ≥ 60 then (some (([] : List (S74)), false)) else ((some (([] : List (S74)) : List (S74))).bind fun y177 => (if y177.length + bt169.1.length < 4398046511104 then ((some (y177 ++ bt169.1 : List (S74))).bind fun y180 => (if y180.length < 4398046511104 then ((some (y180 ++ [(⟨x169000, x169001⟩ : S74)] : List (S74))).bind fun y183 => (if y183.length + bt173.1.length < 4398046511104 then (some ((y183 ++ bt173.1), true)) else (none))) else (none))) else (none)))) else (some (([] : List (S74)), false))) else (some (([] : List (S74)), false)))))
def spec_l7Pairs.f : Nat → List (S71) → Int → Int → Option ((List (S74)) × Bool)
 | 0, _, _, _ => none
 | k + 1, l0_0, a1, a2 => if a1 = (-1) then (some (([] : List (S74)), true)) else ((spec_l1In.f a1 0 (wrap64 ((l0_0.length : Int) - 1))).bind fun t166 => (if t166 = true then (spec_l7Pairs.j0 k a1 a2 (decide (a2 > 60)) l0_0) else (spec_l7Pairs.j0 k a1 a2 true l0_0)))
end
set_option maxHeartbeats 8000000 in
set_option maxRecDepth 100000 in
theorem spec_l7Pairs.calls (k : Nat) : ∀ (A0_0 : Option Addr) (c0_0 : Nat) (l0_0 : List (S71)) (a1 : Int) (a2 : Int) (r1 : List (S74)) (r2 : Bool) (w : World) (hr0_0 : Kd.C k71 w A0_0 l0_0.length l0_0) (hc0_0 : l0_0.length ≤ c0_0) (h : spec_l7Pairs.f k l0_0 a1 a2 = some (r1, r2)),
  Calls Try.prog 73 #[.agg #[.slice A0_0 l0_0.length c0_0], .int .i64 a1, .int .i64 a2] w fun e w' => ∃ v0_ : Value, e = .returned (.tuple #[v0_, .bool r2]) ∧ Kd.R k74 74 w' w.heap.size (fun _ => True) v0_ r1 ∧ Below w.heap.size w w' := by
 induction k using Nat.strongRecOn with
 | _ k ih =>
 intro A0_0 c0_0 l0_0 a1 a2 r1 r2 w hr0_0 hc0_0 h
 cases k with
 | zero => exact absurd h (by simp [spec_l7Pairs.f])
 | succ k =>
 simp only [spec_l7Pairs.f] at h
 have hu29 := Try.underlying29
 have hu71 := Try.underlying71
 have hu74 := Try.underlying74
 have HR0_0 := aM hr0_0
 have HC0_0 := aM hc0_0
 clear hr0_0 hc0_0
 have HB := aM (Below.refl w.heap.size w)
 have H : (if a1 = (-1) then (some (([] : List (S74)), true)) else ((spec_l1In.f a1 0 (wrap64 ((l0_0.length : Int) - 1))).bind fun t166 => (if t166 = true then (spec_l7Pairs.j0 k a1 a2 (decide (a2 > 60)) l0_0) else (spec_l7Pairs.j0 k a1 a2 true l0_0)))) = some (r1, r2) := h
 clear h
 by_cases c4 : a1 = (-1)
 ·
  rw [if_pos c4] at H
  have c4b0 : (a1 == (-1)) = true := beq_iff_eq.mpr c4
  have c4b1 : (a1 != (-1)) = false := bne_eq_false_iff_eq.mpr c4
  clear c4
  simp only [Option.some.injEq, Prod.mk.injEq] at H
  obtain ⟨rfl, rfl⟩ := H
  go_enter Try.func73, Try.ntmps73
  go_wp2_with (((with_reducible refine gate_dst (N := 3) rfl ?_); (try (refine gate_guard (by rfl) ?_; dsimp only)); refine box_event ?hg (N := 3) ?hd (cs := #[.slice A0_0 l0_0.length c0_0]) (t := 29) ?hr ?_; (case hd => rfl); (case hg => rfl); (case hr => first | (go_simp; done) | (go_simp; rfl)); intro gb165 hg w5 hbox hb; have n0_ := aM (below_step (gB HB.out) hb); have n1_ := aM (hbox); have n2_ := aM ((by rw [hg]; exact (below_size (gB HB.out)) : w.heap.size ≤ gb165)); have n3_ := aM ((by rw [hg]; exact (below_size (gB HB.out)) : w.heap.size ≤ gb165)); clear HB; have HB := n0_; have BK165 := n1_; have GW165 := n2_; have GE165 := n3_; clear n0_ n1_ n2_ n3_; clear hb hbox hg))
  go_ret2
  exact ⟨_, by first | rfl | (simp [errW_none, errW_some] <;> rfl) | (simp [*, errW_none, errW_some] <;> rfl), by first | exact Kd.R_nil _ _ _ _ _ | exact Kd.N_nil _ _ _ _ _ | exact Kd.V_nil _ _ _ _ _ | exact Kd.Q_nil _ _ _ _ _ | exact Kd.S_nil _ _ _ _ _, by repeat (first | (with_reducible first | exact HB.out | apply below_alloc | apply pw_below_drewN | apply below_drew1 | refine below_set ?_ GE165.out) | exact HB.out)⟩
 ·
  rw [if_neg c4] at H
  have c4b0 : (a1 == (-1)) = false := beq_eq_false_iff_ne.mpr c4
  have c4b1 : (a1 != (-1)) = true := bne_iff_ne.mpr c4
  have HC6 := aM H
  clear H
  go_enter Try.func73, Try.ntmps73
  go_upto_region 3 with (((with_reducible refine gate_dst (N := 3) rfl ?_); (try (refine gate_guard (by rfl) ?_; dsimp only)); refine box_event ?hg (N := 3) ?hd (cs := #[.slice A0_0 l0_0.length c0_0]) (t := 29) ?hr ?_; (case hd => rfl); (case hg => rfl); (case hr => first | (go_simp; done) | (go_simp; rfl)); intro gb165 hg w7 hbox hb; have n0_ := aM (below_step (gB HB.out) hb); have n1_ := aM (hbox); have n2_ := aM ((by rw [hg]; exact (below_size (gB HB.out)) : w.heap.size ≤ gb165)); have n3_ := aM ((by rw [hg]; exact (below_size (gB HB.out)) : w.heap.size ≤ gb165)); clear HB; have HB := n0_; have BK165 := n1_; have GW165 := n2_; have GE165 := n3_; clear n0_ n1_ n2_ n3_; clear hb hbox hg))
  (try simp only [Act.put, zSA, zSB, zSC])
  go_cut [26] (fun v26 wc => ∃ (kq : Nat) (x26_5 : Bool), v26 = .bool x26_5 ∧ Aside0 (spec_l7Pairs.j0 kq a1 a2 x26_5 l0_0 = some (r1, r2)) ∧ Aside0 (kq ≤ k) ∧ Aside0 (wc.heap[gb165]? = some (.cells #[(.slice A0_0 l0_0.length c0_0)] 29 (0, 0))) ∧ Aside0 (Below w.heap.size w wc))
  case first =>
   have H := HC6.out
   clear HC6
   replace H := Option.bind_eq_some_iff.mp H
   obtain ⟨t166, A80, H⟩ := H
   replace H : (if t166 = true then (spec_l7Pairs.j0 k a1 a2 (decide (a2 > 60)) l0_0) else (spec_l7Pairs.j0 k a1 a2 true l0_0)) = some (r1, r2) := H
   have A8 := aM A80
   clear A80
   by_cases c9 : t166 = true
   ·
    subst c9
    have H1 : (spec_l7Pairs.j0 k a1 a2 (decide (a2 > 60)) l0_0) = some (r1, r2) := by rw [if_pos rfl] at H; exact H
    clear H
    have H := H1
    clear H1
    have H' := aM H
    clear H
    have hcz10_0 : w7.cell? ⟨gb165, 0, none⟩ = some (.slice A0_0 l0_0.length c0_0) := (blk_cell BK165.out 0).trans rfl
    have hfz10_0 := blk_frozen BK165.out 0
    go_wp2_with (((with_reducible refine gate_callee (f := 68) rfl ?_); refine goesL_ (some 21) rfl rfl Try.func68 (by kernel_rfl) rfl #[.int .i64 a1, .int .i64 0, .int .i64 (wrap64 ((l0_0.length : Int) - 1))] rfl (by (try simp only [List.map_toArray, List.map_cons, List.map_nil]); first | done | rfl | (simp only [List.length_drop, List.length_take]; rfl)) ?_; (with_reducible refine (spec_l1In.calls a1 0 (wrap64 ((l0_0.length : Int) - 1)) true _ A8.out).mono ?_); rintro e w' ⟨rfl, ⟨nd, rfl⟩⟩; refine ⟨_, rfl, ?_⟩))
    go_meet
    case rel => exact ⟨_, (decide (a2 > 60)), (by first | rfl | (simp; done) | (simp [*]; done)), H', ⟨by first | omega | exact Nat.le_refl _⟩, ⟨gK BK165.out⟩, ⟨by repeat (first | (with_reducible first | exact HB.out | apply below_alloc | apply pw_below_drewN | apply below_drew1 | refine below_set ?_ GE165.out) | exact HB.out)⟩⟩
   ·
    replace c9 := Bool.eq_false_iff.mpr c9
    subst c9
    have H1 : (spec_l7Pairs.j0 k a1 a2 true l0_0) = some (r1, r2) := by rw [if_neg (show ¬ (false = true) by decide)] at H; exact H
    clear H
    have H := H1
    clear H1
    have H' := aM H
    clear H
    have hcz11_0 : w7.cell? ⟨gb165, 0, none⟩ = some (.slice A0_0 l0_0.length c0_0) := (blk_cell BK165.out 0).trans rfl
    have hfz11_0 := blk_frozen BK165.out 0
    go_wp2_with (((with_reducible refine gate_callee (f := 68) rfl ?_); refine goesL_ (some 21) rfl rfl Try.func68 (by kernel_rfl) rfl #[.int .i64 a1, .int .i64 0, .int .i64 (wrap64 ((l0_0.length : Int) - 1))] rfl (by (try simp only [List.map_toArray, List.map_cons, List.map_nil]); first | done | rfl | (simp only [List.length_drop, List.length_take]; rfl)) ?_; (with_reducible refine (spec_l1In.calls a1 0 (wrap64 ((l0_0.length : Int) - 1)) false _ A8.out).mono ?_); rintro e w' ⟨rfl, ⟨nd, rfl⟩⟩; refine ⟨_, rfl, ?_⟩))
    go_meet
    case rel => exact ⟨_, (true), (by first | rfl | (simp; done) | (simp [*]; done)), H', ⟨by first | omega | exact Nat.le_refl _⟩, ⟨gK BK165.out⟩, ⟨by repeat (first | (with_reducible first | exact HB.out | apply below_alloc | apply pw_below_drewN | apply below_drew1 | refine below_set ?_ GE165.out) | exact HB.out)⟩⟩
  case rest =>
   clear HC6
   try clear p2
   try clear c4
   try clear c4b0
   try clear c4b1
   try clear c6
   try clear p6
   try clear c7
   try clear c9
   try clear hcz10_0
   try clear hcz11_0
   try clear hfz10_0
   try clear hfz11_0
   obtain ⟨kq, x26_5, rfl, HA, HJ5, BK165, HB⟩ := hcut
   cases kq with
   | zero => exact absurd HA.out (by simp [spec_l7Pairs.j0])
   | succ kj5 =>
    have H := HA.out
    clear HA
    simp only [spec_l7Pairs.j0] at H
    by_cases c12 : x26_5 = true
    ·
     subst c12
     have H1 : (some (([] : List (S74)), false)) = some (r1, r2) := by rw [if_pos rfl] at H; exact H
     clear H
     have H := H1
     clear H1
     simp only [Option.some.injEq, Prod.mk.injEq] at H
     obtain ⟨rfl, rfl⟩ := H
     go_wp2
     go_ret2
     exact ⟨_, by first | rfl | (simp [errW_none, errW_some] <;> rfl) | (simp [*, errW_none, errW_some] <;> rfl), by first | exact Kd.R_nil _ _ _ _ _ | exact Kd.N_nil _ _ _ _ _ | exact Kd.V_nil _ _ _ _ _ | exact Kd.Q_nil _ _ _ _ _ | exact Kd.S_nil _ _ _ _ _, by repeat (first | (with_reducible first | exact HB.out | apply below_alloc | apply pw_below_drewN | apply below_drew1 | refine below_set ?_ GE165.out) | exact HB.out)⟩
    ·
     replace c12 := Bool.eq_false_iff.mpr c12
     subst c12
     have H1 : (if 0 ≤ a1 then (if a1 < (l0_0.length : Int) then (if ((rd_T71 l0_0 a1).f2) = (-1) then (if ((rd_T71 l0_0 a1).f3) = (-1) then (spec_l7Pairs.j1 kj5 a2 false l0_0 ((rd_T71 l0_0 a1).f0) ((rd_T71 l0_0 a1).f1) ((rd_T71 l0_0 a1).f2) ((rd_T71 l0_0 a1).f3)) else (spec_l7Pairs.j1 kj5 a2 (decide (((rd_T71 l0_0 a1).f3) ≤ a1)) l0_0 ((rd_T71 l0_0 a1).f0) ((rd_T71 l0_0 a1).f1) ((rd_T71 l0_0 a1).f2) ((rd_T71 l0_0 a1).f3))) else (if ((rd_T71 l0_0 a1).f2) ≤ a1 then (spec_l7Pairs.j1 kj5 a2 true l0_0 ((rd_T71 l0_0 a1).f0) ((rd_T71 l0_0 a1).f1) ((rd_T71 l0_0 a1).f2) ((rd_T71 l0_0 a1).f3)) else (if ((rd_T71 l0_0 a1).f3) = (-1) then (spec_l7Pairs.j1 kj5 a2 false l0_0 ((rd_T71 l0_0 a1).f0) ((rd_T71 l0_0 a1).f1) ((rd_T71 l0_0 a1).f2) ((rd_T71 l0_0 a1).f3)) else (spec_l7Pairs.j1 kj5 a2 (decide (((rd_T71 l0_0 a1).f3) ≤ a1)) l0_0 ((rd_T71 l0_0 a1).f0) ((rd_T71 l0_0 a1).f1) ((rd_T71 l0_0 a1).f2) ((rd_T71 l0_0 a1).f3))))) else (none)) else (none)) = some (r1, r2) := by rw [if_neg (show ¬ (false = true) by decide)] at H; exact H
     clear H
     have H := H1
     clear H1
     by_cases c13 : 0 ≤ a1
     ·
      rw [if_pos c13] at H
      have c13b0 : decide (0 ≤ a1) = true := decide_eq_true c13
      clear c13
      by_cases c14 : a1 < (l0_0.length : Int)
      ·
       rw [if_pos c14] at H
       have c14b0 : decide (a1 < (l0_0.length : Int)) = true := decide_eq_true c14
       clear c14
       have HC15 := aM H
       clear H
       have hcz16_0 : wc.cell? ⟨gb165, 0, none⟩ = some (.slice A0_0 l0_0.length c0_0) := (blk_cell BK165.out 0).trans rfl
       have hfz16_0 := blk_frozen BK165.out 0
       have p167 : 0 ≤ (a1 : Int) := of_decide_eq_true (by first | (with_reducible assumption) | assumption)
       have q167 : a1 < (l0_0.length : Int) := of_decide_eq_true (by first | (with_reducible assumption) | assumption)
       obtain ⟨ad167, e167, hx167_0, hx167_1, hx167_2, hx167_3⟩ := at_T71 HR0_0.out a1 p167 q167
       cases e167
       try have hz_hx167_0 := aM hx167_0
       try have hz_hx167_1 := aM hx167_1
       try have hz_hx167_2 := aM hx167_2
       try have hz_hx167_3 := aM hx167_3
       replace hx167_0 := (HB.out.cell (World.block_lt_of_cell? w _ hx167_0)).trans hx167_0
       replace hx167_1 := (HB.out.cell (World.block_lt_of_cell? w _ hx167_1)).trans hx167_1
       replace hx167_2 := (HB.out.cell (World.block_lt_of_cell? w _ hx167_2)).trans hx167_2
       replace hx167_3 := (HB.out.cell (World.block_lt_of_cell? w _ hx167_3)).trans hx167_3
       replace p167 := eq_true p167
       replace q167 := eq_true q167
       go_upto_region 6 with (((with_reducible refine gate_dst (N := 8) rfl ?_); (try (refine gate_guard (by rfl) ?_; dsimp only)); refine box_event ?hg (N := 8) ?hd (cs := #[.string (⟨#[]⟩ : ByteArray), .string (⟨#[]⟩ : ByteArray), .int .i64 0, .int .i64 0]) (t := 71) ?hr ?_; (case hd => rfl); (case hg => rfl); (case hr => first | (go_simp; done) | (go_simp; rfl)); intro gb168 hg w17 hbox hb; have n0_ := aM (blk_below (g := gb165) (o := .cells #[.slice (some ad167) l0_0.length c0_0] 29 (0, 0)) (gK BK165.out) hb); have n1_ := aM (below_step (gB HB.out) hb); have n2_ := aM (hbox); have n3_ := aM ((by rw [hg]; exact (below_size (gB HB.out)) : w.heap.size ≤ gb168)); have n4_ := aM ((by rw [hg]; exact (below_size (gB HB.out)) : w.heap.size ≤ gb168)); have n5_ := aM ((by rw [hg]; exact Nat.ne_of_lt (blk_lt (g := gb165) (o := .cells #[.slice (some ad167) l0_0.length c0_0] 29 (0, 0)) (gK BK165.out)) : gb165 ≠ gb168)); have n6_ := aM ((by rw [hg]; exact Nat.ne_of_gt (blk_lt (g := gb165) (o := .cells #[.slice (some ad167) l0_0.length c0_0] 29 (0, 0)) (gK BK165.out)) : gb168 ≠ gb165)); clear BK165; clear HB; have BK165 := n0_; have HB := n1_; have BK168 := n2_; have GW168 := n3_; have GE168 := n4_; have NB165_168 := n5_; have NB168_165 := n6_; clear n0_ n1_ n2_ n3_ n4_ n5_ n6_; clear hb hbox hg; have hnb18 := NB168_165.out; have hnc18 := NB165_168.out; have hcz19_0 : w17.cell? ⟨gb168, 0, none⟩ = some (.string (⟨#[]⟩ : ByteArray)) := (blk_cell BK168.out 0).trans rfl; have hcz19_1 : w17.cell? ⟨gb168, 1, none⟩ = some (.string (⟨#[]⟩ : ByteArray)) := (blk_cell BK168.out 1).trans rfl; have hcz19_2 : w17.cell? ⟨gb168, 2, none⟩ = some (.int .i64 0) := (blk_cell BK168.out 2).trans rfl; have hcz19_3 : w17.cell? ⟨gb168, 3, none⟩ = some (.int .i64 0) := (blk_cell BK168.out 3).trans rfl; have hfz19_0 := blk_frozen BK168.out 0; have hfz19_1 := blk_frozen BK168.out 1; have hfz19_2 := blk_frozen BK168.out 2; have hfz19_3 := blk_frozen BK168.out 3))
       (try simp only [Act.put, zSA, zSB, zSC])
       go_cut [51] (fun v51 wc => ∃ (kq : Nat) (x51_14 : Bool), v51 = .bool x51_14 ∧ Aside0 (spec_l7Pairs.j1 kq a2 x51_14 l0_0 ((rd_T71 l0_0 a1).f0) ((rd_T71 l0_0 a1).f1) ((rd_T71 l0_0 a1).f2) ((rd_T71 l0_0 a1).f3) = some (r1, r2)) ∧ Aside0 (kq ≤ kj5) ∧ Aside0 (wc.heap[gb165]? = some (.cells #[(.slice (some ad167) l0_0.length c0_0)] 29 (0, 0))) ∧ Aside0 (wc.heap[gb168]? = some (.cells #[.string ((rd_T71 l0_0 a1).f0), .string ((rd_T71 l0_0 a1).f1), .int .i64 ((rd_T71 l0_0 a1).f2), .int .i64 ((rd_T71 l0_0 a1).f3)] 71 (0, 0))) ∧ Aside0 (Below w.heap.size w wc))
       case first =>
        have H := HC15.out
        clear HC15
        by_cases c20 : ((rd_T71 l0_0 a1).f2) = (-1)
        ·
         rw [if_pos c20] at H
         have c20b0 : (((rd_T71 l0_0 a1).f2) == (-1)) = true := beq_iff_eq.mpr c20
         have c20b1 : (((rd_T71 l0_0 a1).f2) != (-1)) = false := bne_eq_false_iff_eq.mpr c20
         clear c20
         (first | rw [c20b0] | (simp only [i64_w, i32_w]; rw [c20b0]) | skip)
         by_cases c21 : ((rd_T71 l0_0 a1).f3) = (-1)
         ·
          rw [if_pos c21] at H
          have c21b0 : (((rd_T71 l0_0 a1).f3) == (-1)) = true := beq_iff_eq.mpr c21
          have c21b1 : (((rd_T71 l0_0 a1).f3) != (-1)) = false := bne_eq_false_iff_eq.mpr c21
          clear c21
          have H' := aM H
          clear H
          have hnb22 := NB168_165.out
          have hnc22 := NB165_168.out
          have hcz23_0 : w17.cell? ⟨gb168, 0, none⟩ = some (.string (⟨#[]⟩ : ByteArray)) := (blk_cell BK168.out 0).trans rfl
          have hcz23_1 : w17.cell? ⟨gb168, 1, none⟩ = some (.string (⟨#[]⟩ : ByteArray)) := (blk_cell BK168.out 1).trans rfl
          have hcz23_2 : w17.cell? ⟨gb168, 2, none⟩ = some (.int .i64 0) := (blk_cell BK168.out 2).trans rfl
          have hcz23_3 : w17.cell? ⟨gb168, 3, none⟩ = some (.int .i64 0) := (blk_cell BK168.out 3).trans rfl
          have hfz23_0 := blk_frozen BK168.out 0
          have hfz23_1 := blk_frozen BK168.out 1
          have hfz23_2 := blk_frozen BK168.out 2
          have hfz23_3 := blk_frozen BK168.out 3
          go_wp2
          go_meet
          case rel => exact ⟨_, (false), (by first | rfl | (simp; done) | (simp [*]; done)), H', ⟨by have := HJ5.out; first | omega | exact Nat.le_refl _⟩, ⟨by (with_reducible repeat (first | refine blk_drewN ?_ _ | refine blk_drew ?_ | refine blk_alloc ?_ _)); refine blk_far ?_ NB165_168.out _; (with_reducible repeat (first | refine blk_drewN ?_ _ | refine blk_drew ?_ | refine blk_alloc ?_ _)); refine blk_far ?_ NB165_168.out _; (with_reducible repeat (first | refine blk_drewN ?_ _ | refine blk_drew ?_ | refine blk_alloc ?_ _)); refine blk_far ?_ NB165_168.out _; (with_reducible repeat (first | refine blk_drewN ?_ _ | refine blk_drew ?_ | refine blk_alloc ?_ _)); refine blk_far ?_ NB165_168.out _; (with_reducible repeat (first | refine blk_drewN ?_ _ | refine blk_drew ?_ | refine blk_alloc ?_ _)); exact BK165.out⟩, ⟨by (with_reducible repeat (first | refine blk_drewN ?_ _ | refine blk_drew ?_ | refine blk_alloc ?_ _)); refine blk_put (cs := #[.string ((rd_T71 l0_0 a1).f0), .string ((rd_T71 l0_0 a1).f1), .int .i64 ((rd_T71 l0_0 a1).f2), .int .i64 0]) ?_ 3 _ rfl; (with_reducible repeat (first | refine blk_drewN ?_ _ | refine blk_drew ?_ | refine blk_alloc ?_ _)); refine blk_put (cs := #[.string ((rd_T71 l0_0 a1).f0), .string ((rd_T71 l0_0 a1).f1), .int .i64 0, .int .i64 0]) ?_ 2 _ rfl; (with_reducible repeat (first | refine blk_drewN ?_ _ | refine blk_drew ?_ | refine blk_alloc ?_ _)); refine blk_put (cs := #[.string ((rd_T71 l0_0 a1).f0), .string (⟨#[]⟩ : ByteArray), .int .i64 0, .int .i64 0]) ?_ 1 _ rfl; (with_reducible repeat (first | refine blk_drewN ?_ _ | refine blk_drew ?_ | refine blk_alloc ?_ _)); refine blk_put (cs := #[.string (⟨#[]⟩ : ByteArray), .string (⟨#[]⟩ : ByteArray), .int .i64 0, .int .i64 0]) ?_ 0 _ rfl; (with_reducible repeat (first | refine blk_drewN ?_ _ | refine blk_drew ?_ | refine blk_alloc ?_ _)); exact BK168.out⟩, ⟨by repeat (first | (with_reducible first | exact HB.out | apply below_alloc | apply pw_below_drewN | apply below_drew1 | refine below_set ?_ GE165.out | refine below_set ?_ GE168.out) | exact HB.out)⟩⟩
         ·
          rw [if_neg c21] at H
          have c21b0 : (((rd_T71 l0_0 a1).f3) == (-1)) = false := beq_eq_false_iff_ne.mpr c21
          have c21b1 : (((rd_T71 l0_0 a1).f3) != (-1)) = true := bne_iff_ne.mpr c21
          have H' := aM H
          clear H
          have hnb24 := NB168_165.out
          have hnc24 := NB165_168.out
          have hcz25_0 : w17.cell? ⟨gb168, 0, none⟩ = some (.string (⟨#[]⟩ : ByteArray)) := (blk_cell BK168.out 0).trans rfl
          have hcz25_1 : w17.cell? ⟨gb168, 1, none⟩ = some (.string (⟨#[]⟩ : ByteArray)) := (blk_cell BK168.out 1).trans rfl
          have hcz25_2 : w17.cell? ⟨gb168, 2, none⟩ = some (.int .i64 0) := (blk_cell BK168.out 2).trans rfl
          have hcz25_3 : w17.cell? ⟨gb168, 3, none⟩ = some (.int .i64 0) := (blk_cell BK168.out 3).trans rfl
          have hfz25_0 := blk_frozen BK168.out 0
          have hfz25_1 := blk_frozen BK168.out 1
          have hfz25_2 := blk_frozen BK168.out 2
          have hfz25_3 := blk_frozen BK168.out 3
          go_wp2
          go_meet
          case rel => exact ⟨_, (decide (((rd_T71 l0_0 a1).f3) ≤ a1)), (by first | rfl | (simp; done) | (simp [*]; done)), H', ⟨by have := HJ5.out; first | omega | exact Nat.le_refl _⟩, ⟨by (with_reducible repeat (first | refine blk_drewN ?_ _ | refine blk_drew ?_ | refine blk_alloc ?_ _)); refine blk_far ?_ NB165_168.out _; (with_reducible repeat (first | refine blk_drewN ?_ _ | refine blk_drew ?_ | refine blk_alloc ?_ _)); refine blk_far ?_ NB165_168.out _; (with_reducible repeat (first | refine blk_drewN ?_ _ | refine blk_drew ?_ | refine blk_alloc ?_ _)); refine blk_far ?_ NB165_168.out _; (with_reducible repeat (first | refine blk_drewN ?_ _ | refine blk_drew ?_ | refine blk_alloc ?_ _)); refine blk_far ?_ NB165_168.out _; (with_reducible repeat (first | refine blk_drewN ?_ _ | refine blk_drew ?_ | refine blk_alloc ?_ _)); exact BK165.out⟩, ⟨by (with_reducible repeat (first | refine blk_drewN ?_ _ | refine blk_drew ?_ | refine blk_alloc ?_ _)); refine blk_put (cs := #[.string ((rd_T71 l0_0 a1).f0), .string ((rd_T71 l0_0 a1).f1), .int .i64 ((rd_T71 l0_0 a1).f2), .int .i64 0]) ?_ 3 _ rfl; (with_reducible repeat (first | refine blk_drewN ?_ _ | refine blk_drew ?_ | refine blk_alloc ?_ _)); refine blk_put (cs := #[.string ((rd_T71 l0_0 a1).f0), .string ((rd_T71 l0_0 a1).f1), .int .i64 0, .int .i64 0]) ?_ 2 _ rfl; (with_reducible repeat (first | refine blk_drewN ?_ _ | refine blk_drew ?_ | refine blk_alloc ?_ _)); refine blk_put (cs := #[.string ((rd_T71 l0_0 a1).f0), .string (⟨#[]⟩ : ByteArray), .int .i64 0, .int .i64 0]) ?_ 1 _ rfl; (with_reducible repeat (first | refine blk_drewN ?_ _ | refine blk_drew ?_ | refine blk_alloc ?_ _)); refine blk_put (cs := #[.string (⟨#[]⟩ : ByteArray), .string (⟨#[]⟩ : ByteArray), .int .i64 0, .int .i64 0]) ?_ 0 _ rfl; (with_reducible repeat (first | refine blk_drewN ?_ _ | refine blk_drew ?_ | refine blk_alloc ?_ _)); exact BK168.out⟩, ⟨by repeat (first | (with_reducible first | exact HB.out | apply below_alloc | apply pw_below_drewN | apply below_drew1 | refine below_set ?_ GE165.out | refine below_set ?_ GE168.out) | exact HB.out)⟩⟩
        ·
         rw [if_neg c20] at H
         have c20b0 : (((rd_T71 l0_0 a1).f2) == (-1)) = false := beq_eq_false_iff_ne.mpr c20
         have c20b1 : (((rd_T71 l0_0 a1).f2) != (-1)) = true := bne_iff_ne.mpr c20
         (first | rw [c20b0] | (simp only [i64_w, i32_w]; rw [c20b0]) | skip)
         by_cases c26 : ((rd_T71 l0_0 a1).f2) ≤ a1
         ·
          rw [if_pos c26] at H
          have c26b0 : decide (((rd_T71 l0_0 a1).f2) ≤ a1) = true := decide_eq_true c26
          clear c26
          have H' := aM H
          clear H
          have hnb27 := NB168_165.out
          have hnc27 := NB165_168.out
          have hcz28_0 : w17.cell? ⟨gb168, 0, none⟩ = some (.string (⟨#[]⟩ : ByteArray)) := (blk_cell BK168.out 0).trans rfl
          have hcz28_1 : w17.cell? ⟨gb168, 1, none⟩ = some (.string (⟨#[]⟩ : ByteArray)) := (blk_cell BK168.out 1).trans rfl
          have hcz28_2 : w17.cell? ⟨gb168, 2, none⟩ = some (.int .i64 0) := (blk_cell BK168.out 2).trans rfl
          have hcz28_3 : w17.cell? ⟨gb168, 3, none⟩ = some (.int .i64 0) := (blk_cell BK168.out 3).trans rfl
          have hfz28_0 := blk_frozen BK168.out 0
          have hfz28_1 := blk_frozen BK168.out 1
          have hfz28_2 := blk_frozen BK168.out 2
          have hfz28_3 := blk_frozen BK168.out 3
          go_wp2
          go_meet
          case rel => exact ⟨_, (true), (by first | rfl | (simp; done) | (simp [*]; done)), H', ⟨by have := HJ5.out; first | omega | exact Nat.le_refl _⟩, ⟨by (with_reducible repeat (first | refine blk_drewN ?_ _ | refine blk_drew ?_ | refine blk_alloc ?_ _)); refine blk_far ?_ NB165_168.out _; (with_reducible repeat (first | refine blk_drewN ?_ _ | refine blk_drew ?_ | refine blk_alloc ?_ _)); refine blk_far ?_ NB165_168.out _; (with_reducible repeat (first | refine blk_drewN ?_ _ | refine blk_drew ?_ | refine blk_alloc ?_ _)); refine blk_far ?_ NB165_168.out _; (with_reducible repeat (first | refine blk_drewN ?_ _ | refine blk_drew ?_ | refine blk_alloc ?_ _)); refine blk_far ?_ NB165_168.out _; (with_reducible repeat (first | refine blk_drewN ?_ _ | refine blk_drew ?_ | refine blk_alloc ?_ _)); exact BK165.out⟩, ⟨by (with_reducible repeat (first | refine blk_drewN ?_ _ | refine blk_drew ?_ | refine blk_alloc ?_ _)); refine blk_put (cs := #[.string ((rd_T71 l0_0 a1).f0), .string ((rd_T71 l0_0 a1).f1), .int .i64 ((rd_T71 l0_0 a1).f2), .int .i64 0]) ?_ 3 _ rfl; (with_reducible repeat (first | refine blk_drewN ?_ _ | refine blk_drew ?_ | refine blk_alloc ?_ _)); refine blk_put (cs := #[.string ((rd_T71 l0_0 a1).f0), .string ((rd_T71 l0_0 a1).f1), .int .i64 0, .int .i64 0]) ?_ 2 _ rfl; (with_reducible repeat (first | refine blk_drewN ?_ _ | refine blk_drew ?_ | refine blk_alloc ?_ _)); refine blk_put (cs := #[.string ((rd_T71 l0_0 a1).f0), .string (⟨#[]⟩ : ByteArray), .int .i64 0, .int .i64 0]) ?_ 1 _ rfl; (with_reducible repeat (first | refine blk_drewN ?_ _ | refine blk_drew ?_ | refine blk_alloc ?_ _)); refine blk_put (cs := #[.string (⟨#[]⟩ : ByteArray), .string (⟨#[]⟩ : ByteArray), .int .i64 0, .int .i64 0]) ?_ 0 _ rfl; (with_reducible repeat (first | refine blk_drewN ?_ _ | refine blk_drew ?_ | refine blk_alloc ?_ _)); exact BK168.out⟩, ⟨by repeat (first | (with_reducible first | exact HB.out | apply below_alloc | apply pw_below_drewN | apply below_drew1 | refine below_set ?_ GE165.out | refine below_set ?_ GE168.out) | exact HB.out)⟩⟩
         ·
          rw [if_neg c26] at H
          have c26b0 : decide (((rd_T71 l0_0 a1).f2) ≤ a1) = false := decide_eq_false c26
          clear c26
          by_cases c29 : ((rd_T71 l0_0 a1).f3) = (-1)
          ·
           rw [if_pos c29] at H
           have c29b0 : (((rd_T71 l0_0 a1).f3) == (-1)) = true := beq_iff_eq.mpr c29
           have c29b1 : (((rd_T71 l0_0 a1).f3) != (-1)) = false := bne_eq_false_iff_eq.mpr c29
           clear c29
           have H' := aM H
           clear H
           have hnb30 := NB168_165.out
           have hnc30 := NB165_168.out
           have hcz31_0 : w17.cell? ⟨gb168, 0, none⟩ = some (.string (⟨#[]⟩ : ByteArray)) := (blk_cell BK168.out 0).trans rfl
           have hcz31_1 : w17.cell? ⟨gb168, 1, none⟩ = some (.string (⟨#[]⟩ : ByteArray)) := (blk_cell BK168.out 1).trans rfl
           have hcz31_2 : w17.cell? ⟨gb168, 2, none⟩ = some (.int .i64 0) := (blk_cell BK168.out 2).trans rfl
           have hcz31_3 : w17.cell? ⟨gb168, 3, none⟩ = some (.int .i64 0) := (blk_cell BK168.out 3).trans rfl
           have hfz31_0 := blk_frozen BK168.out 0
           have hfz31_1 := blk_frozen BK168.out 1
           have hfz31_2 := blk_frozen BK168.out 2
           have hfz31_3 := blk_frozen BK168.out 3
           go_wp2
           go_meet
           case rel => exact ⟨_, (false), (by first | rfl | (simp; done) | (simp [*]; done)), H', ⟨by have := HJ5.out; first | omega | exact Nat.le_refl _⟩, ⟨by (with_reducible repeat (first | refine blk_drewN ?_ _ | refine blk_drew ?_ | refine blk_alloc ?_ _)); refine blk_far ?_ NB165_168.out _; (with_reducible repeat (first | refine blk_drewN ?_ _ | refine blk_drew ?_ | refine blk_alloc ?_ _)); refine blk_far ?_ NB165_168.out _; (with_reducible repeat (first | refine blk_drewN ?_ _ | refine blk_drew ?_ | refine blk_alloc ?_ _)); refine blk_far ?_ NB165_168.out _; (with_reducible repeat (first | refine blk_drewN ?_ _ | refine blk_drew ?_ | refine blk_alloc ?_ _)); refine blk_far ?_ NB165_168.out _; (with_reducible repeat (first | refine blk_drewN ?_ _ | refine blk_drew ?_ | refine blk_alloc ?_ _)); exact BK165.out⟩, ⟨by (with_reducible repeat (first | refine blk_drewN ?_ _ | refine blk_drew ?_ | refine blk_alloc ?_ _)); refine blk_put (cs := #[.string ((rd_T71 l0_0 a1).f0), .string ((rd_T71 l0_0 a1).f1), .int .i64 ((rd_T71 l0_0 a1).f2), .int .i64 0]) ?_ 3 _ rfl; (with_reducible repeat (first | refine blk_drewN ?_ _ | refine blk_drew ?_ | refine blk_alloc ?_ _)); refine blk_put (cs := #[.string ((rd_T71 l0_0 a1).f0), .string ((rd_T71 l0_0 a1).f1), .int .i64 0, .int .i64 0]) ?_ 2 _ rfl; (with_reducible repeat (first | refine blk_drewN ?_ _ | refine blk_drew ?_ | refine blk_alloc ?_ _)); refine blk_put (cs := #[.string ((rd_T71 l0_0 a1).f0), .string (⟨#[]⟩ : ByteArray), .int .i64 0, .int .i64 0]) ?_ 1 _ rfl; (with_reducible repeat (first | refine blk_drewN ?_ _ | refine blk_drew ?_ | refine blk_alloc ?_ _)); refine blk_put (cs := #[.string (⟨#[]⟩ : ByteArray), .string (⟨#[]⟩ : ByteArray), .int .i64 0, .int .i64 0]) ?_ 0 _ rfl; (with_reducible repeat (first | refine blk_drewN ?_ _ | refine blk_drew ?_ | refine blk_alloc ?_ _)); exact BK168.out⟩, ⟨by repeat (first | (with_reducible first | exact HB.out | apply below_alloc | apply pw_below_drewN | apply below_drew1 | refine below_set ?_ GE165.out | refine below_set ?_ GE168.out) | exact HB.out)⟩⟩
          ·
           rw [if_neg c29] at H
           have c29b0 : (((rd_T71 l0_0 a1).f3) == (-1)) = false := beq_eq_false_iff_ne.mpr c29
           have c29b1 : (((rd_T71 l0_0 a1).f3) != (-1)) = true := bne_iff_ne.mpr c29
           have H' := aM H
           clear H
           have hnb32 := NB168_165.out
           have hnc32 := NB165_168.out
           have hcz33_0 : w17.cell? ⟨gb168, 0, none⟩ = some (.string (⟨#[]⟩ : ByteArray)) := (blk_cell BK168.out 0).trans rfl
           have hcz33_1 : w17.cell? ⟨gb168, 1, none⟩ = some (.string (⟨#[]⟩ : ByteArray)) := (blk_cell BK168.out 1).trans rfl
           have hcz33_2 : w17.cell? ⟨gb168, 2, none⟩ = some (.int .i64 0) := (blk_cell BK168.out 2).trans rfl
           have hcz33_3 : w17.cell? ⟨gb168, 3, none⟩ = some (.int .i64 0) := (blk_cell BK168.out 3).trans rfl
           have hfz33_0 := blk_frozen BK168.out 0
           have hfz33_1 := blk_frozen BK168.out 1
           have hfz33_2 := blk_frozen BK168.out 2
           have hfz33_3 := blk_frozen BK168.out 3
           go_wp2
           go_meet
           case rel => exact ⟨_, (decide (((rd_T71 l0_0 a1).f3) ≤ a1)), (by first | rfl | (simp; done) | (simp [*]; done)), H', ⟨by have := HJ5.out; first | omega | exact Nat.le_refl _⟩, ⟨by (with_reducible repeat (first | refine blk_drewN ?_ _ | refine blk_drew ?_ | refine blk_alloc ?_ _)); refine blk_far ?_ NB165_168.out _; (with_reducible repeat (first | refine blk_drewN ?_ _ | refine blk_drew ?_ | refine blk_alloc ?_ _)); refine blk_far ?_ NB165_168.out _; (with_reducible repeat (first | refine blk_drewN ?_ _ | refine blk_drew ?_ | refine blk_alloc ?_ _)); refine blk_far ?_ NB165_168.out _; (with_reducible repeat (first | refine blk_drewN ?_ _ | refine blk_drew ?_ | refine blk_alloc ?_ _)); refine blk_far ?_ NB165_168.out _; (with_reducible repeat (first | refine blk_drewN ?_ _ | refine blk_drew ?_ | refine blk_alloc ?_ _)); exact BK165.out⟩, ⟨by (with_reducible repeat (first | refine blk_drewN ?_ _ | refine blk_drew ?_ | refine blk_alloc ?_ _)); refine blk_put (cs := #[.string ((rd_T71 l0_0 a1).f0), .string ((rd_T71 l0_0 a1).f1), .int .i64 ((rd_T71 l0_0 a1).f2), .int .i64 0]) ?_ 3 _ rfl; (with_reducible repeat (first | refine blk_drewN ?_ _ | refine blk_drew ?_ | refine blk_alloc ?_ _)); refine blk_put (cs := #[.string ((rd_T71 l0_0 a1).f0), .string ((rd_T71 l0_0 a1).f1), .int .i64 0, .int .i64 0]) ?_ 2 _ rfl; (with_reducible repeat (first | refine blk_drewN ?_ _ | refine blk_drew ?_ | refine blk_alloc ?_ _)); refine blk_put (cs := #[.string ((rd_T71 l0_0 a1).f0), .string (⟨#[]⟩ : ByteArray), .int .i64 0, .int .i64 0]) ?_ 1 _ rfl; (with_reducible repeat (first | refine blk_drewN ?_ _ | refine blk_drew ?_ | refine blk_alloc ?_ _)); refine blk_put (cs := #[.string (⟨#[]⟩ : ByteArray), .string (⟨#[]⟩ : ByteArray), .int .i64 0, .int .i64 0]) ?_ 0 _ rfl; (with_reducible repeat (first | refine blk_drewN ?_ _ | refine blk_drew ?_ | refine blk_alloc ?_ _)); exact BK168.out⟩, ⟨by repeat (first | (with_reducible first | exact HB.out | apply below_alloc | apply pw_below_drewN | apply below_drew1 | refine below_set ?_ GE165.out | refine below_set ?_ GE168.out) | exact HB.out)⟩⟩
       case rest =>
        clear HC15
        try clear c1
        try clear p1
        try clear q1
        try clear hx1
        try clear c2
        try clear p2
        try clear c3
        try clear c4
        try clear c4b0
        try clear c4b1
        try clear c6
        try clear p6
        try clear c7
        try clear c9
        try clear c12
        try clear c13
        try clear c13b0
        try clear c14
        try clear c14b0
        try clear p16
        try clear q16
        try clear hx16
        try clear c18
        try clear c20
        try clear c20b0
        try clear c20b1
        try clear c21
        try clear c21b0
        try clear c21b1
        try clear c22
        try clear c24
        try clear c26
        try clear c26b0
        try clear c27
        try clear c29
        try clear c29b0
        try clear c29b1
        try clear c30
        try clear c32
        try clear hcz10_0
        try clear hcz11_0
        try clear hcz16_0
        try clear hcz19_0
        try clear hcz19_1
        try clear hcz19_2
        try clear hcz19_3
        try clear hcz23_0
        try clear hcz23_1
        try clear hcz23_2
        try clear hcz23_3
        try clear hcz25_0
        try clear hcz25_1
        try clear hcz25_2
        try clear hcz25_3
        try clear hcz28_0
        try clear hcz28_1
        try clear hcz28_2
        try clear hcz28_3
        try clear hcz31_0
        try clear hcz31_1
        try clear hcz31_2
        try clear hcz31_3
        try clear hcz33_0
        try clear hcz33_1
        try clear hcz33_2
        try clear hcz33_3
        try clear hfz10_0
        try clear hfz11_0
        try clear hfz16_0
        try clear hfz19_0
        try clear hfz19_1
        try clear hfz19_2
        try clear hfz19_3
        try clear hfz23_0
        try clear hfz23_1
        try clear hfz23_2
        try clear hfz23_3
        try clear hfz25_0
        try clear hfz25_1
        try clear hfz25_2
        try clear hfz25_3
        try clear hfz28_0
        try clear hfz28_1
        try clear hfz28_2
        try clear hfz28_3
        try clear hfz31_0
        try clear hfz31_1
        try clear hfz31_2
        try clear hfz31_3
        try clear hfz33_0
        try clear hfz33_1
        try clear hfz33_2
        try clear hfz33_3
        try clear hx167_0
        try clear hx167_1
        try clear hx167_2
        try clear hx167_3
        try clear p167
        try clear p2
        try clear p6
        try clear q167
        obtain ⟨kq, x51_14, rfl, HA, HJ14, BK165, BK168, HB⟩ := hcut
        cases kq with
        | zero => exact absurd HA.out (by simp [spec_l7Pairs.j1])
        | succ kj14 =>
         have H := HA.out
         clear HA
         simp only [spec_l7Pairs.j1] at H
         by_cases c34 : x51_14 = true
         ·
          subst c34
          have H1 : (some (([] : List (S74)), false)) = some (r1, r2) := by rw [if_pos rfl] at H; exact H
          clear H
          have H := H1
          clear H1
          simp only [Option.some.injEq, Prod.mk.injEq] at H
          obtain ⟨rfl, rfl⟩ := H
          go_wp2
          go_ret2
          exact ⟨_, by first | rfl | (simp [errW_none, errW_some] <;> rfl) | (simp [*, errW_none, errW_some] <;> rfl), by first | exact Kd.R_nil _ _ _ _ _ | exact Kd.N_nil _ _ _ _ _ | exact Kd.V_nil _ _ _ _ _ | exact Kd.Q_nil _ _ _ _ _ | exact Kd.S_nil _ _ _ _ _, by repeat (first | (with_reducible first | exact HB.out | apply below_alloc | apply pw_below_drewN | apply below_drew1 | refine below_set ?_ GE165.out | refine below_set ?_ GE168.out) | exact HB.out)⟩
         ·
          replace c34 := Bool.eq_false_iff.mpr c34
          subst c34
          have H1 : ((spec_l7Pairs.f kj14 l0_0 ((rd_T71 l0_0 a1).f2) (wrap64 (a2 + 1))).bind fun bt169 => ((spec_l7Pairs.f kj14 l0_0 ((rd_T71 l0_0 a1).f3) (wrap64 (a2 + 1))).bind fun bt173 => (if bt169.2 = true then (if bt173.2 = true then (if (wrap64 ((bt169.1.length : Int) + (bt173.1.length : Int))) ≥ 60 then (some (([] : List (S74)), false)) else ((some (([] : List (S74)) : List (S74))).bind fun y177 => (if y177.length + bt169.1.length < 4398046511104 then ((some (y177 ++ bt169.1 : List (S74))).bind fun y180 => (if y180.length < 4398046511104 then ((some (y180 ++ [(⟨((rd_T71 l0_0 a1).f0), ((rd_T71 l0_0 a1).f1)⟩ : S74)] : List (S74))).bind fun y183 => (if y183.length + bt173.1.length < 4398046511104 then (some ((y183 ++ bt173.1), true)) else (none))) else (none))) else (none)))) else (some (([] : List (S74)), false))) else (some (([] : List (S74)), false))))) = some (r1, r2) := by rw [if_neg (show ¬ (false = true) by decide)] at H; exact H
          clear H
          have H := H1
          clear H1
          replace H := Option.bind_eq_some_iff.mp H
          obtain ⟨⟨t169, t172⟩, A350, H⟩ := H
          replace H : ((spec_l7Pairs.f kj14 l0_0 ((rd_T71 l0_0 a1).f3) (wrap64 (a2 + 1))).bind fun bt173 => (if t172 = true then (if bt173.2 = true then (if (wrap64 ((t169.length : Int) + (bt173.1.length : Int))) ≥ 60 then (some (([] : List (S74)), false)) else ((some (([] : List (S74)) : List (S74))).bind fun y177 => (if y177.length + t169.length < 4398046511104 then ((some (y177 ++ t169 : List (S74))).bind fun y180 => (if y180.length < 4398046511104 then ((some (y180 ++ [(⟨((rd_T71 l0_0 a1).f0), ((rd_T71 l0_0 a1).f1)⟩ : S74)] : List (S74))).bind fun y183 => (if y183.length + bt173.1.length < 4398046511104 then (some ((y183 ++ bt173.1), true)) else (none))) else (none))) else (none)))) else (some (([] : List (S74)), false))) else (some (([] : List (S74)), false)))) = some (r1, r2) := H
          have A35 := aM A350
          clear A350
          replace H := Option.bind_eq_some_iff.mp H
          obtain ⟨⟨t173, t176⟩, A360, H⟩ := H
          replace H : (if t172 = true then (if t176 = true then (if (wrap64 ((t169.length : Int) + (t173.length : Int))) ≥ 60 then (some (([] : List (S74)), false)) else ((some (([] : List (S74)) : List (S74))).bind fun y177 => (if y177.length + t169.length < 4398046511104 then ((some (y177 ++ t169 : List (S74))).bind fun y180 => (if y180.length < 4398046511104 then ((some (y180 ++ [(⟨((rd_T71 l0_0 a1).f0), ((rd_T71 l0_0 a1).f1)⟩ : S74)] : List (S74))).bind fun y183 => (if y183.length + t173.length < 4398046511104 then (some ((y183 ++ t173), true)) else (none))) else (none))) else (none)))) else (some (([] : List (S74)), false))) else (some (([] : List (S74)), false))) = some (r1, r2) := H
          have A36 := aM A360
          clear A360
          by_cases c37 : t172 = true
          ·
           subst c37
           have H1 : (if t176 = true then (if (wrap64 ((t169.length : Int) + (t173.length : Int))) ≥ 60 then (some (([] : List (S74)), false)) else ((some (([] : List (S74)) : List (S74))).bind fun y177 => (if y177.length + t169.length < 4398046511104 then ((some (y177 ++ t169 : List (S74))).bind fun y180 => (if y180.length < 4398046511104 then ((some (y180 ++ [(⟨((rd_T71 l0_0 a1).f0), ((rd_T71 l0_0 a1).f1)⟩ : S74)] : List (S74))).bind fun y183 => (if y183.length + t173.length < 4398046511104 then (some ((y183 ++ t173), true)) else (none))) else (none))) else (none)))) else (some (([] : List (S74)), false))) = some (r1, r2) := by rw [if_pos rfl] at H; exact H
           clear H
           have H := H1
           clear H1
           by_cases c38 : t176 = true
           ·
            subst c38
            have H1 : (if (wrap64 ((t169.length : Int) + (t173.length : Int))) ≥ 60 then (some (([] : List (S74)), false)) else ((some (([] : List (S74)) : List (S74))).bind fun y177 => (if y177.length + t169.length < 4398046511104 then ((some (y177 ++ t169 : List (S74))).bind fun y180 => (if y180.length < 4398046511104 then ((some (y180 ++ [(⟨((rd_T71 l0_0 a1).f0), ((rd_T71 l0_0 a1).f1)⟩ : S74)] : List (S74))).bind fun y183 => (if y183.length + t173.length < 4398046511104 then (some ((y183 ++ t173), true)) else (none))) else (none))) else (none)))) = some (r1, r2) := by rw [if_pos rfl] at H; exact H
            clear H
            have H := H1
            clear H1
            by_cases c39 : (wrap64 ((t169.length : Int) + (t173.length : Int))) ≥ 60
            ·
             rw [if_pos c39] at H
             have c39b0 : decide (60 ≤ (wrap64 ((t169.length : Int) + (t173.length : Int)))) = true := decide_eq_true c39
             clear c39
             simp only [Option.some.injEq, Prod.mk.injEq] at H
             obtain ⟨rfl, rfl⟩ := H
             have hnb40 := NB165_168.out
             have hnc40 := NB168_165.out
             have hcz41_0 : wc.cell? ⟨gb165, 0, none⟩ = some (.slice (some ad167) l0_0.length c0_0) := (blk_cell BK165.out 0).trans rfl
             have hfz41_0 := blk_frozen BK165.out 0
             have hcz42_0 : wc.cell? ⟨gb168, 0, none⟩ = some (.string ((rd_T71 l0_0 a1).f0)) := (blk_cell BK168.out 0).trans rfl
             have hcz42_1 : wc.cell? ⟨gb168, 1, none⟩ = some (.string ((rd_T71 l0_0 a1).f1)) := (blk_cell BK168.out 1).trans rfl
             have hcz42_2 : wc.cell? ⟨gb168, 2, none⟩ = some (.int .i64 ((rd_T71 l0_0 a1).f2)) := (blk_cell BK168.out 2).trans rfl
             have hcz42_3 : wc.cell? ⟨gb168, 3, none⟩ = some (.int .i64 ((rd_T71 l0_0 a1).f3)) := (blk_cell BK168.out 3).trans rfl
             have hfz42_0 := blk_frozen BK168.out 0
             have hfz42_1 := blk_frozen BK168.out 1
             have hfz42_2 := blk_frozen BK168.out 2
             have hfz42_3 := blk_frozen BK168.out 3
             go_wp2_with (first | ((with_reducible refine gate_callee (f := 73) rfl ?_); refine goesL_ (some 58) rfl rfl Try.func73 (by kernel_rfl) rfl #[.agg #[.slice (some ad167) l0_0.length c0_0], .int .i64 ((rd_T71 l0_0 a1).f2), .int .i64 (wrap64 (a2 + 1))] rfl (by (try simp only [List.map_toArray, List.map_cons, List.map_nil]); first | done | rfl | (simp only [List.length_drop, List.length_take]; rfl)) ?_; (with_reducible refine (ih kj14 (by have := HJ5.out; have := HJ14.out; omega) _ _ l0_0 ((rd_T71 l0_0 a1).f2) (wrap64 (a2 + 1)) t169 true _ ?side1 ?side2 A35.out).mono ?_); (case side1 => repeat (first | exact (Kd.C_below HR0_0.out HB.out) | (with_reducible refine Kd.C_alloc ?_ _) | (with_reducible refine Kd.C_drewN ?_ _) | (with_reducible refine Kd.C_drew ?_))); (case side2 => exact HC0_0.out); rintro e w43 ⟨v170, rfl, ho0, hb⟩; refine ⟨_, rfl, ?_⟩; have n0_ := aM (Kd.R_lower ho0 (below_size (gB HB.out))); have n1_ := aM (blk_below (g := gb165) (o := .cells #[.slice (some ad167) l0_0.length c0_0] 29 (0, 0)) (gK BK165.out) hb); have n2_ := aM (blk_below (g := gb168) (o := .cells #[.string ((rd_T71 l0_0 a1).f0), .string ((rd_T71 l0_0 a1).f1), .int .i64 ((rd_T71 l0_0 a1).f2), .int .i64 ((rd_T71 l0_0 a1).f3)] 71 (0, 0)) (gK BK168.out) hb); have n3_ := aM (below_step (gB HB.out) hb); clear BK165; clear BK168; clear HB; have HO171 := n0_; have BK165 := n1_; have BK168 := n2_; have HB := n3_; clear n0_ n1_ n2_ n3_; (try clear hb); (try clear hb2); (try clear hk); (try clear hi); (try clear ho0); have hcz44_0 : w43.cell? ⟨gb165, 0, none⟩ = some (.slice (some ad167) l0_0.length c0_0) := (blk_cell BK165.out 0).trans rfl; have hfz44_0 := blk_frozen BK165.out 0; have hcz45_0 : w43.cell? ⟨gb168, 0, none⟩ = some (.string ((rd_T71 l0_0 a1).f0)) := (blk_cell BK168.out 0).trans rfl; have hcz45_1 : w43.cell? ⟨gb168, 1, none⟩ = some (.string ((rd_T71 l0_0 a1).f1)) := (blk_cell BK168.out 1).trans rfl; have hcz45_2 : w43.cell? ⟨gb168, 2, none⟩ = some (.int .i64 ((rd_T71 l0_0 a1).f2)) := (blk_cell BK168.out 2).trans rfl; have hcz45_3 : w43.cell? ⟨gb168, 3, none⟩ = some (.int .i64 ((rd_T71 l0_0 a1).f3)) := (blk_cell BK168.out 3).trans rfl; have hfz45_0 := blk_frozen BK168.out 0; have hfz45_1 := blk_frozen BK168.out 1; have hfz45_2 := blk_frozen BK168.out 2; have hfz45_3 := blk_frozen BK168.out 3) | ((with_reducible refine gate_callee (f := 73) rfl ?_); refine goesL_ (some 67) rfl rfl Try.func73 (by kernel_rfl) rfl #[.agg #[.slice (some ad167) l0_0.length c0_0], .int .i64 ((rd_T71 l0_0 a1).f3), .int .i64 (wrap64 (a2 + 1))] rfl (by (try simp only [List.map_toArray, List.map_cons, List.map_nil]); first | done | rfl | (simp only [List.length_drop, List.length_take]; rfl)) ?_; (with_reducible refine (ih kj14 (by have := HJ5.out; have := HJ14.out; omega) _ _ l0_0 ((rd_T71 l0_0 a1).f3) (wrap64 (a2 + 1)) t173 true _ ?side1 ?side2 A36.out).mono ?_); (case side1 => repeat (first | exact (Kd.C_below HR0_0.out HB.out) | (with_reducible refine Kd.C_alloc ?_ _) | (with_reducible refine Kd.C_drewN ?_ _) | (with_reducible refine Kd.C_drew ?_))); (case side2 => exact HC0_0.out); rintro e w46 ⟨v174, rfl, ho0, hb⟩; refine ⟨_, rfl, ?_⟩; have n0_ := aM (Kd.R_elder' (gR HO171.out) (Kd.R_base ho0) hb); have n1_ := aM (Kd.R_lower (Kd.R_new' ho0 (Kd.R_lt (gR HO171.out))) (below_size (gB HB.out))); have n2_ := aM (blk_below (g := gb165) (o := .cells #[.slice (some ad167) l0_0.length c0_0] 29 (0, 0)) (gK BK165.out) hb); have n3_ := aM (blk_below (g := gb168) (o := .cells #[.string ((rd_T71 l0_0 a1).f0), .string ((rd_T71 l0_0 a1).f1), .int .i64 ((rd_T71 l0_0 a1).f2), .int .i64 ((rd_T71 l0_0 a1).f3)] 71 (0, 0)) (gK BK168.out) hb); have n4_ := aM (below_step (gB HB.out) hb); clear HO171; clear BK165; clear BK168; clear HB; have HO171 := n0_; have HO175 := n1_; have BK165 := n2_; have BK168 := n3_; have HB := n4_; clear n0_ n1_ n2_ n3_ n4_; (try clear hb); (try clear hb2); (try clear hk); (try clear hi); (try clear ho0); obtain ⟨Ao47, co47, eo47⟩ := Kd.R_slice HO171.out; subst eo47; obtain ⟨Ao48, co48, eo48⟩ := Kd.R_slice HO175.out; subst eo48))
             go_ret2
             exact ⟨_, by first | rfl | (simp [errW_none, errW_some] <;> rfl) | (simp [*, errW_none, errW_some] <;> rfl), by first | exact Kd.R_nil _ _ _ _ _ | exact Kd.N_nil _ _ _ _ _ | exact Kd.V_nil _ _ _ _ _ | exact Kd.Q_nil _ _ _ _ _ | exact Kd.S_nil _ _ _ _ _, by repeat (first | (with_reducible first | exact HB.out | apply below_alloc | apply pw_below_drewN | apply below_drew1 | refine below_set ?_ GE165.out | refine below_set ?_ GE168.out) | exact HB.out)⟩
            ·
             rw [if_neg c39] at H
             have c39b0 : decide (60 ≤ (wrap64 ((t169.length : Int) + (t173.length : Int)))) = false := decide_eq_false c39
             clear c39
             obtain ⟨y177, hy177⟩ : ∃ y_ : List (S74), y_ = (([] : List (S74))) := ⟨_, rfl⟩
             replace H : (if y177.length + t169.length < 4398046511104 then ((some (y177 ++ t169 : List (S74))).bind fun y180 => (if y180.length < 4398046511104 then ((some (y180 ++ [(⟨((rd_T71 l0_0 a1).f0), ((rd_T71 l0_0 a1).f1)⟩ : S74)] : List (S74))).bind fun y183 => (if y183.length + t173.length < 4398046511104 then (some ((y183 ++ t173), true)) else (none))) else (none))) else (none)) = some (r1, r2) := by first | (rw [hy177]; with_reducible exact H) | (have H2_ := (Option.bind_some _ _).symm.trans H; rw [hy177]; with_reducible exact H2_) | (have H2_ := (Option.bind_some _ _).symm.trans H; with_reducible exact H2_) | with_reducible exact H | (rw [hy177]; exact H) | exact H
             have Ny177 := aM hy177
             clear hy177
             by_cases c49 : y177.length + t169.length < 4398046511104
             ·
              rw [if_pos c49] at H
              have LMc49 := aM c49
              clear c49
              obtain ⟨y180, hy180⟩ : ∃ y_ : List (S74), y_ = (y177 ++ t169) := ⟨_, rfl⟩
              replace H : (if y180.length < 4398046511104 then ((some (y180 ++ [(⟨((rd_T71 l0_0 a1).f0), ((rd_T71 l0_0 a1).f1)⟩ : S74)] : List (S74))).bind fun y183 => (if y183.length + t173.length < 4398046511104 then (some ((y183 ++ t173), true)) else (none))) else (none)) = some (r1, r2) := by first | (rw [hy180]; with_reducible exact H) | (have H2_ := (Option.bind_some _ _).symm.trans H; rw [hy180]; with_reducible exact H2_) | (have H2_ := (Option.bind_some _ _).symm.trans H; with_reducible exact H2_) | with_reducible exact H | (rw [hy180]; exact H) | exact H
              have Ny180 := aM hy180
              clear hy180
              by_cases c50 : y180.length < 4398046511104
              ·
               rw [if_pos c50] at H
               have LMc50 := aM c50
               clear c50
               obtain ⟨y183, hy183⟩ : ∃ y_ : List (S74), y_ = (y180 ++ [(⟨((rd_T71 l0_0 a1).f0), ((rd_T71 l0_0 a1).f1)⟩ : S74)]) := ⟨_, rfl⟩
               replace H : (if y183.length + t173.length < 4398046511104 then (some ((y183 ++ t173), true)) else (none)) = some (r1, r2) := by first | (rw [hy183]; with_reducible exact H) | (have H2_ := (Option.bind_some _ _).symm.trans H; rw [hy183]; with_reducible exact H2_) | (have H2_ := (Option.bind_some _ _).symm.trans H; with_reducible exact H2_) | with_reducible exact H | (rw [hy183]; exact H) | exact H
               have Ny183 := aM hy183
               clear hy183
               by_cases c51 : y183.length + t173.length < 4398046511104
               ·
                rw [if_pos c51] at H
                have LMc51 := aM c51
                clear c51
                obtain ⟨y186, hy186⟩ : ∃ y_ : List (S74), y_ = (y183 ++ t173) := ⟨_, rfl⟩
                replace H : (some (y186, true)) = some (r1, r2) := by first | (rw [hy186]; with_reducible exact H) | (have H2_ := (Option.bind_some _ _).symm.trans H; rw [hy186]; with_reducible exact H2_) | (have H2_ := (Option.bind_some _ _).symm.trans H; with_reducible exact H2_) | with_reducible exact H | (rw [hy186]; exact H) | exact H
                have Ny186 := aM hy186
                clear hy186
                simp only [Option.some.injEq, Prod.mk.injEq] at H
                obtain ⟨rfl, rfl⟩ := H
                have hnb52 := NB165_168.out
                have hnc52 := NB168_165.out
                have hcz53_0 : wc.cell? ⟨gb165, 0, none⟩ = some (.slice (some ad167) l0_0.length c0_0) := (blk_cell BK165.out 0).trans rfl
                have hfz53_0 := blk_frozen BK165.out 0
                have hcz54_0 : wc.cell? ⟨gb168, 0, none⟩ = some (.string ((rd_T71 l0_0 a1).f0)) := (blk_cell BK168.out 0).trans rfl
                have hcz54_1 : wc.cell? ⟨gb168, 1, none⟩ = some (.string ((rd_T71 l0_0 a1).f1)) := (blk_cell BK168.out 1).trans rfl
                have hcz54_2 : wc.cell? ⟨gb168, 2, none⟩ = some (.int .i64 ((rd_T71 l0_0 a1).f2)) := (blk_cell BK168.out 2).trans rfl
                have hcz54_3 : wc.cell? ⟨gb168, 3, none⟩ = some (.int .i64 ((rd_T71 l0_0 a1).f3)) := (blk_cell BK168.out 3).trans rfl
                have hfz54_0 := blk_frozen BK168.out 0
                have hfz54_1 := blk_frozen BK168.out 1
                have hfz54_2 := blk_frozen BK168.out 2
                have hfz54_3 := blk_frozen BK168.out 3
                go_wp2_with (first | ((with_reducible refine gate_callee (f := 73) rfl ?_); refine goesL_ (some 58) rfl rfl Try.func73 (by kernel_rfl) rfl #[.agg #[.slice (some ad167) l0_0.length c0_0], .int .i64 ((rd_T71 l0_0 a1).f2), .int .i64 (wrap64 (a2 + 1))] rfl (by (try simp only [List.map_toArray, List.map_cons, List.map_nil]); first | done | rfl | (simp only [List.length_drop, List.length_take]; rfl)) ?_; (with_reducible refine (ih kj14 (by have := HJ5.out; have := HJ14.out; omega) _ _ l0_0 ((rd_T71 l0_0 a1).f2) (wrap64 (a2 + 1)) t169 true _ ?side1 ?side2 A35.out).mono ?_); (case side1 => repeat (first | exact (Kd.C_below HR0_0.out HB.out) | (with_reducible refine Kd.C_alloc ?_ _) | (with_reducible refine Kd.C_drewN ?_ _) | (with_reducible refine Kd.C_drew ?_))); (case side2 => exact HC0_0.out); rintro e w55 ⟨v170, rfl, ho0, hb⟩; refine ⟨_, rfl, ?_⟩; have n0_ := aM (Kd.R_lower ho0 (below_size (gB HB.out))); have n1_ := aM (blk_below (g := gb165) (o := .cells #[.slice (some ad167) l0_0.length c0_0] 29 (0, 0)) (gK BK165.out) hb); have n2_ := aM (blk_below (g := gb168) (o := .cells #[.string ((rd_T71 l0_0 a1).f0), .string ((rd_T71 l0_0 a1).f1), .int .i64 ((rd_T71 l0_0 a1).f2), .int .i64 ((rd_T71 l0_0 a1).f3)] 71 (0, 0)) (gK BK168.out) hb); have n3_ := aM (below_step (gB HB.out) hb); clear BK165; clear BK168; clear HB; have HO171 := n0_; have BK165 := n1_; have BK168 := n2_; have HB := n3_; clear n0_ n1_ n2_ n3_; (try clear hb); (try clear hb2); (try clear hk); (try clear hi); (try clear ho0); have hcz56_0 : w55.cell? ⟨gb165, 0, none⟩ = some (.slice (some ad167) l0_0.length c0_0) := (blk_cell BK165.out 0).trans rfl; have hfz56_0 := blk_frozen BK165.out 0; have hcz57_0 : w55.cell? ⟨gb168, 0, none⟩ = some (.string ((rd_T71 l0_0 a1).f0)) := (blk_cell BK168.out 0).trans rfl; have hcz57_1 : w55.cell? ⟨gb168, 1, none⟩ = some (.string ((rd_T71 l0_0 a1).f1)) := (blk_cell BK168.out 1).trans rfl; have hcz57_2 : w55.cell? ⟨gb168, 2, none⟩ = some (.int .i64 ((rd_T71 l0_0 a1).f2)) := (blk_cell BK168.out 2).trans rfl; have hcz57_3 : w55.cell? ⟨gb168, 3, none⟩ = some (.int .i64 ((rd_T71 l0_0 a1).f3)) := (blk_cell BK168.out 3).trans rfl; have hfz57_0 := blk_frozen BK168.out 0; have hfz57_1 := blk_frozen BK168.out 1; have hfz57_2 := blk_frozen BK168.out 2; have hfz57_3 := blk_frozen BK168.out 3) | ((with_reducible refine gate_callee (f := 73) rfl ?_); refine goesL_ (some 67) rfl rfl Try.func73 (by kernel_rfl) rfl #[.agg #[.slice (some ad167) l0_0.length c0_0], .int .i64 ((rd_T71 l0_0 a1).f3), .int .i64 (wrap64 (a2 + 1))] rfl (by (try simp only [List.map_toArray, List.map_cons, List.map_nil]); first | done | rfl | (simp only [List.length_drop, List.length_take]; rfl)) ?_; (with_reducible refine (ih kj14 (by have := HJ5.out; have := HJ14.out; omega) _ _ l0_0 ((rd_T71 l0_0 a1).f3) (wrap64 (a2 + 1)) t173 true _ ?side1 ?side2 A36.out).mono ?_); (case side1 => repeat (first | exact (Kd.C_below HR0_0.out HB.out) | (with_reducible refine Kd.C_alloc ?_ _) | (with_reducible refine Kd.C_drewN ?_ _) | (with_reducible refine Kd.C_drew ?_))); (case side2 => exact HC0_0.out); rintro e w58 ⟨v174, rfl, ho0, hb⟩; refine ⟨_, rfl, ?_⟩; have n0_ := aM (Kd.R_elder' (gR HO171.out) (Kd.R_base ho0) hb); have n1_ := aM (Kd.R_lower (Kd.R_new' ho0 (Kd.R_lt (gR HO171.out))) (below_size (gB HB.out))); have n2_ := aM (blk_below (g := gb165) (o := .cells #[.slice (some ad167) l0_0.length c0_0] 29 (0, 0)) (gK BK165.out) hb); have n3_ := aM (blk_below (g := gb168) (o := .cells #[.string ((rd_T71 l0_0 a1).f0), .string ((rd_T71 l0_0 a1).f1), .int .i64 ((rd_T71 l0_0 a1).f2), .int .i64 ((rd_T71 l0_0 a1).f3)] 71 (0, 0)) (gK BK168.out) hb); have n4_ := aM (below_step (gB HB.out) hb); clear HO171; clear BK165; clear BK168; clear HB; have HO171 := n0_; have HO175 := n1_; have BK165 := n2_; have BK168 := n3_; have HB := n4_; clear n0_ n1_ n2_ n3_ n4_; (try clear hb); (try clear hb2); (try clear hk); (try clear hi); (try clear ho0); obtain ⟨Ao59, co59, eo59⟩ := Kd.R_slice HO171.out; subst eo59; obtain ⟨Ao60, co60, eo60⟩ := Kd.R_slice HO175.out; subst eo60) | ((with_reducible refine gate_dst (N := 84) rfl ?_); (try (refine gate_guard (by rfl) ?_; dsimp only)); refine Kd.R_lit k74 _ 74 ?hg (N := 84) ?hd (xs := ([] : List (S74))) (inner := []) (ok := fun _ => True) (okp := fun _ => True) ?hr ?hp (fun _ hk => hk) trivial (Below.refl _ _) (Nat.le_refl _) (by simp) ?_; (case hd => rfl); (case hg => rfl); (case hr => first | (go_simp; done) | (go_simp; rfl)); (case hp => exact (Reps.none _ _)); intro v178 w61 ho62 hb hg_ hnew_; clear hg_ hnew_; (first | rw [← Ny177.out] at ho62 | (simp only [Int.reduceToNat] at ho62; rw [← Ny177.out] at ho62)); have n0_ := aM (Kd.R_elder' (gR HO171.out) (Kd.R_base ho62) hb); have n1_ := aM (Kd.R_elder' (gR HO175.out) (Kd.R_base ho62) hb); have n2_ := aM (Kd.R_lower (Kd.R_new' (Kd.R_new' ho62 (Kd.R_lt (gR HO171.out))) (Kd.R_lt (gR HO175.out))) (below_size (gB HB.out))); have n3_ := aM (blk_below (g := gb165) (o := .cells #[.slice (some ad167) l0_0.length c0_0] 29 (0, 0)) (gK BK165.out) hb); have n4_ := aM (blk_below (g := gb168) (o := .cells #[.string ((rd_T71 l0_0 a1).f0), .string ((rd_T71 l0_0 a1).f1), .int .i64 ((rd_T71 l0_0 a1).f2), .int .i64 ((rd_T71 l0_0 a1).f3)] 71 (0, 0)) (gK BK168.out) hb); have n5_ := aM (below_step (gB HB.out) hb); clear HO171; clear HO175; clear BK165; clear BK168; clear HB; have HO171 := n0_; have HO175 := n1_; have HO179 := n2_; have BK165 := n3_; have BK168 := n4_; have HB := n5_; clear n0_ n1_ n2_ n3_ n4_ n5_; clear hb ho62) | ((with_reducible refine gate_builtin (b := .append) (xs := #[.tmp 84, .tmp 85]) rfl ?_); (try (refine gate_guard (by rfl) ?_; dsimp only)); at_builtin; refine Kd.R_append_rows k74 (w0 := w) w.heap.size rfl (.tmp 84) (.tmp 85) 62 74 (.agg #[(.string ⟨#[]⟩), (.string ⟨#[]⟩)]) 32 rfl Try.underlying62 info74 rfl (by decide) (by omega) v178 y177 t169 _ _ _ (fun k_ => some k_ ≠ (.slice Ao59 t169.length co59 : Value).ownBlock ∧ some k_ ≠ (.slice Ao60 t173.length co60 : Value).ownBlock) (fun _ => False) rfl rfl ?aO ?aR (fun _ _ h => h) (fun _ h => h.elim) ?aF ?aB ?aS ?aL ?_; (case aR => repeat (first | exact (Kd.R_reads' HO171.out).2.2 | (with_reducible refine Kd.C_alloc ?_ _) | (with_reducible refine Kd.C_drewN ?_ _) | (with_reducible refine Kd.C_drew ?_))); (case aB => exact (gB HB.out)); (case aF => exact (fun k_ hk => ⟨Kd.fresh' (Kd.R_lt (gR HO171.out)) k_ hk, Kd.fresh' (Kd.R_lt (gR HO175.out)) k_ hk⟩)); (case aO => exact (by (with_reducible repeat (first | apply Kd.R_alloc | apply Kd.R_drewN | apply Kd.R_drew)); exact Kd.R_mono HO179.out (fun _ hk => ⟨hk.1.2, hk.2⟩))); (case aS => exact (below_size (gB HB.out))); (case aL => have := LMc49.out; omega); intro v181 w63 ho hb hg hat; rw [← Ny180.out] at ho; have n0_ := aM (blk_grown (g := gb165) (o := .cells #[.slice (some ad167) l0_0.length c0_0] 29 (0, 0)) (gK BK165.out) hg (Kd.R_ne HO179.out BK165.out (by decide))); have n1_ := aM (blk_grown (g := gb168) (o := .cells #[.string ((rd_T71 l0_0 a1).f0), .string ((rd_T71 l0_0 a1).f1), .int .i64 ((rd_T71 l0_0 a1).f2), .int .i64 ((rd_T71 l0_0 a1).f3)] 71 (0, 0)) (gK BK168.out) hg (Kd.R_ne HO179.out BK168.out (by decide))); have n2_ := aM (Kd.R_after (ok := (fun k_ => some k_ ≠ (.slice Ao60 t173.length co60 : Value).ownBlock)) (by (with_reducible repeat (first | apply Kd.R_alloc | apply Kd.R_drewN | apply Kd.R_drew)); exact Kd.R_mono HO171.out (fun _ hk => ⟨hk.1.2, hk.2⟩)) hg hat); have n3_ := aM (Kd.R_after (ok := (fun k_ => some k_ ≠ (.slice Ao59 t169.length co59 : Value).ownBlock)) (by (with_reducible repeat (first | apply Kd.R_alloc | apply Kd.R_drewN | apply Kd.R_drew)); exact Kd.R_mono HO175.out (fun _ hk => ⟨hk.1.2, hk.2⟩)) hg hat); have n4_ := aM (hb); have n5_ := aM (ho); clear BK165; clear BK168; clear HO171; clear HO175; clear HB; clear HO179; have BK165 := n0_; have BK168 := n1_; have HO171 := n2_; have HO175 := n3_; have HB := n4_; have HO182 := n5_; clear n0_ n1_ n2_ n3_ n4_ n5_; clear ho hb hg hat; have hcz64_0 : w63.cell? ⟨gb168, 0, none⟩ = some (.string ((rd_T71 l0_0 a1).f0)) := (blk_cell BK168.out 0).trans rfl; have hcz64_1 : w63.cell? ⟨gb168, 1, none⟩ = some (.string ((rd_T71 l0_0 a1).f1)) := (blk_cell BK168.out 1).trans rfl; have hcz64_2 : w63.cell? ⟨gb168, 2, none⟩ = some (.int .i64 ((rd_T71 l0_0 a1).f2)) := (blk_cell BK168.out 2).trans rfl; have hcz64_3 : w63.cell? ⟨gb168, 3, none⟩ = some (.int .i64 ((rd_T71 l0_0 a1).f3)) := (blk_cell BK168.out 3).trans rfl; have hfz64_0 := blk_frozen BK168.out 0; have hfz64_1 := blk_frozen BK168.out 1; have hfz64_2 := blk_frozen BK168.out 2; have hfz64_3 := blk_frozen BK168.out 3) | ((with_reducible refine gate_builtin (b := .append) (xs := #[.tmp 87, .tmp 93]) rfl ?_); (try (refine gate_guard (by rfl) ?_; dsimp only)); at_builtin; refine Kd.R_append k74 (w0 := w) w.heap.size rfl (.tmp 87) (.tmp 93) 62 74 (.agg #[(.string ⟨#[]⟩), (.string ⟨#[]⟩)]) 32 rfl Try.underlying62 info74 rfl (by decide) (by omega) v181 y180 (⟨((rd_T71 l0_0 a1).f0), ((rd_T71 l0_0 a1).f1)⟩ : S74) [.string ((rd_T71 l0_0 a1).f0), .string ((rd_T71 l0_0 a1).f1)] (fun k_ => some k_ ≠ (.slice Ao59 t169.length co59 : Value).ownBlock ∧ some k_ ≠ (.slice Ao60 t173.length co60 : Value).ownBlock) (fun _ => False) rfl rfl ?aP (fun _ hk => hk.elim) ?aF ?aO ?aB ?aS ?aL ?_; (case aP => exact k74_mkM _ _ _ (⟨((rd_T71 l0_0 a1).f0), ((rd_T71 l0_0 a1).f1)⟩ : S74)); (case aB => exact (gB HB.out)); (case aF => exact (fun k_ hk => ⟨Kd.fresh' (Kd.R_lt (gR HO171.out)) k_ hk, Kd.fresh' (Kd.R_lt (gR HO175.out)) k_ hk⟩)); (case aO => exact (gR HO182.out)); (case aS => exact (below_size (gB HB.out))); (case aL => have := LMc50.out; omega); intro v184 w65 ho hb hg hat; rw [← Ny183.out] at ho; have n0_ := aM (blk_grown (g := gb165) (o := .cells #[.slice (some ad167) l0_0.length c0_0] 29 (0, 0)) (gK BK165.out) hg (Kd.R_ne HO182.out BK165.out (by decide))); have n1_ := aM (blk_grown (g := gb168) (o := .cells #[.string ((rd_T71 l0_0 a1).f0), .string ((rd_T71 l0_0 a1).f1), .int .i64 ((rd_T71 l0_0 a1).f2), .int .i64 ((rd_T71 l0_0 a1).f3)] 71 (0, 0)) (gK BK168.out) hg (Kd.R_ne HO182.out BK168.out (by decide))); have n2_ := aM (Kd.R_after (ok := (fun k_ => some k_ ≠ (.slice Ao60 t173.length co60 : Value).ownBlock)) (gR HO171.out) hg hat); have n3_ := aM (Kd.R_after (ok := (fun k_ => some k_ ≠ (.slice Ao59 t169.length co59 : Value).ownBlock)) (gR HO175.out) hg hat); have n4_ := aM (hb); have n5_ := aM (ho); clear BK165; clear BK168; clear HO171; clear HO175; clear HB; clear HO182; have BK165 := n0_; have BK168 := n1_; have HO171 := n2_; have HO175 := n3_; have HB := n4_; have HO185 := n5_; clear n0_ n1_ n2_ n3_ n4_ n5_; clear ho hb hg hat) | ((with_reducible refine gate_builtin (b := .append) (xs := #[.tmp 95, .tmp 96]) rfl ?_); (try (refine gate_guard (by rfl) ?_; dsimp only)); at_builtin; refine Kd.R_append_rows k74 (w0 := w) w.heap.size rfl (.tmp 95) (.tmp 96) 62 74 (.agg #[(.string ⟨#[]⟩), (.string ⟨#[]⟩)]) 32 rfl Try.underlying62 info74 rfl (by decide) (by omega) v184 y183 t173 _ _ _ (fun k_ => some k_ ≠ (.slice Ao59 t169.length co59 : Value).ownBlock ∧ some k_ ≠ (.slice Ao60 t173.length co60 : Value).ownBlock) (fun _ => False) rfl rfl ?aO ?aR (fun _ _ h => h) (fun _ h => h.elim) ?aF ?aB ?aS ?aL ?_; (case aR => repeat (first | exact (Kd.R_reads' HO175.out).2.2 | (with_reducible refine Kd.C_alloc ?_ _) | (with_reducible refine Kd.C_drewN ?_ _) | (with_reducible refine Kd.C_drew ?_))); (case aB => exact (gB HB.out)); (case aF => exact (fun k_ hk => ⟨Kd.fresh' (Kd.R_lt (gR HO171.out)) k_ hk, Kd.fresh' (Kd.R_lt (gR HO175.out)) k_ hk⟩)); (case aO => exact (gR HO185.out)); (case aS => exact (below_size (gB HB.out))); (case aL => have := LMc51.out; omega); intro v187 w66 ho hb hg hat; rw [← Ny186.out] at ho; have n0_ := aM (blk_grown (g := gb165) (o := .cells #[.slice (some ad167) l0_0.length c0_0] 29 (0, 0)) (gK BK165.out) hg (Kd.R_ne HO185.out BK165.out (by decide))); have n1_ := aM (blk_grown (g := gb168) (o := .cells #[.string ((rd_T71 l0_0 a1).f0), .string ((rd_T71 l0_0 a1).f1), .int .i64 ((rd_T71 l0_0 a1).f2), .int .i64 ((rd_T71 l0_0 a1).f3)] 71 (0, 0)) (gK BK168.out) hg (Kd.R_ne HO185.out BK168.out (by decide))); have n2_ := aM (Kd.R_after (ok := (fun k_ => some k_ ≠ (.slice Ao60 t173.length co60 : Value).ownBlock)) (gR HO171.out) hg hat); have n3_ := aM (Kd.R_after (ok := (fun k_ => some k_ ≠ (.slice Ao59 t169.length co59 : Value).ownBlock)) (gR HO175.out) hg hat); have n4_ := aM (hb); have n5_ := aM (ho); clear BK165; clear BK168; clear HO171; clear HO175; clear HB; clear HO185; have BK165 := n0_; have BK168 := n1_; have HO171 := n2_; have HO175 := n3_; have HB := n4_; have HO188 := n5_; clear n0_ n1_ n2_ n3_ n4_ n5_; clear ho hb hg hat))
                go_ret2
                exact ⟨_, by first | rfl | (simp [errW_none, errW_some] <;> rfl) | (simp [*, errW_none, errW_some] <;> rfl), by (with_reducible repeat (first | apply Kd.R_alloc | apply Kd.R_drewN | apply Kd.R_drew)); exact Kd.R_mono HO188.out (fun _ hk => trivial), by repeat (first | (with_reducible first | exact HB.out | apply below_alloc | apply pw_below_drewN | apply below_drew1 | refine below_set ?_ GE165.out | refine below_set ?_ GE168.out) | exact HB.out)⟩
               ·
                rw [if_neg c51] at H
                exact absurd H (by simp)
              ·
               rw [if_neg c50] at H
               exact absurd H (by simp)
             ·
              rw [if_neg c49] at H
              exact absurd H (by simp)
           ·
            replace c38 := Bool.eq_false_iff.mpr c38
            subst c38
            have H1 : (some (([] : List (S74)), false)) = some (r1, r2) := by rw [if_neg (show ¬ (false = true) by decide)] at H; exact H
            clear H
            have H := H1
            clear H1
            simp only [Option.some.injEq, Prod.mk.injEq] at H
            obtain ⟨rfl, rfl⟩ := H
            have hnb67 := NB165_168.out
            have hnc67 := NB168_165.out
            have hcz68_0 : wc.cell? ⟨gb165, 0, none⟩ = some (.slice (some ad167) l0_0.length c0_0) := (blk_cell BK165.out 0).trans rfl
            have hfz68_0 := blk_frozen BK165.out 0
            have hcz69_0 : wc.cell? ⟨gb168, 0, none⟩ = some (.string ((rd_T71 l0_0 a1).f0)) := (blk_cell BK168.out 0).trans rfl
            have hcz69_1 : wc.cell? ⟨gb168, 1, none⟩ = some (.string ((rd_T71 l0_0 a1).f1)) := (blk_cell BK168.out 1).trans rfl
            have hcz69_2 : wc.cell? ⟨gb168, 2, none⟩ = some (.int .i64 ((rd_T71 l0_0 a1).f2)) := (blk_cell BK168.out 2).trans rfl
            have hcz69_3 : wc.cell? ⟨gb168, 3, none⟩ = some (.int .i64 ((rd_T71 l0_0 a1).f3)) := (blk_cell BK168.out 3).trans rfl
            have hfz69_0 := blk_frozen BK168.out 0
            have hfz69_1 := blk_frozen BK168.out 1
            have hfz69_2 := blk_frozen BK168.out 2
            have hfz69_3 := blk_frozen BK168.out 3
            go_wp2_with (first | ((with_reducible refine gate_callee (f := 73) rfl ?_); refine goesL_ (some 58) rfl rfl Try.func73 (by kernel_rfl) rfl #[.agg #[.slice (some ad167) l0_0.length c0_0], .int .i64 ((rd_T71 l0_0 a1).f2), .int .i64 (wrap64 (a2 + 1))] rfl (by (try simp only [List.map_toArray, List.map_cons, List.map_nil]); first | done | rfl | (simp only [List.length_drop, List.length_take]; rfl)) ?_; (with_reducible refine (ih kj14 (by have := HJ5.out; have := HJ14.out; omega) _ _ l0_0 ((rd_T71 l0_0 a1).f2) (wrap64 (a2 + 1)) t169 true _ ?side1 ?side2 A35.out).mono ?_); (case side1 => repeat (first | exact (Kd.C_below HR0_0.out HB.out) | (with_reducible refine Kd.C_alloc ?_ _) | (with_reducible refine Kd.C_drewN ?_ _) | (with_reducible refine Kd.C_drew ?_))); (case side2 => exact HC0_0.out); rintro e w70 ⟨v170, rfl, ho0, hb⟩; refine ⟨_, rfl, ?_⟩; have n0_ := aM (Kd.R_lower ho0 (below_size (gB HB.out))); have n1_ := aM (blk_below (g := gb165) (o := .cells #[.slice (some ad167) l0_0.length c0_0] 29 (0, 0)) (gK BK165.out) hb); have n2_ := aM (blk_below (g := gb168) (o := .cells #[.string ((rd_T71 l0_0 a1).f0), .string ((rd_T71 l0_0 a1).f1), .int .i64 ((rd_T71 l0_0 a1).f2), .int .i64 ((rd_T71 l0_0 a1).f3)] 71 (0, 0)) (gK BK168.out) hb); have n3_ := aM (below_step (gB HB.out) hb); clear BK165; clear BK168; clear HB; have HO171 := n0_; have BK165 := n1_; have BK168 := n2_; have HB := n3_; clear n0_ n1_ n2_ n3_; (try clear hb); (try clear hb2); (try clear hk); (try clear hi); (try clear ho0); have hcz71_0 : w70.cell? ⟨gb165, 0, none⟩ = some (.slice (some ad167) l0_0.length c0_0) := (blk_cell BK165.out 0).trans rfl; have hfz71_0 := blk_frozen BK165.out 0; have hcz72_0 : w70.cell? ⟨gb168, 0, none⟩ = some (.string ((rd_T71 l0_0 a1).f0)) := (blk_cell BK168.out 0).trans rfl; have hcz72_1 : w70.cell? ⟨gb168, 1, none⟩ = some (.string ((rd_T71 l0_0 a1).f1)) := (blk_cell BK168.out 1).trans rfl; have hcz72_2 : w70.cell? ⟨gb168, 2, none⟩ = some (.int .i64 ((rd_T71 l0_0 a1).f2)) := (blk_cell BK168.out 2).trans rfl; have hcz72_3 : w70.cell? ⟨gb168, 3, none⟩ = some (.int .i64 ((rd_T71 l0_0 a1).f3)) := (blk_cell BK168.out 3).trans rfl; have hfz72_0 := blk_frozen BK168.out 0; have hfz72_1 := blk_frozen BK168.out 1; have hfz72_2 := blk_frozen BK168.out 2; have hfz72_3 := blk_frozen BK168.out 3) | ((with_reducible refine gate_callee (f := 73) rfl ?_); refine goesL_ (some 67) rfl rfl Try.func73 (by kernel_rfl) rfl #[.agg #[.slice (some ad167) l0_0.length c0_0], .int .i64 ((rd_T71 l0_0 a1).f3), .int .i64 (wrap64 (a2 + 1))] rfl (by (try simp only [List.map_toArray, List.map_cons, List.map_nil]); first | done | rfl | (simp only [List.length_drop, List.length_take]; rfl)) ?_; (with_reducible refine (ih kj14 (by have := HJ5.out; have := HJ14.out; omega) _ _ l0_0 ((rd_T71 l0_0 a1).f3) (wrap64 (a2 + 1)) t173 false _ ?side1 ?side2 A36.out).mono ?_); (case side1 => repeat (first | exact (Kd.C_below HR0_0.out HB.out) | (with_reducible refine Kd.C_alloc ?_ _) | (with_reducible refine Kd.C_drewN ?_ _) | (with_reducible refine Kd.C_drew ?_))); (case side2 => exact HC0_0.out); rintro e w73 ⟨v174, rfl, ho0, hb⟩; refine ⟨_, rfl, ?_⟩; have n0_ := aM (Kd.R_elder' (gR HO171.out) (Kd.R_base ho0) hb); have n1_ := aM (Kd.R_lower (Kd.R_new' ho0 (Kd.R_lt (gR HO171.out))) (below_size (gB HB.out))); have n2_ := aM (blk_below (g := gb165) (o := .cells #[.slice (some ad167) l0_0.length c0_0] 29 (0, 0)) (gK BK165.out) hb); have n3_ := aM (blk_below (g := gb168) (o := .cells #[.string ((rd_T71 l0_0 a1).f0), .string ((rd_T71 l0_0 a1).f1), .int .i64 ((rd_T71 l0_0 a1).f2), .int .i64 ((rd_T71 l0_0 a1).f3)] 71 (0, 0)) (gK BK168.out) hb); have n4_ := aM (below_step (gB HB.out) hb); clear HO171; clear BK165; clear BK168; clear HB; have HO171 := n0_; have HO175 := n1_; have BK165 := n2_; have BK168 := n3_; have HB := n4_; clear n0_ n1_ n2_ n3_ n4_; (try clear hb); (try clear hb2); (try clear hk); (try clear hi); (try clear ho0)))
            go_ret2
            exact ⟨_, by first | rfl | (simp [errW_none, errW_some] <;> rfl) | (simp [*, errW_none, errW_some] <;> rfl), by first | exact Kd.R_nil _ _ _ _ _ | exact Kd.N_nil _ _ _ _ _ | exact Kd.V_nil _ _ _ _ _ | exact Kd.Q_nil _ _ _ _ _ | exact Kd.S_nil _ _ _ _ _, by repeat (first | (with_reducible first | exact HB.out | apply below_alloc | apply pw_below_drewN | apply below_drew1 | refine below_set ?_ GE165.out | refine below_set ?_ GE168.out) | exact HB.out)⟩
          ·
           replace c37 := Bool.eq_false_iff.mpr c37
           subst c37
           have H1 : (some (([] : List (S74)), false)) = some (r1, r2) := by rw [if_neg (show ¬ (false = true) by decide)] at H; exact H
           clear H
           have H := H1
           clear H1
           simp only [Option.some.injEq, Prod.mk.injEq] at H
           obtain ⟨rfl, rfl⟩ := H
           have hnb74 := NB165_168.out
           have hnc74 := NB168_165.out
           have hcz75_0 : wc.cell? ⟨gb165, 0, none⟩ = some (.slice (some ad167) l0_0.length c0_0) := (blk_cell BK165.out 0).trans rfl
           have hfz75_0 := blk_frozen BK165.out 0
           have hcz76_0 : wc.cell? ⟨gb168, 0, none⟩ = some (.string ((rd_T71 l0_0 a1).f0)) := (blk_cell BK168.out 0).trans rfl
           have hcz76_1 : wc.cell? ⟨gb168, 1, none⟩ = some (.string ((rd_T71 l0_0 a1).f1)) := (blk_cell BK168.out 1).trans rfl
           have hcz76_2 : wc.cell? ⟨gb168, 2, none⟩ = some (.int .i64 ((rd_T71 l0_0 a1).f2)) := (blk_cell BK168.out 2).trans rfl
           have hcz76_3 : wc.cell? ⟨gb168, 3, none⟩ = some (.int .i64 ((rd_T71 l0_0 a1).f3)) := (blk_cell BK168.out 3).trans rfl
           have hfz76_0 := blk_frozen BK168.out 0
           have hfz76_1 := blk_frozen BK168.out 1
           have hfz76_2 := blk_frozen BK168.out 2
           have hfz76_3 := blk_frozen BK168.out 3
           go_wp2_with (first | ((with_reducible refine gate_callee (f := 73) rfl ?_); refine goesL_ (some 58) rfl rfl Try.func73 (by kernel_rfl) rfl #[.agg #[.slice (some ad167) l0_0.length c0_0], .int .i64 ((rd_T71 l0_0 a1).f2), .int .i64 (wrap64 (a2 + 1))] rfl (by (try simp only [List.map_toArray, List.map_cons, List.map_nil]); first | done | rfl | (simp only [List.length_drop, List.length_take]; rfl)) ?_; (with_reducible refine (ih kj14 (by have := HJ5.out; have := HJ14.out; omega) _ _ l0_0 ((rd_T71 l0_0 a1).f2) (wrap64 (a2 + 1)) t169 false _ ?side1 ?side2 A35.out).mono ?_); (case side1 => repeat (first | exact (Kd.C_below HR0_0.out HB.out) | (with_reducible refine Kd.C_alloc ?_ _) | (with_reducible refine Kd.C_drewN ?_ _) | (with_reducible refine Kd.C_drew ?_))); (case side2 => exact HC0_0.out); rintro e w77 ⟨v170, rfl, ho0, hb⟩; refine ⟨_, rfl, ?_⟩; have n0_ := aM (Kd.R_lower ho0 (below_size (gB HB.out))); have n1_ := aM (blk_below (g := gb165) (o := .cells #[.slice (some ad167) l0_0.length c0_0] 29 (0, 0)) (gK BK165.out) hb); have n2_ := aM (blk_below (g := gb168) (o := .cells #[.string ((rd_T71 l0_0 a1).f0), .string ((rd_T71 l0_0 a1).f1), .int .i64 ((rd_T71 l0_0 a1).f2), .int .i64 ((rd_T71 l0_0 a1).f3)] 71 (0, 0)) (gK BK168.out) hb); have n3_ := aM (below_step (gB HB.out) hb); clear BK165; clear BK168; clear HB; have HO171 := n0_; have BK165 := n1_; have BK168 := n2_; have HB := n3_; clear n0_ n1_ n2_ n3_; (try clear hb); (try clear hb2); (try clear hk); (try clear hi); (try clear ho0); have hcz78_0 : w77.cell? ⟨gb165, 0, none⟩ = some (.slice (some ad167) l0_0.length c0_0) := (blk_cell BK165.out 0).trans rfl; have hfz78_0 := blk_frozen BK165.out 0; have hcz79_0 : w77.cell? ⟨gb168, 0, none⟩ = some (.string ((rd_T71 l0_0 a1).f0)) := (blk_cell BK168.out 0).trans rfl; have hcz79_1 : w77.cell? ⟨gb168, 1, none⟩ = some (.string ((rd_T71 l0_0 a1).f1)) := (blk_cell BK168.out 1).trans rfl; have hcz79_2 : w77.cell? ⟨gb168, 2, none⟩ = some (.int .i64 ((rd_T71 l0_0 a1).f2)) := (blk_cell BK168.out 2).trans rfl; have hcz79_3 : w77.cell? ⟨gb168, 3, none⟩ = some (.int .i64 ((rd_T71 l0_0 a1).f3)) := (blk_cell BK168.out 3).trans rfl; have hfz79_0 := blk_frozen BK168.out 0; have hfz79_1 := blk_frozen BK168.out 1; have hfz79_2 := blk_frozen BK168.out 2; have hfz79_3 := blk_frozen BK168.out 3) | ((with_reducible refine gate_callee (f := 73) rfl ?_); refine goesL_ (some 67) rfl rfl Try.func73 (by kernel_rfl) rfl #[.agg #[.slice (some ad167) l0_0.length c0_0], .int .i64 ((rd_T71 l0_0 a1).f3), .int .i64 (wrap64 (a2 + 1))] rfl (by (try simp only [List.map_toArray, List.map_cons, List.map_nil]); first | done | rfl | (simp only [List.length_drop, List.length_take]; rfl)) ?_; (with_reducible refine (ih kj14 (by have := HJ5.out; have := HJ14.out; omega) _ _ l0_0 ((rd_T71 l0_0 a1).f3) (wrap64 (a2 + 1)) t173 t176 _ ?side1 ?side2 A36.out).mono ?_); (case side1 => repeat (first | exact (Kd.C_below HR0_0.out HB.out) | (with_reducible refine Kd.C_alloc ?_ _) | (with_reducible refine Kd.C_drewN ?_ _) | (with_reducible refine Kd.C_drew ?_))); (case side2 => exact HC0_0.out); rintro e w80 ⟨v174, rfl, ho0, hb⟩; refine ⟨_, rfl, ?_⟩; have n0_ := aM (Kd.R_elder' (gR HO171.out) (Kd.R_base ho0) hb); have n1_ := aM (Kd.R_lower (Kd.R_new' ho0 (Kd.R_lt (gR HO171.out))) (below_size (gB HB.out))); have n2_ := aM (blk_below (g := gb165) (o := .cells #[.slice (some ad167) l0_0.length c0_0] 29 (0, 0)) (gK BK165.out) hb); have n3_ := aM (blk_below (g := gb168) (o := .cells #[.string ((rd_T71 l0_0 a1).f0), .string ((rd_T71 l0_0 a1).f1), .int .i64 ((rd_T71 l0_0 a1).f2), .int .i64 ((rd_T71 l0_0 a1).f3)] 71 (0, 0)) (gK BK168.out) hb); have n4_ := aM (below_step (gB HB.out) hb); clear HO171; clear BK165; clear BK168; clear HB; have HO171 := n0_; have HO175 := n1_; have BK165 := n2_; have BK168 := n3_; have HB := n4_; clear n0_ n1_ n2_ n3_ n4_; (try clear hb); (try clear hb2); (try clear hk); (try clear hi); (try clear ho0)))
           go_ret2
           exact ⟨_, by first | rfl | (simp [errW_none, errW_some] <;> rfl) | (simp [*, errW_none, errW_some] <;> rfl), by first | exact Kd.R_nil _ _ _ _ _ | exact Kd.N_nil _ _ _ _ _ | exact Kd.V_nil _ _ _ _ _ | exact Kd.Q_nil _ _ _ _ _ | exact Kd.S_nil _ _ _ _ _, by repeat (first | (with_reducible first | exact HB.out | apply below_alloc | apply pw_below_drewN | apply below_drew1 | refine below_set ?_ GE165.out | refine below_set ?_ GE168.out) | exact HB.out)⟩
      ·
       rw [if_neg c14] at H
       exact absurd H (by simp)
     ·
      rw [if_neg c13] at H
      exact absurd H (by simp)
















end Go.Proofs.Ytjknkeipginpcaa.PQ
end

section
namespace Go.Proofs.Ytjknkeipginpcaa.PQ
open Go.RowKit Go.Proofs.YtjknkeipginpcaaW.PrintWords Go.Proofs.YtjknkeipginpcaaW.PrintLast Go.Proofs.YtjknkeipginpcaaW.PrintMore
attribute [local go_sem] max2_int min2_int max_two min_two max_three min_three max_four min_four
set_option linter.unusedVariables false
set_option linter.unusedSimpArgs false
attribute [local go_sem high] eqA71
def laws_sameTreaps.l0 : Nat → Int → Int → List (S71) → List (S71) → Option (Bool)
 | 0, _, _, _, _ => none
 | k + 1, x15, x16, x367000, x368000 => if x16 < x15 then (if 0 ≤ x16 then (if x16 < (x367000.length : Int) then (if x16 < (x368000.length : Int) then (if (!((((rd_T71 x367000 x16).f0).toList) == (((rd_T71 x368000 x16).f0).toList)) || (!((((rd_T71 x367000 x16).f1).toList) == (((rd_T71 x368000 x16).f1).toList)) || (!(((rd_T71 x367000 x16).f2) == ((rd_T71 x368000 x16).f2)) || (!(((rd_T71 x367000 x16).f3) == ((rd_T71 x368000 x16).f3)))))) = true then (some false) else (laws_sameTreaps.l0 k x15 (wrap64 (x16 + 1)) x367000 x368000)) else (none)) else (none)) else (none)) else (some true)
def laws_sameTreaps.f (k : Nat) (l0_0 : List (S71)) (l1_0 : List (S71)) : Option (Bool) := if (l0_0.length : Int) = (l1_0.length : Int) then (laws_sameTreaps.l0 k (l0_0.length : Int) 0 l0_0 l1_0) else (some false)
set_option maxHeartbeats 8000000 in
set_option maxRecDepth 100000 in
theorem laws_sameTreaps.calls (k : Nat) (A0_0 : Option Addr) (c0_0 : Nat) (l0_0 : List (S71)) (A1_0 : Option Addr) (c1_0 : Nat) (l1_0 : List (S71)) (r : Bool) (w : World) (hr0_0 : Kd.C k71 w A0_0 l0_0.length l0_0) (hc0_0 : l0_0.length ≤ c0_0) (hr1_0 : Kd.C k71 w A1_0 l1_0.length l1_0) (hc1_0 : l1_0.length ≤ c1_0) (h : laws_sameTreaps.f k l0_0 l1_0 = some r) :
  Calls Try.prog 36 #[.agg #[.slice A0_0 l0_0.length c0_0], .agg #[.slice A1_0 l1_0.length c1_0]] w fun e w' => e = .returned (.bool r) ∧ Below w.heap.size w w' := by
 have hu29 := Try.underlying29
 have hu71 := Try.underlying71
 have HR0_0 := aM hr0_0
 have HC0_0 := aM hc0_0
 clear hr0_0 hc0_0
 have HR1_0 := aM hr1_0
 have HC1_0 := aM hc1_0
 clear hr1_0 hc1_0
 have HB := aM (Below.refl w.heap.size w)
 have H : (if (l0_0.length : Int) = (l1_0.length : Int) then (laws_sameTreaps.l0 k (l0_0.length : Int) 0 l0_0 l1_0) else (some false)) = some r := h
 clear h
 by_cases c3 : (l0_0.length : Int) = (l1_0.length : Int)
 ·
  rw [if_pos c3] at H
  have c3b0 : ((l0_0.length : Int) == (l1_0.length : Int)) = true := beq_iff_eq.mpr c3
  have c3b1 : ((l0_0.length : Int) != (l1_0.length : Int)) = false := bne_eq_false_iff_eq.mpr c3
  have c3b2 : (l0_0.length == l1_0.length) = true := by first | simpa using c3 | (simp at c3 ⊢; omega)
  clear c3
  have H' := aM H
  clear H
  go_enter Try.func36, Try.ntmps36
  go_wp2_with (first | ((with_reducible refine gate_dst (N := 2) rfl ?_); refine box_event ?hg (N := 2) ?hd (cs := #[.slice A0_0 l0_0.length c0_0]) (t := 29) ?hr ?_; (case hd => rfl); (case hg => rfl); (case hr => first | (go_simp; done) | (go_simp; rfl)); intro gb366 hg w4 hbox hb; have n0_ := aM (below_step (gB HB.out) hb); have n1_ := aM (hbox); have n2_ := aM ((by rw [hg]; exact (below_size (gB HB.out)) : w.heap.size ≤ gb366)); have n3_ := aM ((by rw [hg]; exact (below_size (gB HB.out)) : w.heap.size ≤ gb366)); clear HB; have HB := n0_; have BK366 := n1_; have GW366 := n2_; have GE366 := n3_; clear n0_ n1_ n2_ n3_; clear hb hbox hg) | ((with_reducible refine gate_dst (N := 3) rfl ?_); refine box_event ?hg (N := 3) ?hd (cs := #[.slice A1_0 l1_0.length c1_0]) (t := 29) ?hr ?_; (case hd => rfl); (case hg => rfl); (case hr => first | (go_simp; done) | (go_simp; rfl)); intro gb367 hg w5 hbox hb; have n0_ := aM (blk_below (g := gb366) (o := .cells #[.slice A0_0 l0_0.length c0_0] 29 (0, 0)) (gK BK366.out) hb); have n1_ := aM (below_step (gB HB.out) hb); have n2_ := aM (hbox); have n3_ := aM ((by rw [hg]; exact (below_size (gB HB.out)) : w.heap.size ≤ gb367)); have n4_ := aM ((by rw [hg]; exact (below_size (gB HB.out)) : w.heap.size ≤ gb367)); have n5_ := aM ((by rw [hg]; exact Nat.ne_of_lt (blk_lt (g := gb366) (o := .cells #[.slice A0_0 l0_0.length c0_0] 29 (0, 0)) (gK BK366.out)) : gb366 ≠ gb367)); have n6_ := aM ((by rw [hg]; exact Nat.ne_of_gt (blk_lt (g := gb366) (o := .cells #[.slice A0_0 l0_0.length c0_0] 29 (0, 0)) (gK BK366.out)) : gb367 ≠ gb366)); clear BK366; clear HB; have BK366 := n0_; have HB := n1_; have BK367 := n2_; have GW367 := n3_; have GE367 := n4_; have NB366_367 := n5_; have NB367_366 := n6_; clear n0_ n1_ n2_ n3_ n4_ n5_ n6_; clear hb hbox hg; have hnb6 := NB366_367.out; have hnc6 := NB367_366.out; have hcz7_0 : w5.cell? ⟨gb366, 0, none⟩ = some (.slice A0_0 l0_0.length c0_0) := (blk_cell BK366.out 0).trans rfl; have hfz7_0 := blk_frozen BK366.out 0; have hcz8_0 : w5.cell? ⟨gb367, 0, none⟩ = some (.slice A1_0 l1_0.length c1_0) := (blk_cell BK367.out 0).trans rfl; have hfz8_0 := blk_frozen BK367.out 0))
  repeat (go_quiet (fail); try go_wp2)
  go_loopg [16] k (fun kq v16 w' => ∃ (x16_1 : Int), v16 = .int .i64 x16_1 ∧ Aside0 (laws_sameTreaps.l0 kq (l0_0.length : Int) x16_1 l0_0 l1_0 = some r) ∧ Aside0 (kq ≤ k) ∧ Aside0 (w'.heap[gb366]? = some (.cells #[(.slice A0_0 l0_0.length c0_0)] 29 (0, 0))) ∧ Aside0 (w'.heap[gb367]? = some (.cells #[(.slice A1_0 l1_0.length c1_0)] 29 (0, 0))) ∧ Aside0 (Below w.heap.size w w'))
  case atStart => exact ⟨(0), (by first | rfl | (simp; done) | (simp [*]; done)), H', ⟨Nat.le_refl _⟩, ⟨gK BK366.out⟩, ⟨gK BK367.out⟩, ⟨by repeat (first | (with_reducible first | exact HB.out | apply below_alloc | apply pw_below_drewN | apply below_drew1 | refine below_set ?_ GE366.out | refine below_set ?_ GE367.out) | exact HB.out)⟩⟩
  case round =>
   clear H'
   try clear c1
   try clear p2
   try clear c3
   try clear c3b0
   try clear c3b1
   try clear c3b2
   try clear c6
   try clear hcz7_0
   try clear hcz8_0
   try clear hfz7_0
   try clear hfz8_0
   obtain ⟨x16_1, rfl, HA, HK1, BK366, BK367, HB⟩ := hrel
   cases gk with
   | zero => exact absurd HA.out (by simp [laws_sameTreaps.l0])
   | succ k1 =>
    have H := HA.out
    clear HA
    simp only [laws_sameTreaps.l0] at H
    by_cases c9 : x16_1 < (l0_0.length : Int)
    ·
     rw [if_pos c9] at H
     have c9b0 : decide (x16_1 < (l0_0.length : Int)) = true := decide_eq_true c9
     clear c9
     by_cases c10 : 0 ≤ x16_1
     ·
      rw [if_pos c10] at H
      have c10b0 : decide (0 ≤ x16_1) = true := decide_eq_true c10
      clear c10
      by_cases c11 : x16_1 < (l0_0.length : Int)
      ·
       rw [if_pos c11] at H
       have c11b0 : decide (x16_1 < (l0_0.length : Int)) = true := decide_eq_true c11
       clear c11
       by_cases c12 : x16_1 < (l1_0.length : Int)
       ·
        rw [if_pos c12] at H
        have c12b0 : decide (x16_1 < (l1_0.length : Int)) = true := decide_eq_true c12
        clear c12
        by_cases c13 : (!((((rd_T71 l0_0 x16_1).f0).toList) == (((rd_T71 l1_0 x16_1).f0).toList)) || (!((((rd_T71 l0_0 x16_1).f1).toList) == (((rd_T71 l1_0 x16_1).f1).toList)) || (!(((rd_T71 l0_0 x16_1).f2) == ((rd_T71 l1_0 x16_1).f2)) || (!(((rd_T71 l0_0 x16_1).f3) == ((rd_T71 l1_0 x16_1).f3)))))) = true
        ·
         rw [if_pos c13] at H
         have c13b0 : (!((((rd_T71 l0_0 x16_1).f0).toList) == (((rd_T71 l1_0 x16_1).f0).toList)) || (!((((rd_T71 l0_0 x16_1).f1).toList) == (((rd_T71 l1_0 x16_1).f1).toList)) || (!(((rd_T71 l0_0 x16_1).f2) == ((rd_T71 l1_0 x16_1).f2)) || (!(((rd_T71 l0_0 x16_1).f3) == ((rd_T71 l1_0 x16_1).f3)))))) = true := c13
         clear c13
         obtain rfl := Option.some.inj H
         have hnb14 := NB366_367.out
         have hnc14 := NB367_366.out
         have hcz15_0 : wr.cell? ⟨gb366, 0, none⟩ = some (.slice A0_0 l0_0.length c0_0) := (blk_cell BK366.out 0).trans rfl
         have hfz15_0 := blk_frozen BK366.out 0
         have p368 : 0 ≤ (x16_1 : Int) := of_decide_eq_true (by first | (with_reducible assumption) | assumption)
         have q368 : x16_1 < (l0_0.length : Int) := of_decide_eq_true (by first | (with_reducible assumption) | assumption)
         obtain ⟨ad368, e368, hx368_0, hx368_1, hx368_2, hx368_3⟩ := at_T71 HR0_0.out x16_1 p368 q368
         cases e368
         try have hz_hx368_0 := aM hx368_0
         try have hz_hx368_1 := aM hx368_1
         try have hz_hx368_2 := aM hx368_2
         try have hz_hx368_3 := aM hx368_3
         replace hx368_0 := (HB.out.cell (World.block_lt_of_cell? w _ hx368_0)).trans hx368_0
         replace hx368_1 := (HB.out.cell (World.block_lt_of_cell? w _ hx368_1)).trans hx368_1
         replace hx368_2 := (HB.out.cell (World.block_lt_of_cell? w _ hx368_2)).trans hx368_2
         replace hx368_3 := (HB.out.cell (World.block_lt_of_cell? w _ hx368_3)).trans hx368_3
         replace p368 := eq_true p368
         replace q368 := eq_true q368
         have hcz16_0 : wr.cell? ⟨gb367, 0, none⟩ = some (.slice A1_0 l1_0.length c1_0) := (blk_cell BK367.out 0).trans rfl
         have hfz16_0 := blk_frozen BK367.out 0
         have p369 : 0 ≤ (x16_1 : Int) := of_decide_eq_true (by first | (with_reducible assumption) | assumption)
         have q369 : x16_1 < (l1_0.length : Int) := of_decide_eq_true (by first | (with_reducible assumption) | assumption)
         obtain ⟨ad369, e369, hx369_0, hx369_1, hx369_2, hx369_3⟩ := at_T71 HR1_0.out x16_1 p369 q369
         cases e369
         try have hz_hx369_0 := aM hx369_0
         try have hz_hx369_1 := aM hx369_1
         try have hz_hx369_2 := aM hx369_2
         try have hz_hx369_3 := aM hx369_3
         replace hx369_0 := (HB.out.cell (World.block_lt_of_cell? w _ hx369_0)).trans hx369_0
         replace hx369_1 := (HB.out.cell (World.block_lt_of_cell? w _ hx369_1)).trans hx369_1
         replace hx369_2 := (HB.out.cell (World.block_lt_of_cell? w _ hx369_2)).trans hx369_2
         replace hx369_3 := (HB.out.cell (World.block_lt_of_cell? w _ hx369_3)).trans hx369_3
         replace p369 := eq_true p369
         replace q369 := eq_true q369
         go_wp2
         repeat (go_quiet (fail); try go_wp2)
         go_ret
         exact ⟨by first | rfl | (simp [errW_none, errW_some] <;> rfl) | (simp [*, errW_none, errW_some] <;> rfl), by repeat (first | (with_reducible first | exact HB.out | apply below_alloc | apply pw_below_drewN | apply below_drew1 | refine below_set ?_ GE366.out | refine below_set ?_ GE367.out) | exact HB.out)⟩
        ·
         rw [if_neg c13] at H
         have c13b0 : (!((((rd_T71 l0_0 x16_1).f0).toList) == (((rd_T71 l1_0 x16_1).f0).toList)) || (!((((rd_T71 l0_0 x16_1).f1).toList) == (((rd_T71 l1_0 x16_1).f1).toList)) || (!(((rd_T71 l0_0 x16_1).f2) == ((rd_T71 l1_0 x16_1).f2)) || (!(((rd_T71 l0_0 x16_1).f3) == ((rd_T71 l1_0 x16_1).f3)))))) = false := by simpa using c13
         clear c13
         have H' := aM H
         clear H
         have hnb17 := NB366_367.out
         have hnc17 := NB367_366.out
         have hcz18_0 : wr.cell? ⟨gb366, 0, none⟩ = some (.slice A0_0 l0_0.length c0_0) := (blk_cell BK366.out 0).trans rfl
         have hfz18_0 := blk_frozen BK366.out 0
         have p368 : 0 ≤ (x16_1 : Int) := of_decide_eq_true (by first | (with_reducible assumption) | assumption)
         have q368 : x16_1 < (l0_0.length : Int) := of_decide_eq_true (by first | (with_reducible assumption) | assumption)
         obtain ⟨ad368, e368, hx368_0, hx368_1, hx368_2, hx368_3⟩ := at_T71 HR0_0.out x16_1 p368 q368
         cases e368
         try have hz_hx368_0 := aM hx368_0
         try have hz_hx368_1 := aM hx368_1
         try have hz_hx368_2 := aM hx368_2
         try have hz_hx368_3 := aM hx368_3
         replace hx368_0 := (HB.out.cell (World.block_lt_of_cell? w _ hx368_0)).trans hx368_0
         replace hx368_1 := (HB.out.cell (World.block_lt_of_cell? w _ hx368_1)).trans hx368_1
         replace hx368_2 := (HB.out.cell (World.block_lt_of_cell? w _ hx368_2)).trans hx368_2
         replace hx368_3 := (HB.out.cell (World.block_lt_of_cell? w _ hx368_3)).trans hx368_3
         replace p368 := eq_true p368
         replace q368 := eq_true q368
         have hcz19_0 : wr.cell? ⟨gb367, 0, none⟩ = some (.slice A1_0 l1_0.length c1_0) := (blk_cell BK367.out 0).trans rfl
         have hfz19_0 := blk_frozen BK367.out 0
         have p369 : 0 ≤ (x16_1 : Int) := of_decide_eq_true (by first | (with_reducible assumption) | assumption)
         have q369 : x16_1 < (l1_0.length : Int) := of_decide_eq_true (by first | (with_reducible assumption) | assumption)
         obtain ⟨ad369, e369, hx369_0, hx369_1, hx369_2, hx369_3⟩ := at_T71 HR1_0.out x16_1 p369 q369
         cases e369
         try have hz_hx369_0 := aM hx369_0
         try have hz_hx369_1 := aM hx369_1
         try have hz_hx369_2 := aM hx369_2
         try have hz_hx369_3 := aM hx369_3
         replace hx369_0 := (HB.out.cell (World.block_lt_of_cell? w _ hx369_0)).trans hx369_0
         replace hx369_1 := (HB.out.cell (World.block_lt_of_cell? w _ hx369_1)).trans hx369_1
         replace hx369_2 := (HB.out.cell (World.block_lt_of_cell? w _ hx369_2)).trans hx369_2
         replace hx369_3 := (HB.out.cell (World.block_lt_of_cell? w _ hx369_3)).trans hx369_3
         replace p369 := eq_true p369
         replace q369 := eq_true q369
         go_wp2
         repeat (go_quiet (fail); try go_wp2)
         go_roundg k1
         case measure => have := HK1.out; omega
         case rel => exact ⟨(wrap64 (x16_1 + 1)), (by first | rfl | (simp; done) | (simp [*]; done)), H', ⟨by have := HK1.out; omega⟩, ⟨gK BK366.out⟩, ⟨gK BK367.out⟩, ⟨by repeat (first | (with_reducible first | exact HB.out | apply below_alloc | apply pw_below_drewN | apply below_drew1 | refine below_set ?_ GE366.out | refine below_set ?_ GE367.out) | exact HB.out)⟩⟩
       ·
        rw [if_neg c12] at H
        exact absurd H (by simp)
      ·
       rw [if_neg c11] at H
       exact absurd H (by simp)
     ·
      rw [if_neg c10] at H
      exact absurd H (by simp)
    ·
     rw [if_neg c9] at H
     have c9b0 : decide (x16_1 < (l0_0.length : Int)) = false := decide_eq_false c9
     clear c9
     obtain rfl := Option.some.inj H
     go_wp2
     repeat (go_quiet (fail); try go_wp2)
     go_ret
     exact ⟨by first | rfl | (simp [errW_none, errW_some] <;> rfl) | (simp [*, errW_none, errW_some] <;> rfl), by repeat (first | (with_reducible first | exact HB.out | apply below_alloc | apply pw_below_drewN | apply below_drew1 | refine below_set ?_ GE366.out | refine below_set ?_ GE367.out) | exact HB.out)⟩
 ·
  rw [if_neg c3] at H
  have c3b0 : ((l0_0.length : Int) == (l1_0.length : Int)) = false := beq_eq_false_iff_ne.mpr c3
  have c3b1 : ((l0_0.length : Int) != (l1_0.length : Int)) = true := bne_iff_ne.mpr c3
  have c3b2 : (l0_0.length == l1_0.length) = false := by first | simpa using c3 | (simp at c3 ⊢; omega)
  obtain rfl := Option.some.inj H
  go_enter Try.func36, Try.ntmps36
  go_wp2_with (first | ((with_reducible refine gate_dst (N := 2) rfl ?_); refine box_event ?hg (N := 2) ?hd (cs := #[.slice A0_0 l0_0.length c0_0]) (t := 29) ?hr ?_; (case hd => rfl); (case hg => rfl); (case hr => first | (go_simp; done) | (go_simp; rfl)); intro gb366 hg w20 hbox hb; have n0_ := aM (below_step (gB HB.out) hb); have n1_ := aM (hbox); have n2_ := aM ((by rw [hg]; exact (below_size (gB HB.out)) : w.heap.size ≤ gb366)); have n3_ := aM ((by rw [hg]; exact (below_size (gB HB.out)) : w.heap.size ≤ gb366)); clear HB; have HB := n0_; have BK366 := n1_; have GW366 := n2_; have GE366 := n3_; clear n0_ n1_ n2_ n3_; clear hb hbox hg) | ((with_reducible refine gate_dst (N := 3) rfl ?_); refine box_event ?hg (N := 3) ?hd (cs := #[.slice A1_0 l1_0.length c1_0]) (t := 29) ?hr ?_; (case hd => rfl); (case hg => rfl); (case hr => first | (go_simp; done) | (go_simp; rfl)); intro gb367 hg w21 hbox hb; have n0_ := aM (blk_below (g := gb366) (o := .cells #[.slice A0_0 l0_0.length c0_0] 29 (0, 0)) (gK BK366.out) hb); have n1_ := aM (below_step (gB HB.out) hb); have n2_ := aM (hbox); have n3_ := aM ((by rw [hg]; exact (below_size (gB HB.out)) : w.heap.size ≤ gb367)); have n4_ := aM ((by rw [hg]; exact (below_size (gB HB.out)) : w.heap.size ≤ gb367)); have n5_ := aM ((by rw [hg]; exact Nat.ne_of_lt (blk_lt (g := gb366) (o := .cells #[.slice A0_0 l0_0.length c0_0] 29 (0, 0)) (gK BK366.out)) : gb366 ≠ gb367)); have n6_ := aM ((by rw [hg]; exact Nat.ne_of_gt (blk_lt (g := gb366) (o := .cells #[.slice A0_0 l0_0.length c0_0] 29 (0, 0)) (gK BK366.out)) : gb367 ≠ gb366)); clear BK366; clear HB; have BK366 := n0_; have HB := n1_; have BK367 := n2_; have GW367 := n3_; have GE367 := n4_; have NB366_367 := n5_; have NB367_366 := n6_; clear n0_ n1_ n2_ n3_ n4_ n5_ n6_; clear hb hbox hg; have hnb22 := NB366_367.out; have hnc22 := NB367_366.out; have hcz23_0 : w21.cell? ⟨gb366, 0, none⟩ = some (.slice A0_0 l0_0.length c0_0) := (blk_cell BK366.out 0).trans rfl; have hfz23_0 := blk_frozen BK366.out 0; have hcz24_0 : w21.cell? ⟨gb367, 0, none⟩ = some (.slice A1_0 l1_0.length c1_0) := (blk_cell BK367.out 0).trans rfl; have hfz24_0 := blk_frozen BK367.out 0))
  repeat (go_quiet (fail); try go_wp2)
  go_ret
  exact ⟨by first | rfl | (simp [errW_none, errW_some] <;> rfl) | (simp [*, errW_none, errW_some] <;> rfl), by repeat (first | (with_reducible first | exact HB.out | apply below_alloc | apply pw_below_drewN | apply below_drew1 | refine below_set ?_ GE366.out | refine below_set ?_ GE367.out) | exact HB.out)⟩

end Go.Proofs.Ytjknkeipginpcaa.PQ
end

section
namespace Go.Proofs.Ytjknkeipginpcaa.PQ
open Go.RowKit Go.Proofs.YtjknkeipginpcaaW.PrintWords Go.Proofs.YtjknkeipginpcaaW.PrintLast Go.Proofs.YtjknkeipginpcaaW.PrintMore
attribute [local go_sem] max2_int min2_int max_two min_two max_three min_three max_four min_four
set_option linter.unusedVariables false
set_option linter.unusedSimpArgs false

/-- A state of type 89 at block g of W; what its slices lead to came in by w0. -/
def IsS89 (w0 W : World) (g : Nat) (f0 : List Int) (f1 : Int) (f2 : Int) : Prop := ∃ A0 c0, W.heap[g]? = some (.cells #[.slice A0 f0.length c0, .int .i64 f1, .int .u64 f2] 89 (0, 0)) ∧ w0.heap.size ≤ g ∧ Kd.C (Kd.int .u8) w0 A0 f0.length f0
theorem IsS89.grown {w0 W : World} {g : Nat} {f0 : List Int} {f1 : Int} {f2 : Int} {W1 : World} {row : Option Nat} (h : IsS89 w0 W g f0 f1 f2) (hw : W.grownBy W1 row) (hne : some g ≠ row) : IsS89 w0 W1 g f0 f1 f2 := by
 obtain ⟨A0, c0, hb, hg, hr0⟩ := h
 exact ⟨A0, c0, blk_grown hb hw hne, hg, hr0⟩
theorem IsS89.kept {w0 W : World} {g : Nat} {f0 : List Int} {f1 : Int} {f2 : Int} {W1 : World} {S : Nat → Prop} (h : IsS89 w0 W g f0 f1 f2) (hk : Kept W W1 S) (hne : ¬ S g) : IsS89 w0 W1 g f0 f1 f2 := by
 obtain ⟨A0, c0, hb, hg, hr0⟩ := h
 exact ⟨A0, c0, blk_kept hb hk hne, hg, hr0⟩
theorem IsS89.below {w0 W : World} {g : Nat} {f0 : List Int} {f1 : Int} {f2 : Int} {W1 : World} (h : IsS89 w0 W g f0 f1 f2) (hw : Below W.heap.size W W1) : IsS89 w0 W1 g f0 f1 f2 := h.grown (grown_of_below hw none) (by simp)
theorem IsS89.alloc {w0 W : World} {g : Nat} {f0 : List Int} {f1 : Int} {f2 : Int} (h : IsS89 w0 W g f0 f1 f2) (o : Obj) : IsS89 w0 (W.alloc o) g f0 f1 f2 := h.below (below_alloc (Below.refl _ _) o)
theorem IsS89.drewN {w0 W : World} {g : Nat} {f0 : List Int} {f1 : Int} {f2 : Int} (h : IsS89 w0 W g f0 f1 f2) (m : Nat) : IsS89 w0 (W.drewN m) g f0 f1 f2 := h
theorem IsS89.drew {w0 W : World} {g : Nat} {f0 : List Int} {f1 : Int} {f2 : Int} (h : IsS89 w0 W g f0 f1 f2) : IsS89 w0 W.drew g f0 f1 f2 := h
theorem IsS89.at_ {w0 W : World} {g : Nat} {f0 : List Int} {f1 : Int} {f2 : Int} {w' : World} {m : Nat} (hq : W.drewN m = w') (h : IsS89 w0 W g f0 f1 f2) : IsS89 w0 w' g f0 f1 f2 := by subst hq; exact IsS89.drewN h m
theorem IsS89.apart {w0 W : World} {g : Nat} {f0 : List Int} {f1 : Int} {f2 : Int} {α : Type} {d : Kd α} {e : Nat} {base : Nat} {ok : Nat → Prop} {v : Value} {xs : List α} (h : IsS89 w0 W g f0 f1 f2) (ho : d.R e W base ok v xs) (ht : ∀ q, q ∈ e :: d.E → q ≠ 89) : d.R e W base (fun k => ok k ∧ k ≠ g) v xs := by
 obtain ⟨A0, c0, hb, hg, hr0⟩ := h
 exact Kd.R_types ho hb ht
theorem IsS89.own_ne {w0 W : World} {g : Nat} {f0 : List Int} {f1 : Int} {f2 : Int} {α : Type} {d : Kd α} {e : Nat} {base : Nat} {ok : Nat → Prop} {v : Value} {xs : List α} (h : IsS89 w0 W g f0 f1 f2) (ho : d.R e W base ok v xs) (ht : e ≠ 89) : some g ≠ v.ownBlock := by
 obtain ⟨A0, c0, hb, hg, hr0⟩ := h
 exact Kd.R_ne ho hb ht
theorem IsS89.lt {w0 W : World} {g : Nat} {f0 : List Int} {f1 : Int} {f2 : Int} (h : IsS89 w0 W g f0 f1 f2) : g < W.heap.size := by
 obtain ⟨A0, c0, hb, hg, hr0⟩ := h
 exact blk_lt hb
theorem IsS89.ge {w0 W : World} {g : Nat} {f0 : List Int} {f1 : Int} {f2 : Int} (h : IsS89 w0 W g f0 f1 f2) : w0.heap.size ≤ g := by
 obtain ⟨A0, c0, hb, hg, hr0⟩ := h
 exact hg
theorem IsS89.ne_blk {w0 W : World} {g : Nat} {f0 : List Int} {f1 : Int} {f2 : Int} {a : Nat} {cs : Array Value} {t : TypeId} {fr : Nat × Nat} (h : IsS89 w0 W g f0 f1 f2) (hb2 : W.heap[a]? = some (.cells cs t fr)) (ht : t ≠ 89) : g ≠ a := by
 obtain ⟨A0, c0, hb, hg, hr0⟩ := h
 rintro rfl
 rw [hb] at hb2
 injection hb2 with hb2
 injection hb2 with _ ht2
 exact ht ht2.symm
theorem IsS89.far {w0 W : World} {g : Nat} {f0 : List Int} {f1 : Int} {f2 : Int} {p : Addr} (h : IsS89 w0 W g f0 f1 f2) (hne : g ≠ p.block) (u : Value) : IsS89 w0 (W.setCell p u) g f0 f1 f2 := by
 obtain ⟨A0, c0, hb, hg, hr0⟩ := h
 exact ⟨A0, c0, blk_far hb hne u, hg, hr0⟩
theorem cellS89_0 {W : World} {g : Nat} {A0 : Option Addr} {c0 : Nat} {f0 : List Int} {f1 : Int} {f2 : Int} (h : W.heap[g]? = some (.cells #[.slice A0 f0.length c0, .int .i64 f1, .int .u64 f2] 89 (0, 0))) : W.cell? ⟨g, 0, none⟩ = some (.slice A0 f0.length c0) := (blk_cell h 0).trans rfl
theorem cellS89_1 {W : World} {g : Nat} {A0 : Option Addr} {c0 : Nat} {f0 : List Int} {f1 : Int} {f2 : Int} (h : W.heap[g]? = some (.cells #[.slice A0 f0.length c0, .int .i64 f1, .int .u64 f2] 89 (0, 0))) : W.cell? ⟨g, 1, none⟩ = some (.int .i64 f1) := (blk_cell h 1).trans rfl
theorem IsS89.set_1 {w0 W : World} {g : Nat} {f0 : List Int} {f1 : Int} {f2 : Int} (h : IsS89 w0 W g f0 f1 f2) (x : Int) : IsS89 w0 (W.setCell ⟨g, 1, none⟩ (.int .i64 x)) g f0 x f2 := by
 obtain ⟨A0, c0, hb, hg, hr0⟩ := h
 exact ⟨A0, c0, by simpa using blk_set hb 1 (.int .i64 x), hg, hr0⟩
theorem cellS89_2 {W : World} {g : Nat} {A0 : Option Addr} {c0 : Nat} {f0 : List Int} {f1 : Int} {f2 : Int} (h : W.heap[g]? = some (.cells #[.slice A0 f0.length c0, .int .i64 f1, .int .u64 f2] 89 (0, 0))) : W.cell? ⟨g, 2, none⟩ = some (.int .u64 f2) := (blk_cell h 2).trans rfl
theorem IsS89.set_2 {w0 W : World} {g : Nat} {f0 : List Int} {f1 : Int} {f2 : Int} (h : IsS89 w0 W g f0 f1 f2) (x : Int) : IsS89 w0 (W.setCell ⟨g, 2, none⟩ (.int .u64 x)) g f0 f1 x := by
 obtain ⟨A0, c0, hb, hg, hr0⟩ := h
 exact ⟨A0, c0, by simpa using blk_set hb 2 (.int .u64 x), hg, hr0⟩
theorem IsS89.new (w0 W : World) (A0 : Option Addr) (c0 : Nat) (f0 : List Int) (f1 : Int) (f2 : Int) (hB : Below w0.heap.size w0 W) (hr0 : Kd.C (Kd.int .u8) w0 A0 f0.length f0) : IsS89 w0 (W.alloc (.cells #[.slice A0 f0.length c0, .int .i64 f1, .int .u64 f2] 89)) W.heap.size f0 f1 f2 := ⟨A0, c0, by simpa using heap_alloc_new W _, hB.size, hr0⟩

def spec_l1Cur_next.f (s0_0 : List Int) (s0_1 : Int) (s0_2 : Int) : Option (Int × Int × Int) := if s0_1 < (s0_0.length : Int) then (if 0 ≤ s0_1 then (if (wrap64 (s0_1 + 1)) ≤ (s0_0.length : Int) then (some (wrap64 (rd s0_0 s0_1), wrap64 (s0_1 + 1), IntKind.u64.wrap ((IntKind.u64.wrap ((IntKind.u64.wrap (s0_2 * 6364136223846793005)) + (IntKind.u64.wrap (wrap64 (rd s0_0 s0_1))))) + 1442695040888963407))) else (some (wrap64 (Go.bits .and .u64 ((IntKind.u64.wrap ((IntKind.u64.wrap ((IntKind.u64.wrap (s0_2 * 6364136223846793005)) + (IntKind.u64.wrap (wrap64 (rd s0_0 s0_1))))) + 1442695040888963407)) / 1099511627776) 255), wrap64 (s0_1 + 1), IntKind.u64.wrap ((IntKind.u64.wrap ((IntKind.u64.wrap (s0_2 * 6364136223846793005)) + (IntKind.u64.wrap (wrap64 (rd s0_0 s0_1))))) + 1442695040888963407)))) else (none)) else (if (wrap64 (s0_1 + 1)) ≤ (s0_0.length : Int) then (some (0, wrap64 (s0_1 + 1), IntKind.u64.wrap ((IntKind.u64.wrap ((IntKind.u64.wrap (s0_2 * 6364136223846793005)))) + 1442695040888963407))) else (some (wrap64 (Go.bits .and .u64 ((IntKind.u64.wrap ((IntKind.u64.wrap ((IntKind.u64.wrap (s0_2 * 6364136223846793005)))) + 1442695040888963407)) / 1099511627776) 255), wrap64 (s0_1 + 1), IntKind.u64.wrap ((IntKind.u64.wrap ((IntKind.u64.wrap (s0_2 * 6364136223846793005)))) + 1442695040888963407))))
set_option maxHeartbeats 8000000 in
set_option maxRecDepth 100000 in
theorem spec_l1Cur_next.calls (g : Nat) (s0_0 : List Int) (s0_1 : Int) (s0_2 : Int) (r1 : Int) (r2 : Int) (r3 : Int) (w0 w : World) (hI : IsS89 w0 w g s0_0 s0_1 s0_2) (hB : Below w0.heap.size w0 w) (h : spec_l1Cur_next.f s0_0 s0_1 s0_2 = some (r1, r2, r3)) :
  Calls Try.prog 90 #[.pointer (some ⟨g, 0, none⟩)] w fun e w' => e = .returned (.int .i64 r1) ∧ IsS89 w0 w' g s0_0 r2 r3 ∧ Below w0.heap.size w0 w' ∧ KeepBut w w' g none := by
 have HI0 := aM hI
 have HK := aM (KeepBut.refl w g none)
 have HL := aM hB.size
 clear hI
 have HW0 := aM hB.size
 have HB := aM hB
 clear hB
 have H : (if s0_1 < (s0_0.length : Int) then (if 0 ≤ s0_1 then (if (wrap64 (s0_1 + 1)) ≤ (s0_0.length : Int) then (some (wrap64 (rd s0_0 s0_1), wrap64 (s0_1 + 1), IntKind.u64.wrap ((IntKind.u64.wrap ((IntKind.u64.wrap (s0_2 * 6364136223846793005)) + (IntKind.u64.wrap (wrap64 (rd s0_0 s0_1))))) + 1442695040888963407))) else (some (wrap64 (Go.bits .and .u64 ((IntKind.u64.wrap ((IntKind.u64.wrap ((IntKind.u64.wrap (s0_2 * 6364136223846793005)) + (IntKind.u64.wrap (wrap64 (rd s0_0 s0_1))))) + 1442695040888963407)) / 1099511627776) 255), wrap64 (s0_1 + 1), IntKind.u64.wrap ((IntKind.u64.wrap ((IntKind.u64.wrap (s0_2 * 6364136223846793005)) + (IntKind.u64.wrap (wrap64 (rd s0_0 s0_1))))) + 1442695040888963407)))) else (none)) else (if (wrap64 (s0_1 + 1)) ≤ (s0_0.length : Int) then (some (0, wrap64 (s0_1 + 1), IntKind.u64.wrap ((IntKind.u64.wrap ((IntKind.u64.wrap (s0_2 * 6364136223846793005)))) + 1442695040888963407))) else (some (wrap64 (Go.bits .and .u64 ((IntKind.u64.wrap ((IntKind.u64.wrap ((IntKind.u64.wrap (s0_2 * 6364136223846793005)))) + 1442695040888963407)) / 1099511627776) 255), wrap64 (s0_1 + 1), IntKind.u64.wrap ((IntKind.u64.wrap ((IntKind.u64.wrap (s0_2 * 6364136223846793005)))) + 1442695040888963407))))) = some (r1, r2, r3) := h
 clear h
 by_cases c2 : s0_1 < (s0_0.length : Int)
 ·
  rw [if_pos c2] at H
  have c2b0 : decide (s0_1 < (s0_0.length : Int)) = true := decide_eq_true c2
  clear c2
  by_cases c3 : 0 ≤ s0_1
  ·
   rw [if_pos c3] at H
   have c3b0 : decide (0 ≤ s0_1) = true := decide_eq_true c3
   clear c3
   by_cases c4 : (wrap64 (s0_1 + 1)) ≤ (s0_0.length : Int)
   ·
    rw [if_pos c4] at H
    have c4b0 : decide ((wrap64 (s0_1 + 1)) ≤ (s0_0.length : Int)) = true := decide_eq_true c4
    clear c4
    simp only [Option.some.injEq, Prod.mk.injEq] at H
    obtain ⟨rfl, rfl, rfl⟩ := H
    obtain ⟨ASz5_0, cSz5_0, HGz5, hgz5, HSz5_0⟩ := HI0.out
    have hcz5_0 := cellS89_0 HGz5
    have hcz5_1 := cellS89_1 HGz5
    have hcz5_2 := cellS89_2 HGz5
    have hfz5_1 := blk_frozen HGz5 1
    have hfz5_2 := blk_frozen HGz5 2
    clear HGz5 hgz5
    have p370 : 0 ≤ (s0_1 : Int) := of_decide_eq_true (by first | (with_reducible assumption) | assumption)
    have q370 : s0_1 < (s0_0.length : Int) := of_decide_eq_true (by first | (with_reducible assumption) | assumption)
    obtain ⟨ad370, e370, hx370_0⟩ := Kd.at_int HSz5_0 s0_1 p370 q370
    cases e370
    replace hx370_0 := pw_cell_below HB.out hx370_0
    replace p370 := eq_true p370
    replace q370 := eq_true q370
    go_enter Try.func90, Try.ntmps90
    go_wp2
    repeat (go_quiet (fail); try go_wp2)
    go_ret
    exact ⟨by first | rfl | (simp [errW_none, errW_some] <;> rfl) | (simp [*, errW_none, errW_some] <;> rfl), by repeat (first | (with_reducible first | exact HI0.out | apply IsS89.alloc | apply IsS89.drewN | apply IsS89.drew | apply IsS89.set_1 | apply IsS89.set_2) | exact HI0.out), by repeat (first | (with_reducible first | exact HB.out | apply below_alloc | apply pw_below_drewN | apply below_drew1 | refine below_set ?_ (IsS89.ge HI0.out)) | exact HB.out), by repeat (first | (with_reducible first | exact HK.out | apply KeepBut.set_ | apply keep_drewN | apply keep_drew | apply keep_alloc) | exact HK.out)⟩
   ·
    rw [if_neg c4] at H
    have c4b0 : decide ((wrap64 (s0_1 + 1)) ≤ (s0_0.length : Int)) = false := decide_eq_false c4
    clear c4
    simp only [Option.some.injEq, Prod.mk.injEq] at H
    obtain ⟨rfl, rfl, rfl⟩ := H
    obtain ⟨ASz6_0, cSz6_0, HGz6, hgz6, HSz6_0⟩ := HI0.out
    have hcz6_0 := cellS89_0 HGz6
    have hcz6_1 := cellS89_1 HGz6
    have hcz6_2 := cellS89_2 HGz6
    have hfz6_1 := blk_frozen HGz6 1
    have hfz6_2 := blk_frozen HGz6 2
    clear HGz6 hgz6
    have p370 : 0 ≤ (s0_1 : Int) := of_decide_eq_true (by first | (with_reducible assumption) | assumption)
    have q370 : s0_1 < (s0_0.length : Int) := of_decide_eq_true (by first | (with_reducible assumption) | assumption)
    obtain ⟨ad370, e370, hx370_0⟩ := Kd.at_int HSz6_0 s0_1 p370 q370
    cases e370
    replace hx370_0 := pw_cell_below HB.out hx370_0
    replace p370 := eq_true p370
    replace q370 := eq_true q370
    go_enter Try.func90, Try.ntmps90
    go_wp2
    repeat (go_quiet (fail); try go_wp2)
    go_ret
    exact ⟨by first | rfl | (simp [errW_none, errW_some] <;> rfl) | (simp [*, errW_none, errW_some] <;> rfl), by repeat (first | (with_reducible first | exact HI0.out | apply IsS89.alloc | apply IsS89.drewN | apply IsS89.drew | apply IsS89.set_1 | apply IsS89.set_2) | exact HI0.out), by repeat (first | (with_reducible first | exact HB.out | apply below_alloc | apply pw_below_drewN | apply below_drew1 | refine below_set ?_ (IsS89.ge HI0.out)) | exact HB.out), by repeat (first | (with_reducible first | exact HK.out | apply KeepBut.set_ | apply keep_drewN | apply keep_drew | apply keep_alloc) | exact HK.out)⟩
  ·
   rw [if_neg c3] at H
   exact absurd H (by simp)
 ·
  rw [if_neg c2] at H
  have c2b0 : decide (s0_1 < (s0_0.length : Int)) = false := decide_eq_false c2
  clear c2
  by_cases c7 : (wrap64 (s0_1 + 1)) ≤ (s0_0.length : Int)
  ·
   rw [if_pos c7] at H
   have c7b0 : decide ((wrap64 (s0_1 + 1)) ≤ (s0_0.length : Int)) = true := decide_eq_true c7
   clear c7
   simp only [Option.some.injEq, Prod.mk.injEq] at H
   obtain ⟨rfl, rfl, rfl⟩ := H
   obtain ⟨ASz8_0, cSz8_0, HGz8, hgz8, HSz8_0⟩ := HI0.out
   have hcz8_0 := cellS89_0 HGz8
   have hcz8_1 := cellS89_1 HGz8
   have hcz8_2 := cellS89_2 HGz8
   have hfz8_1 := blk_frozen HGz8 1
   have hfz8_2 := blk_frozen HGz8 2
   clear HGz8 hgz8
   go_enter Try.func90, Try.ntmps90
   go_wp2
   repeat (go_quiet (fail); try go_wp2)
   go_ret
   exact ⟨by first | rfl | (simp [errW_none, errW_some] <;> rfl) | (simp [*, errW_none, errW_some] <;> rfl), by repeat (first | (with_reducible first | exact HI0.out | apply IsS89.alloc | apply IsS89.drewN | apply IsS89.drew | apply IsS89.set_1 | apply IsS89.set_2) | exact HI0.out), by repeat (first | (with_reducible first | exact HB.out | apply below_alloc | apply pw_below_drewN | apply below_drew1 | refine below_set ?_ (IsS89.ge HI0.out)) | exact HB.out), by repeat (first | (with_reducible first | exact HK.out | apply KeepBut.set_ | apply keep_drewN | apply keep_drew | apply keep_alloc) | exact HK.out)⟩
  ·
   rw [if_neg c7] at H
   have c7b0 : decide ((wrap64 (s0_1 + 1)) ≤ (s0_0.length : Int)) = false := decide_eq_false c7
   clear c7
   simp only [Option.some.injEq, Prod.mk.injEq] at H
   obtain ⟨rfl, rfl, rfl⟩ := H
   obtain ⟨ASz9_0, cSz9_0, HGz9, hgz9, HSz9_0⟩ := HI0.out
   have hcz9_0 := cellS89_0 HGz9
   have hcz9_1 := cellS89_1 HGz9
   have hcz9_2 := cellS89_2 HGz9
   have hfz9_1 := blk_frozen HGz9 1
   have hfz9_2 := blk_frozen HGz9 2
   clear HGz9 hgz9
   go_enter Try.func90, Try.ntmps90
   go_wp2
   repeat (go_quiet (fail); try go_wp2)
   go_ret
   exact ⟨by first | rfl | (simp [errW_none, errW_some] <;> rfl) | (simp [*, errW_none, errW_some] <;> rfl), by repeat (first | (with_reducible first | exact HI0.out | apply IsS89.alloc | apply IsS89.drewN | apply IsS89.drew | apply IsS89.set_1 | apply IsS89.set_2) | exact HI0.out), by repeat (first | (with_reducible first | exact HB.out | apply below_alloc | apply pw_below_drewN | apply below_drew1 | refine below_set ?_ (IsS89.ge HI0.out)) | exact HB.out), by repeat (first | (with_reducible first | exact HK.out | apply KeepBut.set_ | apply keep_drewN | apply keep_drew | apply keep_alloc) | exact HK.out)⟩

def spec_l1Cur_pick.f (s0_0 : List Int) (s0_1 : Int) (s0_2 : Int) (a1 : Int) : Option (Int × Int × Int) := if a1 ≤ 1 then (some (0, s0_1, s0_2)) else ((spec_l1Cur_next.f s0_0 s0_1 s0_2).bind fun bt371 => (if a1 > 200 then ((spec_l1Cur_next.f s0_0 bt371.2.1 bt371.2.2).bind fun bt374 => (if a1 = 0 then (none) else (some (Int.tmod (wrap64 ((wrap64 (bt371.1 * 256)) + bt374.1)) a1, bt374.2.1, bt374.2.2)))) else (if a1 = 0 then (none) else (some (Int.tmod bt371.1 a1, bt371.2.1, bt371.2.2)))))
set_option maxHeartbeats 8000000 in
set_option maxRecDepth 100000 in
theorem spec_l1Cur_pick.calls (g : Nat) (s0_0 : List Int) (s0_1 : Int) (s0_2 : Int) (a1 : Int) (r1 : Int) (r2 : Int) (r3 : Int) (w0 w : World) (hI : IsS89 w0 w g s0_0 s0_1 s0_2) (hB : Below w0.heap.size w0 w) (h : spec_l1Cur_pick.f s0_0 s0_1 s0_2 a1 = some (r1, r2, r3)) :
  Calls Try.prog 83 #[.pointer (some ⟨g, 0, none⟩), .int .i64 a1] w fun e w' => e = .returned (.int .i64 r1) ∧ IsS89 w0 w' g s0_0 r2 r3 ∧ Below w0.heap.size w0 w' ∧ KeepBut w w' g none := by
 have HI0 := aM hI
 have HK := aM (KeepBut.refl w g none)
 have HL := aM hB.size
 clear hI
 have HW0 := aM hB.size
 have HB := aM hB
 clear hB
 have H : (if a1 ≤ 1 then (some (0, s0_1, s0_2)) else ((spec_l1Cur_next.f s0_0 s0_1 s0_2).bind fun bt371 => (if a1 > 200 then ((spec_l1Cur_next.f s0_0 bt371.2.1 bt371.2.2).bind fun bt374 => (if a1 = 0 then (none) else (some (Int.tmod (wrap64 ((wrap64 (bt371.1 * 256)) + bt374.1)) a1, bt374.2.1, bt374.2.2)))) else (if a1 = 0 then (none) else (some (Int.tmod bt371.1 a1, bt371.2.1, bt371.2.2)))))) = some (r1, r2, r3) := h
 clear h
 by_cases c3 : a1 ≤ 1
 ·
  rw [if_pos c3] at H
  have c3b0 : decide (a1 ≤ 1) = true := decide_eq_true c3
  clear c3
  simp only [Option.some.injEq, Prod.mk.injEq] at H
  obtain ⟨rfl, rfl, rfl⟩ := H
  go_enter Try.func83, Try.ntmps83
  go_wp2
  go_ret
  exact ⟨by first | rfl | (simp [errW_none, errW_some] <;> rfl) | (simp [*, errW_none, errW_some] <;> rfl), by repeat (first | (with_reducible first | exact HI0.out | apply IsS89.alloc | apply IsS89.drewN | apply IsS89.drew | apply IsS89.set_1 | apply IsS89.set_2) | exact HI0.out), by repeat (first | (with_reducible first | exact HB.out | apply below_alloc | apply pw_below_drewN | apply below_drew1 | refine below_set ?_ (IsS89.ge HI0.out)) | exact HB.out), by repeat (first | (with_reducible first | exact HK.out | apply KeepBut.set_ | apply keep_drewN | apply keep_drew | apply keep_alloc) | exact HK.out)⟩
 ·
  rw [if_neg c3] at H
  have c3b0 : decide (a1 ≤ 1) = false := decide_eq_false c3
  clear c3
  replace H := Option.bind_eq_some_iff.mp H
  obtain ⟨⟨t371, t372, t373⟩, A40, H⟩ := H
  replace H : (if a1 > 200 then ((spec_l1Cur_next.f s0_0 t372 t373).bind fun bt374 => (if a1 = 0 then (none) else (some (Int.tmod (wrap64 ((wrap64 (t371 * 256)) + bt374.1)) a1, bt374.2.1, bt374.2.2)))) else (if a1 = 0 then (none) else (some (Int.tmod t371 a1, t372, t373)))) = some (r1, r2, r3) := H
  have A4 := aM A40
  clear A40
  by_cases c5 : a1 > 200
  ·
   rw [if_pos c5] at H
   have c5b0 : decide (200 < a1) = true := decide_eq_true c5
   clear c5
   replace H := Option.bind_eq_some_iff.mp H
   obtain ⟨⟨t374, t375, t376⟩, A60, H⟩ := H
   replace H : (if a1 = 0 then (none) else (some (Int.tmod (wrap64 ((wrap64 (t371 * 256)) + t374)) a1, t375, t376))) = some (r1, r2, r3) := H
   have A6 := aM A60
   clear A60
   by_cases c7 : a1 = 0
   ·
    rw [if_pos c7] at H
    exact absurd H (by simp)
   ·
    rw [if_neg c7] at H
    have c7b0 : (a1 == 0) = false := beq_eq_false_iff_ne.mpr c7
    have c7b1 : (a1 != 0) = true := bne_iff_ne.mpr c7
    simp only [Option.some.injEq, Prod.mk.injEq] at H
    obtain ⟨rfl, rfl, rfl⟩ := H
    go_enter Try.func83, Try.ntmps83
    go_wp2_with (first | ((with_reducible refine gate_callee (f := 90) rfl ?_); refine goesL_ (some 9) rfl rfl Try.func90 (by kernel_rfl) rfl #[.pointer (some ⟨g, 0, none⟩)] rfl (by (try simp only [List.map_toArray, List.map_cons, List.map_nil]); first | done | rfl | (simp only [List.length_drop, List.length_take]; rfl)) ?_; (with_reducible refine (spec_l1Cur_next.calls g s0_0 s0_1 s0_2 t371 t372 t373 w0 _ ?side1 ?side2 A4.out).mono ?_); (case side1 => repeat (first | (with_reducible first | exact HI0.out | apply IsS89.alloc | apply IsS89.drewN | apply IsS89.drew | apply IsS89.set_1 | apply IsS89.set_2) | exact HI0.out)); (case side2 => repeat (first | (with_reducible first | exact HB.out | apply below_alloc | apply pw_below_drewN | apply below_drew1 | refine below_set ?_ (IsS89.ge HI0.out)) | exact HB.out)); rintro e w8 ⟨rfl, hi, hb, hk⟩; refine ⟨_, rfl, ?_⟩; have n0_ := aM (KeepBut.trans (by repeat (first | (with_reducible first | exact HK.out | apply KeepBut.set_ | apply keep_drewN | apply keep_drew | apply keep_alloc) | exact HK.out)) hk (.inl rfl)); have n1_ := aM (hb); have n2_ := aM (hi); clear HK; clear HB; clear HI0; have HK := n0_; have HB := n1_; have HI0 := n2_; clear n0_ n1_ n2_; (try clear hb); (try clear hb2); (try clear hk); (try clear hi)) | ((with_reducible refine gate_callee (f := 90) rfl ?_); refine goesL_ (some 15) rfl rfl Try.func90 (by kernel_rfl) rfl #[.pointer (some ⟨g, 0, none⟩)] rfl (by (try simp only [List.map_toArray, List.map_cons, List.map_nil]); first | done | rfl | (simp only [List.length_drop, List.length_take]; rfl)) ?_; (with_reducible refine (spec_l1Cur_next.calls g s0_0 t372 t373 t374 t375 t376 w0 _ ?side1 ?side2 A6.out).mono ?_); (case side1 => repeat (first | (with_reducible first | exact HI0.out | apply IsS89.alloc | apply IsS89.drewN | apply IsS89.drew | apply IsS89.set_1 | apply IsS89.set_2) | exact HI0.out)); (case side2 => repeat (first | (with_reducible first | exact HB.out | apply below_alloc | apply pw_below_drewN | apply below_drew1 | refine below_set ?_ (IsS89.ge HI0.out)) | exact HB.out)); rintro e w9 ⟨rfl, hi, hb, hk⟩; refine ⟨_, rfl, ?_⟩; have n0_ := aM (KeepBut.trans (by repeat (first | (with_reducible first | exact HK.out | apply KeepBut.set_ | apply keep_drewN | apply keep_drew | apply keep_alloc) | exact HK.out)) hk (.inl rfl)); have n1_ := aM (hb); have n2_ := aM (hi); clear HK; clear HB; clear HI0; have HK := n0_; have HB := n1_; have HI0 := n2_; clear n0_ n1_ n2_; (try clear hb); (try clear hb2); (try clear hk); (try clear hi)))
    go_ret
    exact ⟨by first | rfl | (simp [errW_none, errW_some] <;> rfl) | (simp [*, errW_none, errW_some] <;> rfl), by repeat (first | (with_reducible first | exact HI0.out | apply IsS89.alloc | apply IsS89.drewN | apply IsS89.drew | apply IsS89.set_1 | apply IsS89.set_2) | exact HI0.out), by repeat (first | (with_reducible first | exact HB.out | apply below_alloc | apply pw_below_drewN | apply below_drew1 | refine below_set ?_ (IsS89.ge HI0.out)) | exact HB.out), by repeat (first | (with_reducible first | exact HK.out | apply KeepBut.set_ | apply keep_drewN | apply keep_drew | apply keep_alloc) | exact HK.out)⟩
  ·
   rw [if_neg c5] at H
   have c5b0 : decide (200 < a1) = false := decide_eq_false c5
   clear c5
   by_cases c10 : a1 = 0
   ·
    rw [if_pos c10] at H
    exact absurd H (by simp)
   ·
    rw [if_neg c10] at H
    have c10b0 : (a1 == 0) = false := beq_eq_false_iff_ne.mpr c10
    have c10b1 : (a1 != 0) = true := bne_iff_ne.mpr c10
    simp only [Option.some.injEq, Prod.mk.injEq] at H
    obtain ⟨rfl, rfl, rfl⟩ := H
    go_enter Try.func83, Try.ntmps83
    go_wp2_with (((with_reducible refine gate_callee (f := 90) rfl ?_); refine goesL_ (some 9) rfl rfl Try.func90 (by kernel_rfl) rfl #[.pointer (some ⟨g, 0, none⟩)] rfl (by (try simp only [List.map_toArray, List.map_cons, List.map_nil]); first | done | rfl | (simp only [List.length_drop, List.length_take]; rfl)) ?_; (with_reducible refine (spec_l1Cur_next.calls g s0_0 s0_1 s0_2 t371 t372 t373 w0 _ ?side1 ?side2 A4.out).mono ?_); (case side1 => repeat (first | (with_reducible first | exact HI0.out | apply IsS89.alloc | apply IsS89.drewN | apply IsS89.drew | apply IsS89.set_1 | apply IsS89.set_2) | exact HI0.out)); (case side2 => repeat (first | (with_reducible first | exact HB.out | apply below_alloc | apply pw_below_drewN | apply below_drew1 | refine below_set ?_ (IsS89.ge HI0.out)) | exact HB.out)); rintro e w11 ⟨rfl, hi, hb, hk⟩; refine ⟨_, rfl, ?_⟩; have n0_ := aM (KeepBut.trans (by repeat (first | (with_reducible first | exact HK.out | apply KeepBut.set_ | apply keep_drewN | apply keep_drew | apply keep_alloc) | exact HK.out)) hk (.inl rfl)); have n1_ := aM (hb); have n2_ := aM (hi); clear HK; clear HB; clear HI0; have HK := n0_; have HB := n1_; have HI0 := n2_; clear n0_ n1_ n2_; (try clear hb); (try clear hb2); (try clear hk); (try clear hi)))
    go_ret
    exact ⟨by first | rfl | (simp [errW_none, errW_some] <;> rfl) | (simp [*, errW_none, errW_some] <;> rfl), by repeat (first | (with_reducible first | exact HI0.out | apply IsS89.alloc | apply IsS89.drewN | apply IsS89.drew | apply IsS89.set_1 | apply IsS89.set_2) | exact HI0.out), by repeat (first | (with_reducible first | exact HB.out | apply below_alloc | apply pw_below_drewN | apply below_drew1 | refine below_set ?_ (IsS89.ge HI0.out)) | exact HB.out), by repeat (first | (with_reducible first | exact HK.out | apply KeepBut.set_ | apply keep_drewN | apply keep_drew | apply keep_alloc) | exact HK.out)⟩

def spec_l1Cur_one.f (s0_0 : List Int) (s0_1 : Int) (s0_2 : Int) (a1 : Int) : Option (Bool × Int × Int) := (spec_l1Cur_pick.f s0_0 s0_1 s0_2 a1).bind fun bt393 => (some ((bt393.1 == 0), bt393.2.1, bt393.2.2))
set_option maxHeartbeats 8000000 in
set_option maxRecDepth 100000 in
theorem spec_l1Cur_one.calls (g : Nat) (s0_0 : List Int) (s0_1 : Int) (s0_2 : Int) (a1 : Int) (r1 : Bool) (r2 : Int) (r3 : Int) (w0 w : World) (hI : IsS89 w0 w g s0_0 s0_1 s0_2) (hB : Below w0.heap.size w0 w) (h : spec_l1Cur_one.f s0_0 s0_1 s0_2 a1 = some (r1, r2, r3)) :
  Calls Try.prog 66 #[.pointer (some ⟨g, 0, none⟩), .int .i64 a1] w fun e w' => e = .returned (.bool r1) ∧ IsS89 w0 w' g s0_0 r2 r3 ∧ Below w0.heap.size w0 w' ∧ KeepBut w w' g none := by
 have HI0 := aM hI
 have HK := aM (KeepBut.refl w g none)
 have HL := aM hB.size
 clear hI
 have HW0 := aM hB.size
 have HB := aM hB
 clear hB
 have H : ((spec_l1Cur_pick.f s0_0 s0_1 s0_2 a1).bind fun bt393 => (some ((bt393.1 == 0), bt393.2.1, bt393.2.2))) = some (r1, r2, r3) := h
 clear h
 replace H := Option.bind_eq_some_iff.mp H
 obtain ⟨⟨t393, t394, t395⟩, A30, H⟩ := H
 replace H : (some ((t393 == 0), t394, t395)) = some (r1, r2, r3) := H
 have A3 := aM A30
 clear A30
 simp only [Option.some.injEq, Prod.mk.injEq] at H
 obtain ⟨rfl, rfl, rfl⟩ := H
 go_enter Try.func66, Try.ntmps66
 go_wp2_with (((with_reducible refine gate_callee (f := 83) rfl ?_); refine goesL_ (some 7) rfl rfl Try.func83 (by kernel_rfl) rfl #[.pointer (some ⟨g, 0, none⟩), .int .i64 a1] rfl (by (try simp only [List.map_toArray, List.map_cons, List.map_nil]); first | done | rfl | (simp only [List.length_drop, List.length_take]; rfl)) ?_; (with_reducible refine (spec_l1Cur_pick.calls g s0_0 s0_1 s0_2 a1 t393 t394 t395 w0 _ ?side1 ?side2 A3.out).mono ?_); (case side1 => repeat (first | (with_reducible first | exact HI0.out | apply IsS89.alloc | apply IsS89.drewN | apply IsS89.drew | apply IsS89.set_1 | apply IsS89.set_2) | exact HI0.out)); (case side2 => repeat (first | (with_reducible first | exact HB.out | apply below_alloc | apply pw_below_drewN | apply below_drew1 | refine below_set ?_ (IsS89.ge HI0.out)) | exact HB.out)); rintro e w4 ⟨rfl, hi, hb, hk⟩; refine ⟨_, rfl, ?_⟩; have n0_ := aM (KeepBut.trans (by repeat (first | (with_reducible first | exact HK.out | apply KeepBut.set_ | apply keep_drewN | apply keep_drew | apply keep_alloc) | exact HK.out)) hk (.inl rfl)); have n1_ := aM (hb); have n2_ := aM (hi); clear HK; clear HB; clear HI0; have HK := n0_; have HB := n1_; have HI0 := n2_; clear n0_ n1_ n2_; (try clear hb); (try clear hb2); (try clear hk); (try clear hi)))
 go_ret
 exact ⟨by first | rfl | (simp [errW_none, errW_some] <;> rfl) | (simp [*, errW_none, errW_some] <;> rfl), by repeat (first | (with_reducible first | exact HI0.out | apply IsS89.alloc | apply IsS89.drewN | apply IsS89.drew | apply IsS89.set_1 | apply IsS89.set_2) | exact HI0.out), by repeat (first | (with_reducible first | exact HB.out | apply below_alloc | apply pw_below_drewN | apply below_drew1 | refine below_set ?_ (IsS89.ge HI0.out)) | exact HB.out), by repeat (first | (with_reducible first | exact HK.out | apply KeepBut.set_ | apply keep_drewN | apply keep_drew | apply keep_alloc) | exact HK.out)⟩

def spec_l1Cur_of.f (s0_0 : List Int) (s0_1 : Int) (s0_2 : Int) (l1 : List ByteArray) : Option (ByteArray × Int × Int) := (spec_l1Cur_pick.f s0_0 s0_1 s0_2 (l1.length : Int)).bind fun bt377 => (if 0 ≤ bt377.1 then (if bt377.1 < (l1.length : Int) then (some (rdOf ByteArray.empty l1 bt377.1, bt377.2.1, bt377.2.2)) else (none)) else (none))
set_option maxHeartbeats 8000000 in
set_option maxRecDepth 100000 in
theorem spec_l1Cur_of.calls (g : Nat) (s0_0 : List Int) (s0_1 : Int) (s0_2 : Int) (A1 : Option Addr) (c1 : Nat) (l1 : List ByteArray) (r1 : ByteArray) (r2 : Int) (r3 : Int) (w0 w : World) (hI : IsS89 w0 w g s0_0 s0_1 s0_2) (hB : Below w0.heap.size w0 w) (hr1 : Kd.C Kd.string w A1 l1.length l1) (hc1 : l1.length ≤ c1) (hf1 : ∀ ad, A1 = some ad → 0 < l1.length → ad.block ≠ g) (h : spec_l1Cur_of.f s0_0 s0_1 s0_2 l1 = some (r1, r2, r3)) :
  Calls Try.prog 67 #[.pointer (some ⟨g, 0, none⟩), .slice A1 l1.length c1] w fun e w' => e = .returned (.string r1) ∧ IsS89 w0 w' g s0_0 r2 r3 ∧ Below w0.heap.size w0 w' ∧ KeepBut w w' g none := by
 have HR1 := aM hr1
 have HC1 := aM hc1
 clear hr1 hc1
 have HI0 := aM hI
 have HK := aM (KeepBut.refl w g none)
 have HL := aM hB.size
 clear hI
 have HW0 := aM hB.size
 have HB := aM hB
 clear hB
 have H : ((spec_l1Cur_pick.f s0_0 s0_1 s0_2 (l1.length : Int)).bind fun bt377 => (if 0 ≤ bt377.1 then (if bt377.1 < (l1.length : Int) then (some (rdOf ByteArray.empty l1 bt377.1, bt377.2.1, bt377.2.2)) else (none)) else (none))) = some (r1, r2, r3) := h
 clear h
 replace H := Option.bind_eq_some_iff.mp H
 obtain ⟨⟨t377, t378, t379⟩, A30, H⟩ := H
 replace H : (if 0 ≤ t377 then (if t377 < (l1.length : Int) then (some (rdOf ByteArray.empty l1 t377, t378, t379)) else (none)) else (none)) = some (r1, r2, r3) := H
 have A3 := aM A30
 clear A30
 by_cases c4 : 0 ≤ t377
 ·
  rw [if_pos c4] at H
  have c4b0 : decide (0 ≤ t377) = true := decide_eq_true c4
  clear c4
  by_cases c5 : t377 < (l1.length : Int)
  ·
   rw [if_pos c5] at H
   have c5b0 : decide (t377 < (l1.length : Int)) = true := decide_eq_true c5
   clear c5
   simp only [Option.some.injEq, Prod.mk.injEq] at H
   obtain ⟨rfl, rfl, rfl⟩ := H
   go_enter Try.func67, Try.ntmps67
   go_wp2_with (((with_reducible refine gate_callee (f := 83) rfl ?_); refine goesL_ (some 9) rfl rfl Try.func83 (by kernel_rfl) rfl #[.pointer (some ⟨g, 0, none⟩), .int .i64 (l1.length : Int)] rfl (by (try simp only [List.map_toArray, List.map_cons, List.map_nil]); first | done | rfl | (simp only [List.length_drop, List.length_take]; rfl)) ?_; (with_reducible refine (spec_l1Cur_pick.calls g s0_0 s0_1 s0_2 (l1.length : Int) t377 t378 t379 w0 _ ?side1 ?side2 A3.out).mono ?_); (case side1 => repeat (first | (with_reducible first | exact HI0.out | apply IsS89.alloc | apply IsS89.drewN | apply IsS89.drew | apply IsS89.set_1 | apply IsS89.set_2) | exact HI0.out)); (case side2 => repeat (first | (with_reducible first | exact HB.out | apply below_alloc | apply pw_below_drewN | apply below_drew1 | refine below_set ?_ (IsS89.ge HI0.out)) | exact HB.out)); rintro e w6 ⟨rfl, hi, hb, hk⟩; refine ⟨_, rfl, ?_⟩; have n0_ := aM (KeepBut.trans (by repeat (first | (with_reducible first | exact HK.out | apply KeepBut.set_ | apply keep_drewN | apply keep_drew | apply keep_alloc) | exact HK.out)) hk (.inl rfl)); have n1_ := aM (hb); have n2_ := aM (hi); clear HK; clear HB; clear HI0; have HK := n0_; have HB := n1_; have HI0 := n2_; clear n0_ n1_ n2_; (try clear hb); (try clear hb2); (try clear hk); (try clear hi); have p380 : 0 ≤ (t377 : Int) := of_decide_eq_true (by first | (with_reducible assumption) | assumption); have q380 : t377 < (l1.length : Int) := of_decide_eq_true (by first | (with_reducible assumption) | assumption); obtain ⟨ad380, e380, hx380_0⟩ := Kd.at_string HR1.out t377 p380 q380; cases e380; replace hx380_0 := keep_cell HK.out hx380_0 (by first | (rw [add_block]; exact hf1 _ rfl (by omega)) | exact hf1 _ rfl (by omega) | exact hf1 ad380 rfl (by omega)); replace p380 := eq_true p380; replace q380 := eq_true q380))
   go_ret
   exact ⟨by first | rfl | (simp [errW_none, errW_some] <;> rfl) | (simp [*, errW_none, errW_some] <;> rfl), by repeat (first | (with_reducible first | exact HI0.out | apply IsS89.alloc | apply IsS89.drewN | apply IsS89.drew | apply IsS89.set_1 | apply IsS89.set_2) | exact HI0.out), by repeat (first | (with_reducible first | exact HB.out | apply below_alloc | apply pw_below_drewN | apply below_drew1 | refine below_set ?_ (IsS89.ge HI0.out)) | exact HB.out), by repeat (first | (with_reducible first | exact HK.out | apply KeepBut.set_ | apply keep_drewN | apply keep_drew | apply keep_alloc) | exact HK.out)⟩
  ·
   rw [if_neg c5] at H
   exact absurd H (by simp)
 ·
  rw [if_neg c4] at H
  exact absurd H (by simp)

end Go.Proofs.Ytjknkeipginpcaa.PQ
end

section
namespace Go.Proofs.Ytjknkeipginpcaa.Cur
set_option linter.unusedVariables false
open Go.RowKit Go.Proofs.Ytjknkeipginpcaa.PQ Go.Proofs.YtjknkeipginpcaaW.PrintWords Go.Proofs.YtjknkeipginpcaaW.PrintLast Go.Proofs.Ytjknkeipginpcaa.Pre
/-- The bytes of the choices are bytes. -/
def Bytes (l : List Int) : Prop := ∀ x ∈ l, 0 ≤ x ∧ x ≤ 255
theorem bytes_wf {l : List Int} (h : ∀ x ∈ l, (Lit.int .u8 x).wf = true) : Bytes l := by
 intro x hx
 have h2 : (decide (IntKind.u8.min ≤ x) && decide (x ≤ IntKind.u8.max)) = true := h x hx
 have e1 : IntKind.u8.min = 0 := by decide
 have e2 : IntKind.u8.max = 255 := by decide
 rw [e1, e2] at h2
 simpa using h2
theorem rd_bytes {l : List Int} (h : Bytes l) (i : Int) : 0 ≤ rd l i ∧ rd l i ≤ 255 := by
 unfold rd
 by_cases hi : i.toNat < l.length
 ·
  have := h _ (List.getElem_mem hi)
  simpa [hi] using this
 ·
  rw [List.getD_eq_getElem?_getD, List.getElem?_eq_none (by omega)]
  simp
theorem and255 (a : Int) : 0 ≤ wrap64 (Go.bits .and .u64 a 255) ∧ wrap64 (Go.bits .and .u64 a 255) ≤ 255 := by
 have h1 : ((BitVec.ofInt 64 a) &&& (BitVec.ofInt 64 255)).toNat ≤ 255 := by
  rw [BitVec.toNat_and]
  have : (BitVec.ofInt 64 255).toNat = 255 := by decide
  rw [this]
  exact Nat.and_le_right
 have h2 : Go.bits .and .u64 a 255 = ((((BitVec.ofInt 64 a) &&& (BitVec.ofInt 64 255)).toNat : Nat) : Int) := by
  show IntKind.u64.wrap _ = _
  show (((((BitVec.ofInt 64 a) &&& (BitVec.ofInt 64 255)).toNat : Nat) : Int)) % 18446744073709551616 = _
  omega
 rw [h2, w64 (by omega) (by omega)]
 omega
theorem next_ev {l : List Int} (h : Bytes l) (at_ : Int) (s : Int) (h0 : 0 ≤ at_) (h1 : at_ ≤ 4611686018427387904) :
  ∃ x s', spec_l1Cur_next.f l at_ s = some (x, at_ + 1, s') ∧ 0 ≤ x ∧ x ≤ 255 := by
 unfold spec_l1Cur_next.f
 rw [w64 (n := at_ + 1) (by omega) (by omega)]
 have hr := rd_bytes h at_
 by_cases hlt : at_ < (l.length : Int)
 ·
  rw [if_pos hlt, if_pos h0]
  by_cases h2 : at_ + 1 ≤ (l.length : Int)
  ·
   rw [if_pos h2, w64 (n := rd l at_) (by omega) (by omega)]
   exact ⟨_, _, rfl, hr.1, hr.2⟩
  ·
   rw [if_neg h2]
   exact ⟨_, _, rfl, (and255 _).1, (and255 _).2⟩
 ·
  rw [if_neg hlt]
  by_cases h2 : at_ + 1 ≤ (l.length : Int)
  ·
   rw [if_pos h2]
   exact ⟨_, _, rfl, by omega, by omega⟩
  ·
   rw [if_neg h2]
   exact ⟨_, _, rfl, (and255 _).1, (and255 _).2⟩
theorem tmod_lt (x n : Int) (h0 : 0 ≤ x) (hn : 0 < n) : 0 ≤ Int.tmod x n ∧ Int.tmod x n < n := by
 rw [Int.tmod_eq_emod_of_nonneg h0]
 exact ⟨Int.emod_nonneg _ (by omega), Int.emod_lt_of_pos _ hn⟩
theorem pick_ev {l : List Int} (h : Bytes l) (at_ : Int) (s n : Int) (h0 : 0 ≤ at_) (h1 : at_ ≤ 4611686018427387900) :
  ∃ x a' s', spec_l1Cur_pick.f l at_ s n = some (x, a', s') ∧ 0 ≤ x ∧ (x < n ∨ x = 0) ∧ at_ ≤ a' ∧ a' ≤ at_ + 2 := by
 unfold spec_l1Cur_pick.f
 by_cases hn : n ≤ 1
 ·
  rw [if_pos hn]
  exact ⟨_, _, _, rfl, by omega, .inr rfl, by omega, by omega⟩
 ·
  rw [if_neg hn]
  obtain ⟨x, s1, e1, hx0, hx1⟩ := next_ev h at_ s h0 (by omega)
  rw [e1]
  by_cases h2 : n > 200
  ·
   obtain ⟨y, s2, e2, hy0, hy1⟩ := next_ev h (at_ + 1) s1 (by omega) (by omega)
   refine ⟨Int.tmod (wrap64 ((wrap64 (x * 256)) + y)) n, at_ + 1 + 1, s2, ?_, ?_, ?_, by omega, by omega⟩
   ·
    show (if n > 200 then _ else _) = _
    rw [if_pos h2]
    show (spec_l1Cur_next.f l (at_ + 1) s1).bind _ = _
    rw [e2]
    show (if n = 0 then _ else _) = _
    rw [if_neg (by omega)]
   ·
    rw [w64 (n := x * 256) (by omega) (by omega), w64 (by omega) (by omega)]
    exact (tmod_lt _ _ (by omega) (by omega)).1
   ·
    left
    rw [w64 (n := x * 256) (by omega) (by omega), w64 (by omega) (by omega)]
    exact (tmod_lt _ _ (by omega) (by omega)).2
  ·
   refine ⟨Int.tmod x n, at_ + 1, s1, ?_, (tmod_lt _ _ hx0 (by omega)).1, .inl (tmod_lt _ _ hx0 (by omega)).2, by omega, by omega⟩
   show (if n > 200 then _ else _) = _
   rw [if_neg h2]
   show (if n = 0 then _ else _) = _
   rw [if_neg (by omega)]
theorem one_ev {l : List Int} (h : Bytes l) (at_ : Int) (s n : Int) (h0 : 0 ≤ at_) (h1 : at_ ≤ 4611686018427387900) :
  ∃ b a' s', spec_l1Cur_one.f l at_ s n = some (b, a', s') ∧ at_ ≤ a' ∧ a' ≤ at_ + 2 := by
 unfold spec_l1Cur_one.f
 obtain ⟨x, a', s', e, _, _, ha, hb⟩ := pick_ev h at_ s n h0 h1
 rw [e]
 exact ⟨_, _, _, rfl, ha, hb⟩
theorem of_ev {l : List Int} (h : Bytes l) (at_ : Int) (s : Int) (xs : List ByteArray) (hx : xs ≠ []) (h0 : 0 ≤ at_) (h1 : at_ ≤ 4611686018427387900) :
  ∃ t a' s', spec_l1Cur_of.f l at_ s xs = some (t, a', s') ∧ t ∈ xs ∧ at_ ≤ a' ∧ a' ≤ at_ + 2 := by
 unfold spec_l1Cur_of.f
 have hl : 0 < xs.length := List.length_pos_iff.2 hx
 obtain ⟨x, a', s', e, hx0, hx1, ha, hb⟩ := pick_ev h at_ s (xs.length : Int) h0 h1
 rw [e]
 refine ⟨rdOf ByteArray.empty xs x, a', s', ?_, ?_, ha, hb⟩
 ·
  show (if 0 ≤ x then _ else _) = _
  rw [if_pos hx0, if_pos (by omega)]
 ·
  have hi : x.toNat < xs.length := by omega
  have e2 : rdOf ByteArray.empty xs x = xs[x.toNat] := by
   unfold rdOf
   simp [hi]
  rw [e2]
  exact List.getElem_mem hi
end Go.Proofs.Ytjknkeipginpcaa.Cur
end

section
namespace Go.Proofs.Ytjknkeipginpcaa.PQ
open Go.RowKit Go.Proofs.YtjknkeipginpcaaW.PrintWords Go.Proofs.YtjknkeipginpcaaW.PrintLast Go.Proofs.YtjknkeipginpcaaW.PrintMore
attribute [local go_sem] max2_int min2_int max_two min_two max_three min_three max_four min_four
set_option linter.unusedVariables false
set_option linter.unusedSimpArgs false
def spec_l1Cur_treapKey.f (s0_0 : List Int) (s0_1 : Int) (s0_2 : Int) : Option (ByteArray × Int × Int) := (spec_l1Cur_of.f s0_0 s0_1 s0_2 (([(⟨#[97]⟩ : ByteArray), (⟨#[98]⟩ : ByteArray), (⟨#[107, 101, 121]⟩ : ByteArray), (⟨#[107, 49]⟩ : ByteArray), (⟨#[107, 50]⟩ : ByteArray), (⟨#[122, 122]⟩ : ByteArray), (⟨#[109]⟩ : ByteArray)] : List ByteArray))).bind fun bt384 => ((spec_l1Cur_of.f s0_0 bt384.2.1 bt384.2.2 (([(⟨#[]⟩ : ByteArray), (⟨#[49]⟩ : ByteArray), (⟨#[120]⟩ : ByteArray), (⟨#[0]⟩ : ByteArray)] : List ByteArray))).bind fun bt390 => (if bt384.1.size + bt390.1.size ≤ 9223372036854775807 then (some (bt384.1 ++ bt390.1, bt390.2.1, bt390.2.2)) else (none)))
set_option maxHeartbeats 8000000 in
set_option maxRecDepth 100000 in
theorem spec_l1Cur_treapKey.calls (g : Nat) (s0_0 : List Int) (s0_1 : Int) (s0_2 : Int) (r1 : ByteArray) (r2 : Int) (r3 : Int) (w0 w : World) (hI : IsS89 w0 w g s0_0 s0_1 s0_2) (hB : Below w0.heap.size w0 w) (h : spec_l1Cur_treapKey.f s0_0 s0_1 s0_2 = some (r1, r2, r3)) :
  Calls Try.prog 65 #[.pointer (some ⟨g, 0, none⟩)] w fun e w' => e = .returned (.string r1) ∧ IsS89 w0 w' g s0_0 r2 r3 ∧ Below w0.heap.size w0 w' ∧ KeepBut w w' g none := by
 have HI0 := aM hI
 have HK := aM (KeepBut.refl w g none)
 have HL := aM hB.size
 clear hI
 have HW0 := aM hB.size
 have HB := aM hB
 clear hB
 have H : ((spec_l1Cur_of.f s0_0 s0_1 s0_2 (([(⟨#[97]⟩ : ByteArray), (⟨#[98]⟩ : ByteArray), (⟨#[107, 101, 121]⟩ : ByteArray), (⟨#[107, 49]⟩ : ByteArray), (⟨#[107, 50]⟩ : ByteArray), (⟨#[122, 122]⟩ : ByteArray), (⟨#[109]⟩ : ByteArray)] : List ByteArray))).bind fun bt384 => ((spec_l1Cur_of.f s0_0 bt384.2.1 bt384.2.2 (([(⟨#[]⟩ : ByteArray), (⟨#[49]⟩ : ByteArray), (⟨#[120]⟩ : ByteArray), (⟨#[0]⟩ : ByteArray)] : List ByteArray))).bind fun bt390 => (if bt384.1.size + bt390.1.size ≤ 9223372036854775807 then (some (bt384.1 ++ bt390.1, bt390.2.1, bt390.2.2)) else (none)))) = some (r1, r2, r3) := h
 clear h
 obtain ⟨y381, hy381⟩ : ∃ y_ : List ByteArray, y_ = (([(⟨#[97]⟩ : ByteArray), (⟨#[98]⟩ : ByteArray), (⟨#[107, 101, 121]⟩ : ByteArray), (⟨#[107, 49]⟩ : ByteArray), (⟨#[107, 50]⟩ : ByteArray), (⟨#[122, 122]⟩ : ByteArray), (⟨#[109]⟩ : ByteArray)] : List ByteArray)) := ⟨_, rfl⟩
 replace H : ((spec_l1Cur_of.f s0_0 s0_1 s0_2 y381).bind fun bt384 => ((spec_l1Cur_of.f s0_0 bt384.2.1 bt384.2.2 (([(⟨#[]⟩ : ByteArray), (⟨#[49]⟩ : ByteArray), (⟨#[120]⟩ : ByteArray), (⟨#[0]⟩ : ByteArray)] : List ByteArray))).bind fun bt390 => (if bt384.1.size + bt390.1.size ≤ 9223372036854775807 then (some (bt384.1 ++ bt390.1, bt390.2.1, bt390.2.2)) else (none)))) = some (r1, r2, r3) := by first | (rw [hy381]; with_reducible exact H) | (have H2_ := (Option.bind_some _ _).symm.trans H; rw [hy381]; with_reducible exact H2_) | (have H2_ := (Option.bind_some _ _).symm.trans H; with_reducible exact H2_) | with_reducible exact H | (rw [hy381]; exact H) | exact H
 have Ny381 := aM hy381
 clear hy381
 replace H := Option.bind_eq_some_iff.mp H
 obtain ⟨⟨t384, t385, t386⟩, A20, H⟩ := H
 replace H : ((spec_l1Cur_of.f s0_0 t385 t386 (([(⟨#[]⟩ : ByteArray), (⟨#[49]⟩ : ByteArray), (⟨#[120]⟩ : ByteArray), (⟨#[0]⟩ : ByteArray)] : List ByteArray))).bind fun bt390 => (if t384.size + bt390.1.size ≤ 9223372036854775807 then (some (t384 ++ bt390.1, bt390.2.1, bt390.2.2)) else (none))) = some (r1, r2, r3) := H
 have A2 := aM A20
 clear A20
 obtain ⟨y387, hy387⟩ : ∃ y_ : List ByteArray, y_ = (([(⟨#[]⟩ : ByteArray), (⟨#[49]⟩ : ByteArray), (⟨#[120]⟩ : ByteArray), (⟨#[0]⟩ : ByteArray)] : List ByteArray)) := ⟨_, rfl⟩
 replace H : ((spec_l1Cur_of.f s0_0 t385 t386 y387).bind fun bt390 => (if t384.size + bt390.1.size ≤ 9223372036854775807 then (some (t384 ++ bt390.1, bt390.2.1, bt390.2.2)) else (none))) = some (r1, r2, r3) := by first | (rw [hy387]; with_reducible exact H) | (have H2_ := (Option.bind_some _ _).symm.trans H; rw [hy387]; with_reducible exact H2_) | (have H2_ := (Option.bind_some _ _).symm.trans H; with_reducible exact H2_) | with_reducible exact H | (rw [hy387]; exact H) | exact H
 have Ny387 := aM hy387
 clear hy387
 replace H := Option.bind_eq_some_iff.mp H
 obtain ⟨⟨t390, t391, t392⟩, A30, H⟩ := H
 replace H : (if t384.size + t390.size ≤ 9223372036854775807 then (some (t384 ++ t390, t391, t392)) else (none)) = some (r1, r2, r3) := H
 have A3 := aM A30
 clear A30
 by_cases c4 : t384.size + t390.size ≤ 9223372036854775807
 ·
  rw [if_pos c4] at H
  have c4b0 := eq_true c4
  have c4b1 : decide (t384.size + t390.size ≤ 9223372036854775807) = true := decide_eq_true c4
  try have c4b2 : (9223372036854775807 < t384.size + t390.size) = False := eq_false (Nat.not_lt.2 c4)
  try have c4b3 := c4b2
  try simp only [ByteArray.size_append] at c4b3
  simp only [Option.some.injEq, Prod.mk.injEq] at H
  obtain ⟨rfl, rfl, rfl⟩ := H
  go_enter Try.func65, Try.ntmps65
  go_wp2_with (first | ((with_reducible refine gate_dst (N := 4) rfl ?_); refine Kd.R_lit Kd.string _ 9 ?hg (N := 4) ?hd (xs := ([(⟨#[97]⟩ : ByteArray), (⟨#[98]⟩ : ByteArray), (⟨#[107, 101, 121]⟩ : ByteArray), (⟨#[107, 49]⟩ : ByteArray), (⟨#[107, 50]⟩ : ByteArray), (⟨#[122, 122]⟩ : ByteArray), (⟨#[109]⟩ : ByteArray)] : List ByteArray)) (inner := [.string (⟨#[97]⟩ : ByteArray), .string (⟨#[98]⟩ : ByteArray), .string (⟨#[107, 101, 121]⟩ : ByteArray), .string (⟨#[107, 49]⟩ : ByteArray), .string (⟨#[107, 50]⟩ : ByteArray), .string (⟨#[122, 122]⟩ : ByteArray), .string (⟨#[109]⟩ : ByteArray)]) (ok := fun _ => True) (okp := fun _ => True) ?hr ?hp (fun _ hk => hk) trivial (Below.refl _ _) (Nat.le_refl _) (by simp) ?_; (case hd => rfl); (case hg => rfl); (case hr => first | (go_simp; done) | (go_simp; rfl)); (case hp => exact (Reps.one (show Kd.M Kd.string _ _ _ (⟨#[97]⟩ : ByteArray) [.string (⟨#[97]⟩ : ByteArray)] from rfl) (Reps.one (show Kd.M Kd.string _ _ _ (⟨#[98]⟩ : ByteArray) [.string (⟨#[98]⟩ : ByteArray)] from rfl) (Reps.one (show Kd.M Kd.string _ _ _ (⟨#[107, 101, 121]⟩ : ByteArray) [.string (⟨#[107, 101, 121]⟩ : ByteArray)] from rfl) (Reps.one (show Kd.M Kd.string _ _ _ (⟨#[107, 49]⟩ : ByteArray) [.string (⟨#[107, 49]⟩ : ByteArray)] from rfl) (Reps.one (show Kd.M Kd.string _ _ _ (⟨#[107, 50]⟩ : ByteArray) [.string (⟨#[107, 50]⟩ : ByteArray)] from rfl) (Reps.one (show Kd.M Kd.string _ _ _ (⟨#[122, 122]⟩ : ByteArray) [.string (⟨#[122, 122]⟩ : ByteArray)] from rfl) (Reps.one (show Kd.M Kd.string _ _ _ (⟨#[109]⟩ : ByteArray) [.string (⟨#[109]⟩ : ByteArray)] from rfl) (Reps.none _ _))))))))); intro v382 w5 ho6 hb hg_ hnew_; clear hg_ hnew_; (first | rw [← Ny381.out] at ho6 | (simp only [Int.reduceToNat] at ho6; rw [← Ny381.out] at ho6)); have n0_ := aM (Kd.R_lower ho6 (keep_size (w := w) (g := g) (row := none) (by repeat (first | (with_reducible first | exact HK.out | apply KeepBut.set_ | apply keep_drewN | apply keep_drew | apply keep_alloc) | exact HK.out)))); have n1_ := aM (IsS89.below (by repeat (first | (with_reducible first | exact HI0.out | apply IsS89.alloc | apply IsS89.drewN | apply IsS89.drew | apply IsS89.set_1 | apply IsS89.set_2) | exact HI0.out)) hb); have n2_ := aM (KeepBut.trans (by repeat (first | (with_reducible first | exact HK.out | apply KeepBut.set_ | apply keep_drewN | apply keep_drew | apply keep_alloc) | exact HK.out)) (KeepBut.of_below hb g none) (.inl rfl)); have n3_ := aM (below_step (gB HB.out) hb); clear HI0; clear HK; clear HB; have HO383 := n0_; have HI0 := n1_; have HK := n2_; have HB := n3_; clear n0_ n1_ n2_ n3_; clear hb ho6; obtain ⟨Ao7, co7, eo7⟩ := Kd.R_slice HO383.out; subst eo7) | ((with_reducible refine gate_callee (f := 67) rfl ?_); refine goesL_ (some 5) rfl rfl Try.func67 (by kernel_rfl) rfl #[.pointer (some ⟨g, 0, none⟩), .slice Ao7 y381.length co7] rfl (by (try simp only [List.map_toArray, List.map_cons, List.map_nil]); first | done | rfl | (simp only [List.length_drop, List.length_take]; rfl)) ?_; (with_reducible refine (spec_l1Cur_of.calls g s0_0 s0_1 s0_2 _ _ y381 t384 t385 t386 w0 _ ?side1 ?side2 ?side3 ?side4 ?side5 A2.out).mono ?_); (case side1 => repeat (first | (with_reducible first | exact HI0.out | apply IsS89.alloc | apply IsS89.drewN | apply IsS89.drew | apply IsS89.set_1 | apply IsS89.set_2) | exact HI0.out)); (case side2 => repeat (first | (with_reducible first | exact HB.out | apply below_alloc | apply pw_below_drewN | apply below_drew1 | refine below_set ?_ (IsS89.ge HI0.out)) | exact HB.out)); (case side3 => repeat (first | exact (Kd.R_reads' HO383.out).2.2 | (with_reducible refine Kd.C_alloc ?_ _) | (with_reducible refine Kd.C_drewN ?_ _) | (with_reducible refine Kd.C_drew ?_))); (case side4 => exact (Kd.R_reads' HO383.out).2.1); (case side5 => exact far_slice (IsS89.own_ne HI0.out HO383.out (by decide))); rintro e w8 ⟨rfl, hi, hb, hk⟩; refine ⟨_, rfl, ?_⟩; have n0_ := aM (Kd.R_mono (Kd.R_keep (IsS89.apart (show IsS89 w0 _ g s0_0 s0_1 s0_2 from by repeat (first | (with_reducible first | exact HI0.out | apply IsS89.alloc | apply IsS89.drewN | apply IsS89.drew | apply IsS89.set_1 | apply IsS89.set_2) | exact HI0.out)) (gR HO383.out) (by decide)) hk (fun _ h => h.2)) (fun _ h => h.1)); have n1_ := aM (KeepBut.trans (by repeat (first | (with_reducible first | exact HK.out | apply KeepBut.set_ | apply keep_drewN | apply keep_drew | apply keep_alloc) | exact HK.out)) hk (.inl rfl)); have n2_ := aM (hb); have n3_ := aM (hi); clear HO383; clear HK; clear HB; clear HI0; have HO383 := n0_; have HK := n1_; have HB := n2_; have HI0 := n3_; clear n0_ n1_ n2_ n3_; (try clear hb); (try clear hb2); (try clear hk); (try clear hi)) | ((with_reducible refine gate_dst (N := 7) rfl ?_); refine Kd.R_lit Kd.string _ 9 ?hg (N := 7) ?hd (xs := ([(⟨#[]⟩ : ByteArray), (⟨#[49]⟩ : ByteArray), (⟨#[120]⟩ : ByteArray), (⟨#[0]⟩ : ByteArray)] : List ByteArray)) (inner := [.string (⟨#[]⟩ : ByteArray), .string (⟨#[49]⟩ : ByteArray), .string (⟨#[120]⟩ : ByteArray), .string (⟨#[0]⟩ : ByteArray)]) (ok := fun _ => True) (okp := fun _ => True) ?hr ?hp (fun _ hk => hk) trivial (Below.refl _ _) (Nat.le_refl _) (by simp) ?_; (case hd => rfl); (case hg => rfl); (case hr => first | (go_simp; done) | (go_simp; rfl)); (case hp => exact (Reps.one (show Kd.M Kd.string _ _ _ (⟨#[]⟩ : ByteArray) [.string (⟨#[]⟩ : ByteArray)] from rfl) (Reps.one (show Kd.M Kd.string _ _ _ (⟨#[49]⟩ : ByteArray) [.string (⟨#[49]⟩ : ByteArray)] from rfl) (Reps.one (show Kd.M Kd.string _ _ _ (⟨#[120]⟩ : ByteArray) [.string (⟨#[120]⟩ : ByteArray)] from rfl) (Reps.one (show Kd.M Kd.string _ _ _ (⟨#[0]⟩ : ByteArray) [.string (⟨#[0]⟩ : ByteArray)] from rfl) (Reps.none _ _)))))); intro v388 w9 ho10 hb hg_ hnew_; clear hg_ hnew_; (first | rw [← Ny387.out] at ho10 | (simp only [Int.reduceToNat] at ho10; rw [← Ny387.out] at ho10)); have n0_ := aM (Kd.R_elder' (gR HO383.out) (Kd.R_base ho10) hb); have n1_ := aM (Kd.R_lower (Kd.R_new' ho10 (Kd.R_lt (gR HO383.out))) (keep_size (w := w) (g := g) (row := none) (by repeat (first | (with_reducible first | exact HK.out | apply KeepBut.set_ | apply keep_drewN | apply keep_drew | apply keep_alloc) | exact HK.out)))); have n2_ := aM (IsS89.below (by repeat (first | (with_reducible first | exact HI0.out | apply IsS89.alloc | apply IsS89.drewN | apply IsS89.drew | apply IsS89.set_1 | apply IsS89.set_2) | exact HI0.out)) hb); have n3_ := aM (KeepBut.trans (by repeat (first | (with_reducible first | exact HK.out | apply KeepBut.set_ | apply keep_drewN | apply keep_drew | apply keep_alloc) | exact HK.out)) (KeepBut.of_below hb g none) (.inl rfl)); have n4_ := aM (below_step (gB HB.out) hb); clear HO383; clear HI0; clear HK; clear HB; have HO383 := n0_; have HO389 := n1_; have HI0 := n2_; have HK := n3_; have HB := n4_; clear n0_ n1_ n2_ n3_ n4_; clear hb ho10; obtain ⟨Ao11, co11, eo11⟩ := Kd.R_slice HO389.out; subst eo11) | ((with_reducible refine gate_callee (f := 67) rfl ?_); refine goesL_ (some 8) rfl rfl Try.func67 (by kernel_rfl) rfl #[.pointer (some ⟨g, 0, none⟩), .slice Ao11 y387.length co11] rfl (by (try simp only [List.map_toArray, List.map_cons, List.map_nil]); first | done | rfl | (simp only [List.length_drop, List.length_take]; rfl)) ?_; (with_reducible refine (spec_l1Cur_of.calls g s0_0 t385 t386 _ _ y387 t390 t391 t392 w0 _ ?side1 ?side2 ?side3 ?side4 ?side5 A3.out).mono ?_); (case side1 => repeat (first | (with_reducible first | exact HI0.out | apply IsS89.alloc | apply IsS89.drewN | apply IsS89.drew | apply IsS89.set_1 | apply IsS89.set_2) | exact HI0.out)); (case side2 => repeat (first | (with_reducible first | exact HB.out | apply below_alloc | apply pw_below_drewN | apply below_drew1 | refine below_set ?_ (IsS89.ge HI0.out)) | exact HB.out)); (case side3 => repeat (first | exact (Kd.R_reads' HO389.out).2.2 | (with_reducible refine Kd.C_alloc ?_ _) | (with_reducible refine Kd.C_drewN ?_ _) | (with_reducible refine Kd.C_drew ?_))); (case side4 => exact (Kd.R_reads' HO389.out).2.1); (case side5 => exact far_slice (IsS89.own_ne HI0.out HO389.out (by decide))); rintro e w12 ⟨rfl, hi, hb, hk⟩; refine ⟨_, rfl, ?_⟩; have n0_ := aM (Kd.R_mono (Kd.R_keep (IsS89.apart (show IsS89 w0 _ g s0_0 t385 t386 from by repeat (first | (with_reducible first | exact HI0.out | apply IsS89.alloc | apply IsS89.drewN | apply IsS89.drew | apply IsS89.set_1 | apply IsS89.set_2) | exact HI0.out)) (gR HO383.out) (by decide)) hk (fun _ h => h.2)) (fun _ h => h.1)); have n1_ := aM (Kd.R_mono (Kd.R_keep (IsS89.apart (show IsS89 w0 _ g s0_0 t385 t386 from by repeat (first | (with_reducible first | exact HI0.out | apply IsS89.alloc | apply IsS89.drewN | apply IsS89.drew | apply IsS89.set_1 | apply IsS89.set_2) | exact HI0.out)) (gR HO389.out) (by decide)) hk (fun _ h => h.2)) (fun _ h => h.1)); have n2_ := aM (KeepBut.trans (by repeat (first | (with_reducible first | exact HK.out | apply KeepBut.set_ | apply keep_drewN | apply keep_drew | apply keep_alloc) | exact HK.out)) hk (.inl rfl)); have n3_ := aM (hb); have n4_ := aM (hi); clear HO383; clear HO389; clear HK; clear HB; clear HI0; have HO383 := n0_; have HO389 := n1_; have HK := n2_; have HB := n3_; have HI0 := n4_; clear n0_ n1_ n2_ n3_ n4_; (try clear hb); (try clear hb2); (try clear hk); (try clear hi)))
  go_ret
  exact ⟨by first | rfl | (simp [errW_none, errW_some] <;> rfl) | (simp [*, errW_none, errW_some] <;> rfl), by repeat (first | (with_reducible first | exact HI0.out | apply IsS89.alloc | apply IsS89.drewN | apply IsS89.drew | apply IsS89.set_1 | apply IsS89.set_2) | exact HI0.out), by repeat (first | (with_reducible first | exact HB.out | apply below_alloc | apply pw_below_drewN | apply below_drew1 | refine below_set ?_ (IsS89.ge HI0.out)) | exact HB.out), by repeat (first | (with_reducible first | exact HK.out | apply KeepBut.set_ | apply keep_drewN | apply keep_drew | apply keep_alloc) | exact HK.out)⟩
 ·
  rw [if_neg c4] at H
  exact absurd H (by simp)

def spec_l1Num.f : Nat → Int → Option (ByteArray)
 | 0, _ => none
 | k + 1, a0 => if a0 < 10 then (some (strOfNums (([(wrap64 (48 + a0)) % 256] : List Int)))) else ((spec_l1Num.f k (wrap64 (Int.tdiv a0 10))).bind fun t399 => ((some (([(wrap64 (48 + (Int.tmod a0 10))) % 256] : List Int) : List Int)).bind fun y400 => (if t399.size + (strOfNums y400).size ≤ 9223372036854775807 then (some (t399 ++ (strOfNums y400))) else (none))))
def spec_l1Num.T3 : Bool × List (List Nat × List Nat) := (true, [([], []), ([0], [0]), ([1], [1]), ([], []), ([3], [3]), ([4], [4]), ([5], [5]), ([6], [6]), ([7], [7]), ([2, 8], [2, 8]), ([9, 2, 0, 1, 2, 3, 4, 5, 6, 7, 8, 9], [9])])
def spec_l1Num.B3 : List Nat := [0, 1, 3, 0, 8, 24, 56, 120, 248, 511, 1023]
theorem spec_l1Num.tab3 : rtab .any (opsOf Try.f84 3) = spec_l1Num.T3 := by kernel_rfl
theorem spec_l1Num.bits3 : waitsOk spec_l1Num.T3.2 spec_l1Num.B3 = true := by kernel_rfl
set_option maxHeartbeats 8000000 in
set_option maxRecDepth 100000 in
theorem spec_l1Num.calls (k : Nat) : ∀ (a0 : Int) (r : ByteArray) (w : World) (h : spec_l1Num.f k a0 = some r),
  Calls Try.prog 84 #[.int .i64 a0] w fun e w' => e = .returned (.string r) ∧ Below w.heap.size w w' := by
 induction k using Nat.strongRecOn with
 | _ k ih =>
 intro a0 r w h
 cases k with
 | zero => exact absurd h (by simp [spec_l1Num.f])
 | succ k =>
 simp only [spec_l1Num.f] at h
 have HB := aM (Below.refl w.heap.size w)
 have H : (if a0 < 10 then (some (strOfNums (([(wrap64 (48 + a0)) % 256] : List Int)))) else ((spec_l1Num.f k (wrap64 (Int.tdiv a0 10))).bind fun t399 => ((some (([(wrap64 (48 + (Int.tmod a0 10))) % 256] : List Int) : List Int)).bind fun y400 => (if t399.size + (strOfNums y400).size ≤ 9223372036854775807 then (some (t399 ++ (strOfNums y400))) else (none))))) = some r := h
 clear h
 by_cases c2 : a0 < 10
 ·
  rw [if_pos c2] at H
  have c2b0 : decide (a0 < 10) = true := decide_eq_true c2
  clear c2
  obtain ⟨y396, hy396⟩ : ∃ y_ : List Int, y_ = (([(wrap64 (48 + a0)) % 256] : List Int)) := ⟨_, rfl⟩
  replace H : (some (strOfNums y396)) = some r := by first | (rw [hy396]; with_reducible exact H) | (have H2_ := (Option.bind_some _ _).symm.trans H; rw [hy396]; with_reducible exact H2_) | (have H2_ := (Option.bind_some _ _).symm.trans H; with_reducible exact H2_) | with_reducible exact H | (rw [hy396]; exact H) | exact H
  have Ny396 := aM hy396
  clear hy396
  obtain rfl := Option.some.inj H
  go_enter Try.func84, Try.ntmps84
  go_wp2_with (((with_reducible refine gate_dst (N := 8) rfl ?_); refine Kd.R_lit (Kd.int .u8) _ 5 ?hg (N := 8) ?hd (xs := ([(wrap64 (48 + a0)) % 256] : List Int)) (inner := [.int .u8 ((wrap64 (48 + a0)) % 256)]) (ok := fun _ => True) (okp := fun _ => True) ?hr ?hp (fun _ hk => hk) trivial (Below.refl _ _) (Nat.le_refl _) (by simp) ?_; (case hd => rfl); (case hg => rfl); (case hr => first | (go_simp; done) | (go_simp; rfl)); (case hp => exact (Reps.one (show Kd.M (Kd.int .u8) _ _ _ ((wrap64 (48 + a0)) % 256) [.int .u8 ((wrap64 (48 + a0)) % 256)] from rfl) (Reps.none _ _))); intro v397 w3 ho4 hb hg_ hnew_; clear hg_ hnew_; (first | rw [← Ny396.out] at ho4 | (simp only [Int.reduceToNat] at ho4; rw [← Ny396.out] at ho4)); have n0_ := aM (Kd.R_lower ho4 (below_size (gB HB.out))); have n1_ := aM (below_step (gB HB.out) hb); clear HB; have HO398 := n0_; have HB := n1_; clear n0_ n1_; clear hb ho4; have hcv5 := own_string (P := Try.prog) Try.underlying51 Try.underlying5 Try.underlying9 (Kd.own_of_R HO398.out)))
  go_ret
  exact ⟨by first | rfl | (simp [errW_none, errW_some] <;> rfl) | (simp [*, errW_none, errW_some] <;> rfl), by repeat (first | (with_reducible first | exact HB.out | apply below_alloc | apply pw_below_drewN | apply below_drew1) | exact HB.out)⟩
 ·
  rw [if_neg c2] at H
  have c2b0 : decide (a0 < 10) = false := decide_eq_false c2
  clear c2
  replace H := Option.bind_eq_some_iff.mp H
  obtain ⟨t399, A60, H⟩ := H
  replace H : ((some (([(wrap64 (48 + (Int.tmod a0 10))) % 256] : List Int) : List Int)).bind fun y400 => (if t399.size + (strOfNums y400).size ≤ 9223372036854775807 then (some (t399 ++ (strOfNums y400))) else (none))) = some r := H
  have A6 := aM A60
  clear A60
  obtain ⟨y400, hy400⟩ : ∃ y_ : List Int, y_ = (([(wrap64 (48 + (Int.tmod a0 10))) % 256] : List Int)) := ⟨_, rfl⟩
  replace H : (if t399.size + (strOfNums y400).size ≤ 9223372036854775807 then (some (t399 ++ (strOfNums y400))) else (none)) = some r := by first | (rw [hy400]; with_reducible exact H) | (have H2_ := (Option.bind_some _ _).symm.trans H; rw [hy400]; with_reducible exact H2_) | (have H2_ := (Option.bind_some _ _).symm.trans H; with_reducible exact H2_) | with_reducible exact H | (rw [hy400]; exact H) | exact H
  have Ny400 := aM hy400
  clear hy400
  by_cases c7 : t399.size + (strOfNums y400).size ≤ 9223372036854775807
  ·
   rw [if_pos c7] at H
   have c7b0 := eq_true c7
   have c7b1 : decide (t399.size + (strOfNums y400).size ≤ 9223372036854775807) = true := decide_eq_true c7
   try have c7b2 : (9223372036854775807 < t399.size + (strOfNums y400).size) = False := eq_false (Nat.not_lt.2 c7)
   try have c7b3 := c7b2
   try simp only [ByteArray.size_append] at c7b3
   obtain rfl := Option.some.inj H
   go_enter Try.func84, Try.ntmps84
   try go_wp2
   have n0_ := aM (below_drew1 HB.out)
   clear HB
   have HB := n0_
   clear n0_
   refine start_ (n := 11) (S := fun w' => True) (ds := []) #[false, false, false, false, false, false, false, false, false, false, false] (by kernel_rfl) rfl rfl trivial (fun hHeld => ?_); refine with_tabW spec_l1Num.tab3 spec_l1Num.bits3 (fun HT_ HW_ => ?_)
   generalize w.drew = w8 at HB hHeld ⊢
   refine pure_ (i := 0) (N := some 10) (v := ?_) (a' := ?_) #[true, false, false, false, false, false, false, false, false, false, false] rfl rfl (any_of HT_.out (by kernel_rfl)) (fun _ _ _ h => h) (Or.inl ⟨by rfl, ?_⟩) ?_ ?_
   rotate_left
   ·
    intro w'
    go_simp
    with_reducible rfl
   rotate_left
   ·
    simp only [Act.put, zSA, zSB, zSC, i64_w, i32_w]
    rfl
   refine pure_ (i := 1) (N := some 11) (v := ?_) (a' := ?_) #[true, true, false, false, false, false, false, false, false, false, false] rfl rfl (any_of HT_.out (by kernel_rfl)) (fun _ _ _ h => h) (Or.inl ⟨by rfl, ?_⟩) ?_ ?_
   rotate_left
   ·
    intro w'
    go_simp
    with_reducible rfl
   rotate_left
   ·
    simp only [Act.put, zSA, zSB, zSC, i64_w, i32_w]
    rfl
   refine pure_ (i := 3) (N := some 13) (v := ?_) (a' := ?_) #[true, true, false, true, false, false, false, false, false, false, false] rfl rfl (any_of HT_.out (by kernel_rfl)) (fun _ _ _ h => h) (Or.inl ⟨by rfl, ?_⟩) ?_ ?_
   rotate_left
   ·
    intro w'
    go_simp
    with_reducible rfl
   rotate_left
   ·
    simp only [Act.put, zSA, zSB, zSC, i64_w, i32_w]
    rfl
   refine pure_ (i := 4) (N := some 14) (v := ?_) (a' := ?_) #[true, true, false, true, true, false, false, false, false, false, false] rfl rfl (any_of HT_.out (by kernel_rfl)) (fun _ _ _ h => h) (Or.inl ⟨by rfl, ?_⟩) ?_ ?_
   rotate_left
   ·
    intro w'
    go_simp
    with_reducible rfl
   rotate_left
   ·
    simp only [Act.put, zSA, zSB, zSC, i64_w, i32_w]
    rfl
   refine pure_ (i := 5) (N := some 15) (v := ?_) (a' := ?_) #[true, true, false, true, true, true, false, false, false, false, false] rfl rfl (any_of HT_.out (by kernel_rfl)) (fun _ _ _ h => h) (Or.inl ⟨by rfl, ?_⟩) ?_ ?_
   rotate_left
   ·
    intro w'
    go_simp
    with_reducible rfl
   rotate_left
   ·
    simp only [Act.put, zSA, zSB, zSC, i64_w, i32_w]
    rfl
   refine pure_ (i := 6) (N := some 16) (v := ?_) (a' := ?_) #[true, true, false, true, true, true, true, false, false, false, false] rfl rfl (any_of HT_.out (by kernel_rfl)) (fun _ _ _ h => h) (Or.inl ⟨by rfl, ?_⟩) ?_ ?_
   rotate_left
   ·
    intro w'
    go_simp
    with_reducible rfl
   rotate_left
   ·
    simp only [Act.put, zSA, zSB, zSC, i64_w, i32_w]
    rfl
   refine join_ (σ := Value) 2 #[true, true, true, true, true, true, true, true, true, false, false] (fun s_ => [(12, .string t399), (17, s_), (18, .string (strOfNums y400))]) (fun s_ w' => (Kd.R (Kd.int .u8) 5 w' w.heap.size (fun _ => True) s_ y400) ∧ (Below w.heap.size w w')) ?_ ?_
   rotate_left
   ·
    intro hCont
    refine two_ (i := 2) (j := 7) (Ni := some 12) (Nj := some 17) #[true, true, true, true, true, true, true, false, false, false, false] #[true, true, false, true, true, true, true, true, false, false, false] rfl rfl rfl rfl (two_of HT_.out (by kernel_rfl)) (by decide) (by decide) (fun K hK => ?_) (fun K hK => ?_)
    ·
     skip
     refine goes_ Try.func84 (by kernel_rfl) rfl #[.int .i64 (wrap64 (Int.tdiv a0 10))] (by rfl) rfl rfl (by (try simp only [List.map_toArray, List.map_cons, List.map_nil]); first | done | rfl | (simp only [List.length_drop, List.length_take]; rfl)) ?_
     with_reducible refine (ih k (by omega) (wrap64 (Int.tdiv a0 10)) t399 _ A6.out).mono ?_
     rintro e w9 ⟨rfl, hb⟩
     refine ⟨_, rfl, ?_⟩
     have n0_ := aM (below_step (gB HB.out) hb)
     clear HB
     have HB := n0_
     clear n0_
     (try clear hb)
     (try clear hb2)
     (try clear hk)
     (try clear hi)
     refine hK.out _ _ trivial (fun hHeld => ?_)
     clear hK K
     refine norm_ (a' := ?_) ?_ ?_
     rotate_left
     ·
      show Act.put _ (some 12) _ = _
      simp only [Act.put, zSA, zSB, zSC, i64_w, i32_w]
      rfl
     refine one_ (i := 7) (N := some 17) #[true, true, true, true, true, true, true, true, false, false, false] rfl rfl (one_of HT_.out (by kernel_rfl)) (by decide) (fun K hK => ?_)
     refine Kd.R_lit_step (Kd.int .u8) _ 5 ?hg (N := 17) ?hd (xs := ([(wrap64 (48 + (Int.tmod a0 10))) % 256] : List Int)) (inner := [.int .u8 ((wrap64 (48 + (Int.tmod a0 10))) % 256)]) (ok := fun _ => True) (okp := fun _ => True) ?hr ?hp (fun _ hk => hk) trivial (Below.refl _ _) (Nat.le_refl _) (by simp) ?_; (case hd => rfl); (case hg => rfl); (case hr => first | (go_simp; done) | (go_simp; rfl)); (case hp => exact (Reps.one (show Kd.M (Kd.int .u8) _ _ _ ((wrap64 (48 + (Int.tmod a0 10))) % 256) [.int .u8 ((wrap64 (48 + (Int.tmod a0 10))) % 256)] from rfl) (Reps.none _ _)))
     intro v401 w10 ho11 hb hg_ hnew_
     clear hg_ hnew_
     (first | rw [← Ny400.out] at ho11 | (simp only [Int.reduceToNat] at ho11; rw [← Ny400.out] at ho11))
     have n0_ := aM (Kd.R_lower ho11 (below_size (gB HB.out)))
     have n1_ := aM (below_step (gB HB.out) hb)
     clear HB
     have HO402 := n0_
     have HB := n1_
     clear n0_ n1_
     clear hb ho11
     refine hK.out _ _ trivial (fun hHeld => ?_)
     clear hK K
     refine norm_ (a' := ?_) ?_ ?_
     rotate_left
     ·
      show Act.put _ (some 17) _ = _
      simp only [Act.put, zSA, zSB, zSC, i64_w, i32_w]
      rfl
     refine one_ (i := 8) (N := some 18) #[true, true, true, true, true, true, true, true, true, false, false] rfl rfl (one_of HT_.out (by kernel_rfl)) (by decide) (fun K hK => ?_)
     have hcv12 := own_string (P := Try.prog) Try.underlying51 Try.underlying5 Try.underlying9 (Kd.own_of_R HO402.out)
     refine value_ (w1 := ?_) (v := ?_) (by rfl) rfl ?_ ?_
     rotate_left 2
     ·
      go_simp
      constructor
      ·
       rfl
      ·
       rfl
     clear hcv12
     refine hK.out _ _ trivial (fun hHeld => ?_)
     clear hK K
     refine norm_ (a' := ?_) ?_ ?_
     rotate_left
     ·
      show Act.put _ (some 18) _ = _
      simp only [Act.put, zSA, zSB, zSC, i64_w, i32_w]
      rfl
     exact norm_ (by simp only [putAll, Act.put, zSA, zSB, zSC]) (hCont (v401) _ ⟨(gR HO402.out), (gB HB.out)⟩)
    ·
     skip
     refine Kd.R_lit_step (Kd.int .u8) _ 5 ?hg (N := 17) ?hd (xs := ([(wrap64 (48 + (Int.tmod a0 10))) % 256] : List Int)) (inner := [.int .u8 ((wrap64 (48 + (Int.tmod a0 10))) % 256)]) (ok := fun _ => True) (okp := fun _ => True) ?hr ?hp (fun _ hk => hk) trivial (Below.refl _ _) (Nat.le_refl _) (by simp) ?_; (case hd => rfl); (case hg => rfl); (case hr => first | (go_simp; done) | (go_simp; rfl)); (case hp => exact (Reps.one (show Kd.M (Kd.int .u8) _ _ _ ((wrap64 (48 + (Int.tmod a0 10))) % 256) [.int .u8 ((wrap64 (48 + (Int.tmod a0 10))) % 256)] from rfl) (Reps.none _ _)))
     intro v401 w9 ho10 hb hg_ hnew_
     clear hg_ hnew_
     (first | rw [← Ny400.out] at ho10 | (simp only [Int.reduceToNat] at ho10; rw [← Ny400.out] at ho10))
     have n0_ := aM (Kd.R_lower ho10 (below_size (gB HB.out)))
     have n1_ := aM (below_step (gB HB.out) hb)
     clear HB
     have HO402 := n0_
     have HB := n1_
     clear n0_ n1_
     clear hb ho10
     refine hK.out _ _ trivial (fun hHeld => ?_)
     clear hK K
     refine norm_ (a' := ?_) ?_ ?_
     rotate_left
     ·
      show Act.put _ (some 17) _ = _
      simp only [Act.put, zSA, zSB, zSC, i64_w, i32_w]
      rfl
     refine two_ (i := 2) (j := 8) (Ni := some 12) (Nj := some 18) #[true, true, true, true, true, true, true, true, false, false, false] #[true, true, false, true, true, true, true, true, true, false, false] rfl rfl rfl rfl (two_of HT_.out (by kernel_rfl)) (by decide) (by decide) (fun K hK => ?_) (fun K hK => ?_)
     ·
      skip
      refine goes_ Try.func84 (by kernel_rfl) rfl #[.int .i64 (wrap64 (Int.tdiv a0 10))] (by rfl) rfl rfl (by (try simp only [List.map_toArray, List.map_cons, List.map_nil]); first | done | rfl | (simp only [List.length_drop, List.length_take]; rfl)) ?_
      with_reducible refine (ih k (by omega) (wrap64 (Int.tdiv a0 10)) t399 _ A6.out).mono ?_
      rintro e w11 ⟨rfl, hb⟩
      refine ⟨_, rfl, ?_⟩
      have n0_ := aM (Kd.R_below (gR HO402.out) hb)
      have n1_ := aM (below_step (gB HB.out) hb)
      clear HO402
      clear HB
      have HO402 := n0_
      have HB := n1_
      clear n0_ n1_
      (try clear hb)
      (try clear hb2)
      (try clear hk)
      (try clear hi)
      refine hK.out _ _ trivial (fun hHeld => ?_)
      clear hK K
      refine norm_ (a' := ?_) ?_ ?_
      rotate_left
      ·
       show Act.put _ (some 12) _ = _
       simp only [Act.put, zSA, zSB, zSC, i64_w, i32_w]
       rfl
      refine one_ (i := 8) (N := some 18) #[true, true, true, true, true, true, true, true, true, false, false] rfl rfl (one_of HT_.out (by kernel_rfl)) (by decide) (fun K hK => ?_)
      have hcv12 := own_string (P := Try.prog) Try.underlying51 Try.underlying5 Try.underlying9 (Kd.own_of_R HO402.out)
      refine value_ (w1 := ?_) (v := ?_) (by rfl) rfl ?_ ?_
      rotate_left 2
      ·
       go_simp
       constructor
       ·
        rfl
       ·
        rfl
      clear hcv12
      refine hK.out _ _ trivial (fun hHeld => ?_)
      clear hK K
      refine norm_ (a' := ?_) ?_ ?_
      rotate_left
      ·
       show Act.put _ (some 18) _ = _
       simp only [Act.put, zSA, zSB, zSC, i64_w, i32_w]
       rfl
      exact norm_ (by simp only [putAll, Act.put, zSA, zSB, zSC]) (hCont (v401) _ ⟨(gR HO402.out), (gB HB.out)⟩)
     ·
      skip
      have hcv11 := own_string (P := Try.prog) Try.underlying51 Try.underlying5 Try.underlying9 (Kd.own_of_R HO402.out)
      refine value_ (w1 := ?_) (v := ?_) (by rfl) rfl ?_ ?_
      rotate_left 2
      ·
       go_simp
       constructor
       ·
        rfl
       ·
        rfl
      clear hcv11
      refine hK.out _ _ trivial (fun hHeld => ?_)
      clear hK K
      refine norm_ (a' := ?_) ?_ ?_
      rotate_left
      ·
       show Act.put _ (some 18) _ = _
       simp only [Act.put, zSA, zSB, zSC, i64_w, i32_w]
       rfl
      refine one_ (i := 2) (N := some 12) #[true, true, true, true, true, true, true, true, true, false, false] rfl rfl (one_of HT_.out (by kernel_rfl)) (by decide) (fun K hK => ?_)
      refine goes_ Try.func84 (by kernel_rfl) rfl #[.int .i64 (wrap64 (Int.tdiv a0 10))] (by rfl) rfl rfl (by (try simp only [List.map_toArray, List.map_cons, List.map_nil]); first | done | rfl | (simp only [List.length_drop, List.length_take]; rfl)) ?_
      with_reducible refine (ih k (by omega) (wrap64 (Int.tdiv a0 10)) t399 _ A6.out).mono ?_
      rintro e w12 ⟨rfl, hb⟩
      refine ⟨_, rfl, ?_⟩
      have n0_ := aM (Kd.R_below (gR HO402.out) hb)
      have n1_ := aM (below_step (gB HB.out) hb)
      clear HO402
      clear HB
      have HO402 := n0_
      have HB := n1_
      clear n0_ n1_
      (try clear hb)
      (try clear hb2)
      (try clear hk)
      (try clear hi)
      refine hK.out _ _ trivial (fun hHeld => ?_)
      clear hK K
      refine norm_ (a' := ?_) ?_ ?_
      rotate_left
      ·
       show Act.put _ (some 12) _ = _
       simp only [Act.put, zSA, zSB, zSC, i64_w, i32_w]
       rfl
      exact norm_ (by simp only [putAll, Act.put, zSA, zSB, zSC]) (hCont (v401) _ ⟨(gR HO402.out), (gB HB.out)⟩)
   rintro v401 w13 ⟨h0_, h1_⟩
   have n0_ : Aside0 (Kd.R (Kd.int .u8) 5 w13 w.heap.size (fun _ => True) v401 y400) := ⟨h0_⟩
   have n1_ : Aside0 (Below w.heap.size w w13) := ⟨h1_⟩
   clear HB
   clear h0_ h1_
   have HO402 := n0_
   have HB := n1_
   clear n0_ n1_
   have hHeld := trivial
   refine norm_ (a' := ?_) ?_ ?_
   rotate_left
   ·
    simp only [putAll, Act.put, zSA, zSB, zSC]
    rfl
   refine pure_ (i := 9) (N := some 19) (v := ?_) (a' := ?_) #[true, true, true, true, true, true, true, true, true, true, false] rfl rfl (any_of HT_.out (by kernel_rfl)) (fun _ _ _ h => h) (Or.inl ⟨by rfl, ?_⟩) ?_ ?_
   rotate_left
   ·
    intro w'
    go_simp
    with_reducible rfl
   rotate_left
   ·
    simp only [Act.put, zSA, zSB, zSC, i64_w, i32_w]
    rfl
   refine pure_ (i := 10) (N := some 2) (v := ?_) (a' := ?_) #[true, true, true, true, true, true, true, true, true, true, true] rfl rfl (any_of HT_.out (by kernel_rfl)) (fun _ _ _ h => h) (Or.inl ⟨by rfl, ?_⟩) ?_ ?_
   rotate_left
   ·
    intro w'
    go_simp
    with_reducible rfl
   rotate_left
   ·
    simp only [Act.put, zSA, zSB, zSC, i64_w, i32_w]
    rfl
   refine done_ (done_of HT_.out (by kernel_rfl)) ?_
   try go_wp2
   go_ret
   exact ⟨by first | rfl | (simp [errW_none, errW_some] <;> rfl) | (simp [*, errW_none, errW_some] <;> rfl), by repeat (first | (with_reducible first | exact HB.out | apply below_alloc | apply pw_below_drewN | apply below_drew1) | exact HB.out)⟩
  ·
   rw [if_neg c7] at H
   exact absurd H (by simp)

end Go.Proofs.Ytjknkeipginpcaa.PQ
end
