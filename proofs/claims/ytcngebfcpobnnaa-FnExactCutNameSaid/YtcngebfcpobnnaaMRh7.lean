/- Several texts in one: what the claim's last text rests on. No conditions. -/
import Derived.Test.YtcngebfcpobnnaaProg
import Derived.Below
import Derived.Deep.Draws
import Derived.Deep.AppendLies
import Derived.Maps.AppendAt
import Derived.OwnWalk
import Derived.Laws.BytesArg
import Derived.Laws.MakeOwn
import Derived.Laws.OwnMore
import Derived.Deep.OwnRows
import Derived.Tactics
import Derived.Lib.ConvBytes
import Derived.Laws.Slices
import Derived.WalkKit
import Derived.KernelRfl
import Derived.RowKit3
import Derived.Deep.LoopGhost
import Derived.Deep.QuietTactic
import Derived.BigQuiet
import Derived.WideLaws
import Derived.Deep.DeepCutAuto
import Derived.Deep.CutBlock
import Derived.Deep.RegionHeld3
import Derived.Laws.Rows
import Derived.Lib.AppendStr
import Derived.ArgAppend
import Derived.Laws.IdiomCopy
import Derived.OrdersHeld
import Derived.Laws.BitsLemmas
import Derived.RowKit
import Derived.Test.YtcngebfcpobnnaaMRh2
import Derived.Test.YtcngebfcpobnnaaMRh1
import Derived.Test.YtcngebfcpobnnaaMRh5
import Derived.Test.YtcngebfcpobnnaaMRh4
section
namespace Go.Proofs.Ytcngebfcpobnnaa.PQ
open Go.RowKit Go.Proofs.YtcngebfcpobnnaaW.PrintWords Go.Proofs.YtcngebfcpobnnaaW.PrintLast Go.Proofs.YtcngebfcpobnnaaW.PrintMore
attribute [local go_sem] max2_int min2_int max_two min_two max_three min_three max_four min_four
set_option linter.unusedVariables false
set_option linter.unusedSimpArgs false
def errW : Option Int → Value
  | none => .nilIface
  | some c => .iface 0 (.int .i64 c)
theorem errW_none : errW none = .nilIface := rfl
theorem errW_some (c : Int) : errW (some c) = .iface 0 (.int .i64 c) := rfl

theorem info9 : (Try.prog.info? 9).map (fun i => (i.zero, i.size, i.bytes)) = some (some (.string ⟨#[]⟩), 1, 16) := by kernel_rfl
theorem info64 : (Try.prog.info? 64).map (fun i => (i.zero, i.size, i.bytes)) = some (some (.agg #[(.string ⟨#[]⟩), (.bool false), (.int .i64 0)]), 3, 32) := by kernel_rfl
structure S64 where
  f0 : ByteArray
  f1 : Bool
  f2 : Int
def z64 : S64 := ⟨(⟨#[]⟩ : ByteArray), false, (0 : Int)⟩
def k64 : Kd S64 := Kd.iso (Kd.pair Kd.string (Kd.pair Kd.bool (Kd.int .i64))) (fun x : S64 => (x.f0, x.f1, x.f2))
theorem k64_open {w : World} {x : S64} {cs : List Value} (h : k64.K w x cs) : cs = [.string x.f0, .bool x.f1, .int .i64 x.f2] := by
  obtain ⟨_, _, rfl, rfl, ⟨_, _, rfl, rfl, rfl⟩⟩ := h
  exact rfl
theorem k64_openM {w : World} {base : Nat} {ok : Nat → Prop} {x : S64} {cs : List Value} (h : k64.M w base ok x cs) : cs = [.string x.f0, .bool x.f1, .int .i64 x.f2] := by
  obtain ⟨_, _, rfl, rfl, ⟨_, _, rfl, rfl, rfl⟩⟩ := h
  exact rfl
theorem k64_mkM (w : World) (base : Nat) (ok : Nat → Prop) (x : S64)  : k64.M w base ok x [.string x.f0, .bool x.f1, .int .i64 x.f2] := ⟨[.string x.f0], [.bool x.f1, .int .i64 x.f2], rfl, rfl, ⟨[.bool x.f1], [.int .i64 x.f2], rfl, rfl, rfl⟩⟩
def rd_T64 (xs : List S64) (i : Int) : S64 := xs.getD i.toNat z64
theorem at_T64 {w : World} {A : Option Addr} {n : Nat} {xs : List S64} (h : Kd.C k64 w A n xs) (i : Int) (h0 : 0 ≤ i) (h1 : i < n) : ∃ ad , A = some ad ∧ w.cell? (ad.add (i.toNat * 3)) = some (.string (rd_T64 xs i).f0) ∧ w.cell? ⟨(ad.add (i.toNat * 3)).block, (ad.add (i.toNat * 3)).off + 1, none⟩ = some (.bool (rd_T64 xs i).f1) ∧ w.cell? ⟨(ad.add (i.toNat * 3)).block, (ad.add (i.toNat * 3)).off + 2, none⟩ = some (.int .i64 (rd_T64 xs i).f2) := by
  obtain ⟨ad, c, e, _, hK, hc0⟩ := Kd.C_get h z64 i h0 h1
  have hc : ∀ j u, c[j]? = some u → w.cell? (ad.add (i.toNat * 3 + j)) = some u := hc0
  obtain rfl := k64_open hK
  exact ⟨ad, e, hc 0 _ rfl, by rw [← add_field _ _ 1 (by omega)]; exact hc 1 _ rfl, by rw [← add_field _ _ 2 (by omega)]; exact hc 2 _ rfl⟩

structure S80 where
  f0 : ByteArray
  f1 : Bool
  f2 : Int
def z80 : S80 := ⟨(⟨#[]⟩ : ByteArray), false, (0 : Int)⟩
def k80 : Kd S80 := Kd.iso (Kd.pair Kd.string (Kd.pair Kd.bool (Kd.int .i64))) (fun x : S80 => (x.f0, x.f1, x.f2))
theorem k80_open {w : World} {x : S80} {cs : List Value} (h : k80.K w x cs) : cs = [.string x.f0, .bool x.f1, .int .i64 x.f2] := by
  obtain ⟨_, _, rfl, rfl, ⟨_, _, rfl, rfl, rfl⟩⟩ := h
  exact rfl
def rd_T80 (xs : List S80) (i : Int) : S80 := xs.getD i.toNat z80
theorem at_T80 {w : World} {A : Option Addr} {n : Nat} {xs : List S80} (h : Kd.C k80 w A n xs) (i : Int) (h0 : 0 ≤ i) (h1 : i < n) : ∃ ad , A = some ad ∧ w.cell? (ad.add (i.toNat * 3)) = some (.string (rd_T80 xs i).f0) ∧ w.cell? ⟨(ad.add (i.toNat * 3)).block, (ad.add (i.toNat * 3)).off + 1, none⟩ = some (.bool (rd_T80 xs i).f1) ∧ w.cell? ⟨(ad.add (i.toNat * 3)).block, (ad.add (i.toNat * 3)).off + 2, none⟩ = some (.int .i64 (rd_T80 xs i).f2) := by
  obtain ⟨ad, c, e, _, hK, hc0⟩ := Kd.C_get h z80 i h0 h1
  have hc : ∀ j u, c[j]? = some u → w.cell? (ad.add (i.toNat * 3 + j)) = some u := hc0
  obtain rfl := k80_open hK
  exact ⟨ad, e, hc 0 _ rfl, by rw [← add_field _ _ 1 (by omega)]; exact hc 1 _ rfl, by rw [← add_field _ _ 2 (by omega)]; exact hc 2 _ rfl⟩

def spec_l13Small.l0 : Nat → ByteArray → Int → Int → Option (Bool)
 | 0, _, _, _ => none
 | k + 1, x0, x1, x5 => if x5 < (x0.size : Int) then (if 0 ≤ x5 then (if (bt x0 x5) < 97 then (some false) else (if (bt x0 x5) > 122 then (some false) else (spec_l13Small.l0 k x0 x1 (wrap64 (x5 + 1))))) else (none)) else (some (decide ((x0.size : Int) ≤ x1)))
def spec_l13Small.f (k : Nat) (a0 : ByteArray) (a1 : Int) : Option (Bool) := spec_l13Small.l0 k a0 a1 0
set_option maxHeartbeats 8000000 in
set_option maxRecDepth 100000 in
theorem spec_l13Small.calls (k : Nat) (a0 : ByteArray) (a1 : Int) (r : Bool) (w : World) (h : spec_l13Small.f k a0 a1 = some r) :
  Calls Try.prog 66 #[.string a0, .int .i64 a1] w fun e w' => e = .returned (.bool r) ∧ Drawn0 w w' := by
 have H : (spec_l13Small.l0 k a0 a1 0) = some r := h
 clear h
 have H' := aM H
 clear H
 go_enter Try.func66, Try.ntmps66
 go_wp2
 go_loopg [5] k (fun kq v5 w' => ∃ (x5_1 : Int), v5 = .int .i64 x5_1 ∧ Aside0 (spec_l13Small.l0 kq a0 a1 x5_1 = some r) ∧ Aside0 (kq ≤ k) ∧ Drawn0 w w')
 case atStart => exact ⟨(0), (by first | rfl | (simp; done) | (simp [*]; done)), H', ⟨Nat.le_refl _⟩, by repeat (first | exact Drawn0.refl _ | apply Drawn0.step)⟩
 case round =>
  clear H'
  try clear p2
  obtain ⟨x5_1, rfl, HA, HK1, ⟨m1, rfl⟩⟩ := hrel
  cases gk with
  | zero => exact absurd HA.out (by simp [spec_l13Small.l0])
  | succ k1 =>
   have H := HA.out
   clear HA
   simp only [spec_l13Small.l0] at H
   by_cases c3 : x5_1 < (a0.size : Int)
   ·
    rw [if_pos c3] at H
    have c3b0 : decide (x5_1 < (a0.size : Int)) = true := decide_eq_true c3
    clear c3
    by_cases c4 : 0 ≤ x5_1
    ·
     rw [if_pos c4] at H
     have c4b0 : decide (0 ≤ x5_1) = true := decide_eq_true c4
     clear c4
     by_cases c6 : (bt a0 x5_1) < 97
     ·
      rw [if_pos c6] at H
      have c6b0 : decide ((bt a0 x5_1) < 97) = true := decide_eq_true c6
      clear c6
      obtain rfl := Option.some.inj H
      have p5 : 0 ≤ (x5_1 : Int) := of_decide_eq_true (by first | (with_reducible assumption) | assumption)
      have q5 : x5_1 < (a0.size : Int) := of_decide_eq_true (by first | (with_reducible assumption) | assumption)
      have hx5 := bt_at a0 x5_1
      replace p5 := eq_true p5
      replace q5 := eq_true q5
      go_wp2
      go_ret
      exact ⟨by first | rfl | (simp; done) | (simp [*]; done), by repeat (first | exact Drawn0.refl _ | apply Drawn0.step)⟩
     ·
      rw [if_neg c6] at H
      have c6b0 : decide ((bt a0 x5_1) < 97) = false := decide_eq_false c6
      clear c6
      by_cases c8 : (bt a0 x5_1) > 122
      ·
       rw [if_pos c8] at H
       have c8b0 : decide (122 < (bt a0 x5_1)) = true := decide_eq_true c8
       clear c8
       obtain rfl := Option.some.inj H
       have p5 : 0 ≤ (x5_1 : Int) := of_decide_eq_true (by first | (with_reducible assumption) | assumption)
       have q5 : x5_1 < (a0.size : Int) := of_decide_eq_true (by first | (with_reducible assumption) | assumption)
       have hx5 := bt_at a0 x5_1
       replace p5 := eq_true p5
       replace q5 := eq_true q5
       have p7 : 0 ≤ (x5_1 : Int) := of_decide_eq_true (by first | (with_reducible assumption) | assumption)
       have q7 : x5_1 < (a0.size : Int) := of_decide_eq_true (by first | (with_reducible assumption) | assumption)
       have hx7 := bt_at a0 x5_1
       replace p7 := eq_true p7
       replace q7 := eq_true q7
       go_wp2
       go_ret
       exact ⟨by first | rfl | (simp; done) | (simp [*]; done), by repeat (first | exact Drawn0.refl _ | apply Drawn0.step)⟩
      ·
       rw [if_neg c8] at H
       have c8b0 : decide (122 < (bt a0 x5_1)) = false := decide_eq_false c8
       clear c8
       have H' := aM H
       clear H
       have p5 : 0 ≤ (x5_1 : Int) := of_decide_eq_true (by first | (with_reducible assumption) | assumption)
       have q5 : x5_1 < (a0.size : Int) := of_decide_eq_true (by first | (with_reducible assumption) | assumption)
       have hx5 := bt_at a0 x5_1
       replace p5 := eq_true p5
       replace q5 := eq_true q5
       have p7 : 0 ≤ (x5_1 : Int) := of_decide_eq_true (by first | (with_reducible assumption) | assumption)
       have q7 : x5_1 < (a0.size : Int) := of_decide_eq_true (by first | (with_reducible assumption) | assumption)
       have hx7 := bt_at a0 x5_1
       replace p7 := eq_true p7
       replace q7 := eq_true q7
       go_wp2
       go_roundg k1
       case measure => have := HK1.out; omega
       case rel => exact ⟨(wrap64 (x5_1 + 1)), (by first | rfl | (simp; done) | (simp [*]; done)), H', ⟨by have := HK1.out; omega⟩, by repeat (first | exact Drawn0.refl _ | apply Drawn0.step)⟩
    ·
     rw [if_neg c4] at H
     exact absurd H (by simp)
   ·
    rw [if_neg c3] at H
    have c3b0 : decide (x5_1 < (a0.size : Int)) = false := decide_eq_false c3
    clear c3
    obtain rfl := Option.some.inj H
    go_wp2
    go_ret
    exact ⟨by first | rfl | (simp; done) | (simp [*]; done), by repeat (first | exact Drawn0.refl _ | apply Drawn0.step)⟩

def spec_l13Name.f (k : Nat) (a0 : ByteArray) : Option (Bool) := (spec_l13Small.f k a0 20).bind fun t354 => (if t354 = true then (some (a0.toList != ([] : List UInt8))) else (some false))
set_option maxHeartbeats 8000000 in
set_option maxRecDepth 100000 in
theorem spec_l13Name.calls (k : Nat) (a0 : ByteArray) (r : Bool) (w : World) (h : spec_l13Name.f k a0 = some r) :
  Calls Try.prog 38 #[.string a0] w fun e w' => e = .returned (.bool r) ∧ Drawn0 w w' := by
 have H : ((spec_l13Small.f k a0 20).bind fun t354 => (if t354 = true then (some (a0.toList != ([] : List UInt8))) else (some false))) = some r := h
 clear h
 replace H := Option.bind_eq_some_iff.mp H
 obtain ⟨t354, A20, H⟩ := H
 replace H : (if t354 = true then (some (a0.toList != ([] : List UInt8))) else (some false)) = some r := H
 have A2 := aM A20
 clear A20
 by_cases c3 : t354 = true
 ·
  subst c3
  have H1 : (some (a0.toList != ([] : List UInt8))) = some r := by rw [if_pos rfl] at H; exact H
  clear H
  have H := H1
  clear H1
  obtain rfl := Option.some.inj H
  go_enter Try.func38, Try.ntmps38
  go_wp2_with (first | ((with_reducible refine gate_callee (f := 66) rfl ?_); refine goesL_ (some 4) rfl rfl Try.func66 (by kernel_rfl) rfl #[.string a0, .int .i64 20] rfl (by (try simp only [List.map_toArray, List.map_cons, List.map_nil]); first | done | rfl | (simp only [List.length_drop, List.length_take]; rfl)) ?_; (with_reducible refine (spec_l13Small.calls k a0 20 true _ A2.out).mono ?_); rintro e w' ⟨rfl, ⟨nd, rfl⟩⟩; refine ⟨_, rfl, ?_⟩))
  go_ret
  exact ⟨by first | rfl | (rw [Go.Proofs.Ytcngebfcpobnnaa.Pre.bne_nil]; first | rfl | (simp; done) | (simp <;> rfl)) | (simp; done) | (simp [*]; done), by repeat (first | exact Drawn0.refl _ | apply Drawn0.step)⟩
 ·
  replace c3 := Bool.eq_false_iff.mpr c3
  subst c3
  have H1 : (some false) = some r := by rw [if_neg (show ¬ (false = true) by decide)] at H; exact H
  clear H
  have H := H1
  clear H1
  obtain rfl := Option.some.inj H
  go_enter Try.func38, Try.ntmps38
  go_wp2_with (first | ((with_reducible refine gate_callee (f := 66) rfl ?_); refine goesL_ (some 4) rfl rfl Try.func66 (by kernel_rfl) rfl #[.string a0, .int .i64 20] rfl (by (try simp only [List.map_toArray, List.map_cons, List.map_nil]); first | done | rfl | (simp only [List.length_drop, List.length_take]; rfl)) ?_; (with_reducible refine (spec_l13Small.calls k a0 20 false _ A2.out).mono ?_); rintro e w' ⟨rfl, ⟨nd, rfl⟩⟩; refine ⟨_, rfl, ?_⟩))
  go_ret
  exact ⟨by first | rfl | (rw [Go.Proofs.Ytcngebfcpobnnaa.Pre.bne_nil]; first | rfl | (simp; done) | (simp <;> rfl)) | (simp; done) | (simp [*]; done), by repeat (first | exact Drawn0.refl _ | apply Drawn0.step)⟩

theorem eqA64 (d : Nat) (w : World) (x0 y0 : ByteArray) (x1 y1 : Bool) (x2 y2 : Int) :
  (Op.equalIn (d + 2) 64 (.agg #[.string x0, .bool x1, .int .i64 x2]) (.agg #[.string y0, .bool y1, .int .i64 y2])).run Try.prog w = .ok (x0.toList == y0.toList && (x1 == y1 && (x2 == y2))) w := by
 refine eqA_of Try.underlying64 (by kernel_rfl) ?_
 refine eqf_cons (by rfl) (by go_simp; rfl) (by go_simp; rfl) (by go_simp) ?_
 refine eqf_cons (by rfl) (by go_simp; rfl) (by go_simp; rfl) (by go_simp) ?_
 exact eqf_last (by rfl) (by go_simp; rfl) (by go_simp; rfl) (by go_simp)
def spec_l12Common.l0 : Nat → ByteArray → ByteArray → Int → Option (Int)
 | 0, _, _, _ => none
 | k + 1, x0, x1, x5 => if x5 < (x0.size : Int) then (if x5 < (x1.size : Int) then (if 0 ≤ x5 then (if (bt x0 x5) = (bt x1 x5) then (spec_l12Common.l0 k x0 x1 (wrap64 (x5 + 1))) else (some x5)) else (none)) else (some x5)) else (some x5)
def spec_l12Common.f (k : Nat) (a0 : ByteArray) (a1 : ByteArray) : Option (Int) := spec_l12Common.l0 k a0 a1 0
set_option maxHeartbeats 8000000 in
set_option maxRecDepth 100000 in
theorem spec_l12Common.calls (k : Nat) (a0 : ByteArray) (a1 : ByteArray) (r : Int) (w : World) (h : spec_l12Common.f k a0 a1 = some r) :
  Calls Try.prog 84 #[.string a0, .string a1] w fun e w' => e = .returned (.int .i64 r) ∧ Drawn0 w w' := by
 have H : (spec_l12Common.l0 k a0 a1 0) = some r := h
 clear h
 have H' := aM H
 clear H
 go_enter Try.func84, Try.ntmps84
 go_wp2
 repeat (go_quiet (fail); try go_wp2)
 go_loopg [5] k (fun kq v5 w' => ∃ (x5_1 : Int), v5 = .int .i64 x5_1 ∧ Aside0 (spec_l12Common.l0 kq a0 a1 x5_1 = some r) ∧ Aside0 (kq ≤ k) ∧ Drawn0 w w')
 case atStart => exact ⟨(0), (by first | rfl | (simp; done) | (simp [*]; done)), H', ⟨Nat.le_refl _⟩, by repeat (first | exact Drawn0.refl _ | apply Drawn0.step)⟩
 case round =>
  clear H'
  try clear p2
  obtain ⟨x5_1, rfl, HA, HK1, ⟨m1, rfl⟩⟩ := hrel
  cases gk with
  | zero => exact absurd HA.out (by simp [spec_l12Common.l0])
  | succ k1 =>
   have H := HA.out
   clear HA
   simp only [spec_l12Common.l0] at H
   by_cases c3 : x5_1 < (a0.size : Int)
   ·
    rw [if_pos c3] at H
    have c3b0 : decide (x5_1 < (a0.size : Int)) = true := decide_eq_true c3
    clear c3
    by_cases c4 : x5_1 < (a1.size : Int)
    ·
     rw [if_pos c4] at H
     have c4b0 : decide (x5_1 < (a1.size : Int)) = true := decide_eq_true c4
     clear c4
     by_cases c5 : 0 ≤ x5_1
     ·
      rw [if_pos c5] at H
      have c5b0 : decide (0 ≤ x5_1) = true := decide_eq_true c5
      clear c5
      by_cases c8 : (bt a0 x5_1) = (bt a1 x5_1)
      ·
       rw [if_pos c8] at H
       have c8b0 : ((bt a0 x5_1) == (bt a1 x5_1)) = true := beq_iff_eq.mpr c8
       have c8b1 : ((bt a0 x5_1) != (bt a1 x5_1)) = false := bne_eq_false_iff_eq.mpr c8
       clear c8
       have H' := aM H
       clear H
       have p6 : 0 ≤ (x5_1 : Int) := of_decide_eq_true (by first | (with_reducible assumption) | assumption)
       have q6 : x5_1 < (a0.size : Int) := of_decide_eq_true (by first | (with_reducible assumption) | assumption)
       have hx6 := bt_at a0 x5_1
       replace p6 := eq_true p6
       replace q6 := eq_true q6
       have p7 : 0 ≤ (x5_1 : Int) := of_decide_eq_true (by first | (with_reducible assumption) | assumption)
       have q7 : x5_1 < (a1.size : Int) := of_decide_eq_true (by first | (with_reducible assumption) | assumption)
       have hx7 := bt_at a1 x5_1
       replace p7 := eq_true p7
       replace q7 := eq_true q7
       go_wp2
       repeat (go_quiet (fail); try go_wp2)
       go_roundg k1
       case measure => have := HK1.out; omega
       case rel => exact ⟨(wrap64 (x5_1 + 1)), (by first | rfl | (simp; done) | (simp [*]; done)), H', ⟨by have := HK1.out; omega⟩, by repeat (first | exact Drawn0.refl _ | apply Drawn0.step)⟩
      ·
       rw [if_neg c8] at H
       have c8b0 : ((bt a0 x5_1) == (bt a1 x5_1)) = false := beq_eq_false_iff_ne.mpr c8
       have c8b1 : ((bt a0 x5_1) != (bt a1 x5_1)) = true := bne_iff_ne.mpr c8
       obtain rfl := Option.some.inj H
       have p6 : 0 ≤ (x5_1 : Int) := of_decide_eq_true (by first | (with_reducible assumption) | assumption)
       have q6 : x5_1 < (a0.size : Int) := of_decide_eq_true (by first | (with_reducible assumption) | assumption)
       have hx6 := bt_at a0 x5_1
       replace p6 := eq_true p6
       replace q6 := eq_true q6
       have p7 : 0 ≤ (x5_1 : Int) := of_decide_eq_true (by first | (with_reducible assumption) | assumption)
       have q7 : x5_1 < (a1.size : Int) := of_decide_eq_true (by first | (with_reducible assumption) | assumption)
       have hx7 := bt_at a1 x5_1
       replace p7 := eq_true p7
       replace q7 := eq_true q7
       go_wp2
       repeat (go_quiet (fail); try go_wp2)
       go_ret
       exact ⟨by first | rfl | (simp; done) | (simp [*]; done), by repeat (first | exact Drawn0.refl _ | apply Drawn0.step)⟩
     ·
      rw [if_neg c5] at H
      exact absurd H (by simp)
    ·
     rw [if_neg c4] at H
     have c4b0 : decide (x5_1 < (a1.size : Int)) = false := decide_eq_false c4
     clear c4
     obtain rfl := Option.some.inj H
     go_wp2
     repeat (go_quiet (fail); try go_wp2)
     go_ret
     exact ⟨by first | rfl | (simp; done) | (simp [*]; done), by repeat (first | exact Drawn0.refl _ | apply Drawn0.step)⟩
   ·
    rw [if_neg c3] at H
    have c3b0 : decide (x5_1 < (a0.size : Int)) = false := decide_eq_false c3
    clear c3
    obtain rfl := Option.some.inj H
    go_wp2
    repeat (go_quiet (fail); try go_wp2)
    go_ret
    exact ⟨by first | rfl | (simp; done) | (simp [*]; done), by repeat (first | exact Drawn0.refl _ | apply Drawn0.step)⟩

mutual
def spec_l13Build.j0 : Nat → List ByteArray → List (S64) → Int → Bool → ByteArray → Bool → Int → Option ((List (S64)))
 | 0, _, _, _, _, _, _, _ => none
 | k + 1, x0, x3, x9, x32, x312000, x312001, x312002 => if x32 = true then (if 1 ≤ (x0.length : Int) then (spec_l13Build.j1 k (x0.drop 1) x3 x9 x312000 true x312002) else (none)) else (spec_l13Build.j1 k x0 x3 x9 x312000 x312001 x312002)
def spec_l13Build.j1 : Nat → List ByteArray → List (S64) → Int → ByteArray → Bool → Int → Option ((List (S64)))
 | 0, _, _, _, _, _, _ => none
 | k + 1, x0, x3, x9, x312000, x312001, x312002 => if x3.length < 4398046511104 then (spec_l13Build.l0 k x0 (x3 ++ [(⟨x312000, x312001, x312002⟩ : S64)]) x9) else (none)
def spec_l13Build.l0 : Nat → List ByteArray → List (S64) → Int → Option ((List (S64)))
 | 0, _, _, _ => none
 | k + 1, x0, x3, x9 => if (x0.length : Int) > 0 then (spec_l13Build.l1 k x0 x3 x9 1) else (some x3)
def spec_l13Build.j4 : Nat → List ByteArray → List (S64) → Int → Int → Option ((List (S64)))
 | 0, _, _, _, _ => none
 | k + 1, x0, x3, x9, x11 => if 0 < (x0.length : Int) then (if 1 ≤ x11 then (if x11 ≤ (x0.length : Int) then ((some ((x0.take (x11 : Int).toNat).drop 1 : List ByteArray)).bind fun y324 => (spec_l13Build.l2 k x0 x3 x9 x11 ((rdOf ByteArray.empty x0 0).size : Int) y324 (y324.length : Int) 0)) else (none)) else (none)) else (none)
def spec_l13Build.l2 : Nat → List ByteArray → List (S64) → Int → Int → Int → List ByteArray → Int → Int → Option ((List (S64)))
 | 0, _, _, _, _, _, _, _, _ => none
 | k + 1, x0, x3, x9, x11, x12, x67, x68, x69 => if x69 < x68 then (if 0 ≤ x69 then (if x69 < (x67.length : Int) then (if 0 < (x0.length : Int) then ((spec_l12Common.f k (rdOf ByteArray.empty x67 x69) (rdOf ByteArray.empty x0 0)).bind fun t331 => (if t331 < x12 then (spec_l13Build.l2 k x0 x3 x9 x11 t331 x67 x68 (wrap64 (x69 + 1))) else (spec_l13Build.l2 k x0 x3 x9 x11 x12 x67 x68 (wrap64 (x69 + 1))))) else (none)) else (none)) else (none)) else (if 0 ≤ x11 then (if x11 ≤ (x0.length : Int) then ((some (x0.take (x11 : Int).toNat : List ByteArray)).bind fun y332 => (spec_l13Build.l3 k x0 x3 x9 x11 x12 ([] : List ByteArray) y332 (y332.length : Int) 0)) else (none)) else (none))
def spec_l13Build.l3 : Nat → List ByteArray → List (S64) → Int → Int → Int → List ByteArray → List ByteArray → Int → Int → Option ((List (S64)))
 | 0, _, _, _, _, _, _, _, _, _ => none
 | k + 1, x0, x3, x9, x11, x12, x16, x85, x86, x87 => if x87 < x86 then (if 0 ≤ x87 then (if x87 < (x85.length : Int) then (if 0 ≤ x12 then (if x12 ≤ ((rdOf ByteArray.empty x85 x87).size : Int) then (if x16.length < 8796093022208 then (spec_l13Build.l3 k x0 x3 x9 x11 x12 (x16 ++ [(rdOf ByteArray.empty x85 x87).extract (x12 : Int).toNat (rdOf ByteArray.empty x85 x87).size]) x85 x86 (wrap64 (x87 + 1))) else (none)) else (none)) else (none)) else (none)) else (none)) else (if 0 < (x0.length : Int) then (if 0 ≤ x12 then (if x12 ≤ ((rdOf ByteArray.empty x0 0).size : Int) then ((spec_l13Build.f k x16 ((rdOf ByteArray.empty x0 0).extract 0 (x12 : Int).toNat) x9 x3).bind fun t342 => (if 0 ≤ x11 then (if x11 ≤ (x0.length : Int) then (spec_l13Build.l0 k (x0.drop (x11 : Int).toNat) t342 x9) else (none)) else (none))) else (none)) else (none)) else (none))
def spec_l13Build.l1 : Nat → List ByteArray → List (S64) → Int → Int → Option ((List (S64)))
 | 0, _, _, _, _ => none
 | k + 1, x0, x3, x9, x11 => if x11 < (x0.length : Int) then (if 0 ≤ x11 then (if 0 < ((rdOf ByteArray.empty x0 x11).size : Int) then (if 0 < (x0.length : Int) then (if 0 < ((rdOf ByteArray.empty x0 0).size : Int) then (if (bt (rdOf ByteArray.empty x0 x11) 0) = (bt (rdOf ByteArray.empty x0 0) 0) then (spec_l13Build.l1 k x0 x3 x9 (wrap64 (x11 + 1))) else (spec_l13Build.j4 k x0 x3 x9 x11)) else (none)) else (none)) else (none)) else (none)) else (spec_l13Build.j4 k x0 x3 x9 x11)
def spec_l13Build.f : Nat → List ByteArray → ByteArray → Int → List (S64) → Option ((List (S64)))
 | 0, _, _, _, _ => none
 | k + 1, l0, a1, a2, l3 => if (l0.length : Int) > 0 then (if 0 < (l0.length : Int) then (spec_l13Build.j0 k l0 l3 (l3.length : Int) ((rdOf ByteArray.empty l0 0).toList == ([] : List UInt8)) a1 false a2) else (none)) else (spec_l13Build.j0 k l0 l3 (l3.length : Int) false a1 false a2)
end
set_option maxHeartbeats 8000000 in
set_option maxRecDepth 100000 in
theorem spec_l13Build.calls (k : Nat) : ∀ (P0_ : Nat → Prop) (A0 : Option Addr) (c0 : Nat) (l0 : List ByteArray) (a1 : ByteArray) (a2 : Int) (P3_ : Nat → Prop) (u9000_ : Value) (l3 : List (S64)) (r : List (S64)) (w0 w : World) (hB : Below w0.heap.size w0 w) (hs0 : Kd.V Kd.string 9 w w0.heap.size (fun k_ => P0_ k_ ∧ some k_ ≠ (u9000_ : Value).ownBlock) (.slice A0 l0.length c0) l0) (ho3 : Kd.R k64 64 w w0.heap.size P3_ u9000_ l3) (h : spec_l13Build.f k l0 a1 a2 l3 = some r),
  Calls Try.prog 67 #[.slice A0 l0.length c0, .string a1, .int .i64 a2, u9000_] w fun e w' => ∃ v0_ : Value, e = .returned (v0_) ∧ Kd.R k64 64 w' w0.heap.size (fun k_ => (P3_ k_ ∨ w.heap.size ≤ k_)) v0_ r ∧ Below w0.heap.size w0 w' ∧ Kept w w' (fun k_ => P3_ k_) := by
 induction k using Nat.strongRecOn with
 | _ k ih =>
 intro P0_ A0 c0 l0 a1 a2 P3_ u9000_ l3 r w0 w hB hs0 ho3 h
 cases k with
 | zero => exact absurd h (by simp [spec_l13Build.f])
 | succ k =>
 have HZ0_ : Aside0 (∀ ad : Addr, A0 = some ad → 0 < l0.length → ad.block < w.heap.size) := ⟨fun ad e_ hp_ => by
  obtain ⟨ad', e2, hx⟩ := Kd.at_string (Kd.V_reads' hs0).2.2 0 (by omega) (by omega)
  rw [e_] at e2
  injection e2 with e2
  subst e2
  have h_ := World.block_lt_of_cell? w _ hx
  rw [add_block] at h_
  exact h_⟩
 simp only [spec_l13Build.f] at h
 have hu64 := Try.underlying64
 have HO0 := aM (show Kd.V Kd.string 9 w w0.heap.size (fun k_ => ((P3_ k_ ∨ P0_ k_) ∨ w.heap.size ≤ k_) ∧ some k_ ≠ (u9000_ : Value).ownBlock) (.slice A0 l0.length c0) l0 from Kd.V_mono hs0 (fun k_ hk => ⟨.inl (.inr hk.1), hk.2⟩))
 have HO3 := aM (show Kd.R k64 64 w w0.heap.size (fun k_ => (P3_ k_ ∨ w.heap.size ≤ k_)) u9000_ l3 from Kd.R_mono ho3 (fun k_ hk => (.inl hk)))
 have HK := aM (Kept.refl w (fun k_ => P3_ k_))
 have HW0 := aM hB.size
 have HB := aM hB
 clear hB
 have H : (if (l0.length : Int) > 0 then (if 0 < (l0.length : Int) then (spec_l13Build.j0 k l0 l3 (l3.length : Int) ((rdOf ByteArray.empty l0 0).toList == ([] : List UInt8)) a1 false a2) else (none)) else (spec_l13Build.j0 k l0 l3 (l3.length : Int) false a1 false a2)) = some r := h
 clear h
 have HC5 := aM H
 clear H
 obtain ⟨Ao6, co6, eo6⟩ := Kd.R_slice HO3.out
 subst eo6
 go_enter Try.func67, Try.ntmps67
 go_upto_region 3 with (first | ((with_reducible refine gate_dst (N := 10) rfl ?_); refine box_event ?hg (N := 10) ?hd (cs := #[.string (⟨#[]⟩ : ByteArray), .bool false, .int .i64 0]) (t := 64) ?hr ?_; (case hd => rfl); (case hg => rfl); (case hr => first | (go_simp; done) | (go_simp; rfl)); intro gb311 hg w7 hbox hb; have n0_ := aM (Kd.R_below (Kd.R_elderB (by (with_reducible repeat (first | apply Kd.R_alloc | apply Kd.R_drewN | apply Kd.R_drew)); exact HO3.out) gb311 (Nat.le_of_eq hg.symm)) hb); have n1_ := aM (Kd.V_below (Kd.V_elderB (by (with_reducible repeat (first | apply Kd.V_alloc | apply Kd.V_drewN | apply Kd.V_drew)); exact HO0.out) gb311 (Nat.le_of_eq hg.symm)) hb); have n2_ := aM (Kept.below (S := (fun k_ => P3_ k_)) (by repeat (first | (with_reducible first | exact HK.out | apply Kept.alloc | apply Kept.drewN | apply Kept.drew) | exact HK.out)) hb); have n3_ := aM (below_step (by repeat (first | (with_reducible first | exact HB.out | apply below_alloc | apply pw_below_drewN | apply below_drew1) | exact HB.out)) hb); have n4_ := aM (hbox); have n5_ := aM ((by rw [hg]; exact (by first | exact HK.out.1 | exact (show Kept w _ (fun k_ => P3_ k_) from by repeat (first | (with_reducible first | exact HK.out | apply Kept.alloc | apply Kept.drewN | apply Kept.drew) | exact HK.out)).1) : w.heap.size ≤ gb311)); have n6_ := aM ((by rw [hg]; exact (below_size (by repeat (first | (with_reducible first | exact HB.out | apply below_alloc | apply pw_below_drewN | apply below_drew1) | exact HB.out))) : w0.heap.size ≤ gb311)); clear HO3; clear HO0; clear HK; clear HB; have HO3 := n0_; have HO0 := n1_; have HK := n2_; have HB := n3_; have BK311 := n4_; have GW311 := n5_; have GE311 := n6_; clear n0_ n1_ n2_ n3_ n4_ n5_ n6_; clear hb hbox hg; have hcz8_0 : w7.cell? ⟨gb311, 0, none⟩ = some (.string (⟨#[]⟩ : ByteArray)) := (blk_cell BK311.out 0).trans rfl; have hcz8_1 : w7.cell? ⟨gb311, 1, none⟩ = some (.bool false) := (blk_cell BK311.out 1).trans rfl; have hcz8_2 : w7.cell? ⟨gb311, 2, none⟩ = some (.int .i64 0) := (blk_cell BK311.out 2).trans rfl; have hfz8_0 := blk_frozen BK311.out 0; have hfz8_1 := blk_frozen BK311.out 1; have hfz8_2 := blk_frozen BK311.out 2))
 repeat (go_quiet (first | ((with_reducible refine gate_dst (N := 10) rfl ?_); refine box_event ?hg (N := 10) ?hd (cs := #[.string (⟨#[]⟩ : ByteArray), .bool false, .int .i64 0]) (t := 64) ?hr ?_; (case hd => rfl); (case hg => rfl); (case hr => first | (go_simp; done) | (go_simp; rfl)); intro gb311 hg w7 hbox hb; have n0_ := aM (Kd.R_below (Kd.R_elderB (by (with_reducible repeat (first | apply Kd.R_alloc | apply Kd.R_drewN | apply Kd.R_drew)); exact HO3.out) gb311 (Nat.le_of_eq hg.symm)) hb); have n1_ := aM (Kd.V_below (Kd.V_elderB (by (with_reducible repeat (first | apply Kd.V_alloc | apply Kd.V_drewN | apply Kd.V_drew)); exact HO0.out) gb311 (Nat.le_of_eq hg.symm)) hb); have n2_ := aM (Kept.below (S := (fun k_ => P3_ k_)) (by repeat (first | (with_reducible first | exact HK.out | apply Kept.alloc | apply Kept.drewN | apply Kept.drew) | exact HK.out)) hb); have n3_ := aM (below_step (by repeat (first | (with_reducible first | exact HB.out | apply below_alloc | apply pw_below_drewN | apply below_drew1) | exact HB.out)) hb); have n4_ := aM (hbox); have n5_ := aM ((by rw [hg]; exact (by first | exact HK.out.1 | exact (show Kept w _ (fun k_ => P3_ k_) from by repeat (first | (with_reducible first | exact HK.out | apply Kept.alloc | apply Kept.drewN | apply Kept.drew) | exact HK.out)).1) : w.heap.size ≤ gb311)); have n6_ := aM ((by rw [hg]; exact (below_size (by repeat (first | (with_reducible first | exact HB.out | apply below_alloc | apply pw_below_drewN | apply below_drew1) | exact HB.out))) : w0.heap.size ≤ gb311)); clear HO3; clear HO0; clear HK; clear HB; have HO3 := n0_; have HO0 := n1_; have HK := n2_; have HB := n3_; have BK311 := n4_; have GW311 := n5_; have GE311 := n6_; clear n0_ n1_ n2_ n3_ n4_ n5_ n6_; clear hb hbox hg; have hcz8_0 : w7.cell? ⟨gb311, 0, none⟩ = some (.string (⟨#[]⟩ : ByteArray)) := (blk_cell BK311.out 0).trans rfl; have hcz8_1 : w7.cell? ⟨gb311, 1, none⟩ = some (.bool false) := (blk_cell BK311.out 1).trans rfl; have hcz8_2 : w7.cell? ⟨gb311, 2, none⟩ = some (.int .i64 0) := (blk_cell BK311.out 2).trans rfl; have hfz8_0 := blk_frozen BK311.out 0; have hfz8_1 := blk_frozen BK311.out 1; have hfz8_2 := blk_frozen BK311.out 2)); go_upto_region 3 with (first | ((with_reducible refine gate_dst (N := 10) rfl ?_); refine box_event ?hg (N := 10) ?hd (cs := #[.string (⟨#[]⟩ : ByteArray), .bool false, .int .i64 0]) (t := 64) ?hr ?_; (case hd => rfl); (case hg => rfl); (case hr => first | (go_simp; done) | (go_simp; rfl)); intro gb311 hg w7 hbox hb; have n0_ := aM (Kd.R_below (Kd.R_elderB (by (with_reducible repeat (first | apply Kd.R_alloc | apply Kd.R_drewN | apply Kd.R_drew)); exact HO3.out) gb311 (Nat.le_of_eq hg.symm)) hb); have n1_ := aM (Kd.V_below (Kd.V_elderB (by (with_reducible repeat (first | apply Kd.V_alloc | apply Kd.V_drewN | apply Kd.V_drew)); exact HO0.out) gb311 (Nat.le_of_eq hg.symm)) hb); have n2_ := aM (Kept.below (S := (fun k_ => P3_ k_)) (by repeat (first | (with_reducible first | exact HK.out | apply Kept.alloc | apply Kept.drewN | apply Kept.drew) | exact HK.out)) hb); have n3_ := aM (below_step (by repeat (first | (with_reducible first | exact HB.out | apply below_alloc | apply pw_below_drewN | apply below_drew1) | exact HB.out)) hb); have n4_ := aM (hbox); have n5_ := aM ((by rw [hg]; exact (by first | exact HK.out.1 | exact (show Kept w _ (fun k_ => P3_ k_) from by repeat (first | (with_reducible first | exact HK.out | apply Kept.alloc | apply Kept.drewN | apply Kept.drew) | exact HK.out)).1) : w.heap.size ≤ gb311)); have n6_ := aM ((by rw [hg]; exact (below_size (by repeat (first | (with_reducible first | exact HB.out | apply below_alloc | apply pw_below_drewN | apply below_drew1) | exact HB.out))) : w0.heap.size ≤ gb311)); clear HO3; clear HO0; clear HK; clear HB; have HO3 := n0_; have HO0 := n1_; have HK := n2_; have HB := n3_; have BK311 := n4_; have GW311 := n5_; have GE311 := n6_; clear n0_ n1_ n2_ n3_ n4_ n5_ n6_; clear hb hbox hg; have hcz8_0 : w7.cell? ⟨gb311, 0, none⟩ = some (.string (⟨#[]⟩ : ByteArray)) := (blk_cell BK311.out 0).trans rfl; have hcz8_1 : w7.cell? ⟨gb311, 1, none⟩ = some (.bool false) := (blk_cell BK311.out 1).trans rfl; have hcz8_2 : w7.cell? ⟨gb311, 2, none⟩ = some (.int .i64 0) := (blk_cell BK311.out 2).trans rfl; have hfz8_0 := blk_frozen BK311.out 0; have hfz8_1 := blk_frozen BK311.out 1; have hfz8_2 := blk_frozen BK311.out 2)))
 (try simp only [Act.put, zSA, zSB, zSC])
 go_cut [32] (fun v32 wc => ∃ (kq : Nat) (x32_4 : Bool), v32 = .bool x32_4 ∧ Aside0 (spec_l13Build.j0 kq l0 l3 (l3.length : Int) x32_4 a1 false a2 = some r) ∧ Aside0 (kq ≤ k) ∧ Aside0 (Kd.V Kd.string 9 wc w0.heap.size (fun k_ => ((P3_ k_ ∨ P0_ k_) ∨ w.heap.size ≤ k_) ∧ some k_ ≠ ((.slice Ao6 l3.length co6) : Value).ownBlock ∧ k_ ≠ gb311) (.slice A0 l0.length c0) l0) ∧ Aside0 (Kd.R k64 64 wc w0.heap.size (fun k_ => (P3_ k_ ∨ w.heap.size ≤ k_) ∧ k_ ≠ gb311) (.slice Ao6 l3.length co6) l3) ∧ Aside0 (wc.heap[gb311]? = some (.cells #[.string a1, .bool false, .int .i64 a2] 64 (0, 0))) ∧ Aside0 (Kept w wc (fun k_ => P3_ k_)) ∧ Aside0 (Below w0.heap.size w0 wc))
 case first =>
  have H := HC5.out
  clear HC5
  by_cases c9 : (l0.length : Int) > 0
  ·
   rw [if_pos c9] at H
   have c9b0 : decide (0 < (l0.length : Int)) = true := decide_eq_true c9
   have c9b1 : decide (0 < l0.length) = true := decide_eq_true (by omega)
   clear c9
   (first | rw [c9b0] | (simp only [i64_w, i32_w]; rw [c9b0]) | skip)
   by_cases c10 : 0 < (l0.length : Int)
   ·
    rw [if_pos c10] at H
    have c10b0 : decide (0 < (l0.length : Int)) = true := decide_eq_true c10
    have c10b1 : decide (0 < l0.length) = true := decide_eq_true (by omega)
    clear c10
    have H' := aM H
    clear H
    have p312 : 0 ≤ (0 : Int) := (by omega)
    have q312 : 0 < (l0.length : Int) := of_decide_eq_true (by first | (with_reducible assumption) | assumption)
    obtain ⟨ad312, e312, hx312_0⟩ := Kd.at_string (Kd.V_reads' HO0.out).2.2 0 p312 q312
    cases e312
    have qi312 : (0 < l0.length) = True := eq_true (by omega)
    (try rw [show ((0 : Int)).toNat = 0 from rfl] at hx312_0)
    (try rw [Addr.add_zero'] at hx312_0)
    have hn312_0 : ad312.block ≠ gb311 := (fun e_ => Nat.lt_irrefl _ (Nat.lt_of_lt_of_le (HZ0_.out _ rfl (by omega)) (e_ ▸ GW311.out)))
    have hn312_1 : ad312.block ≠ gb311 := (fun e_ => Nat.lt_irrefl _ (Nat.lt_of_lt_of_le (HZ0_.out _ rfl (by omega)) (e_ ▸ GW311.out)))
    have hn312_2 : ad312.block ≠ gb311 := (fun e_ => Nat.lt_irrefl _ (Nat.lt_of_lt_of_le (HZ0_.out _ rfl (by omega)) (e_ ▸ GW311.out)))
    replace hx312_0 := (cell_far (p := ⟨gb311, 0, none⟩) (by first | (rw [add_block]; exact hn312_0) | (show (Addr.add _ _).block ≠ _; rw [add_block]; exact hn312_0) | exact hn312_0) (.string a1)).trans hx312_0
    replace hx312_0 := (cell_far (p := ⟨gb311, 1, none⟩) (by first | (rw [add_block]; exact hn312_1) | (show (Addr.add _ _).block ≠ _; rw [add_block]; exact hn312_1) | exact hn312_1) (.bool false)).trans hx312_0
    replace hx312_0 := (cell_far (p := ⟨gb311, 2, none⟩) (by first | (rw [add_block]; exact hn312_2) | (show (Addr.add _ _).block ≠ _; rw [add_block]; exact hn312_2) | exact hn312_2) (.int .i64 a2)).trans hx312_0
    (try have hy312_0 := fun (n_ : Nat) => (show (((((w7.drewN n_).setCell ⟨gb311, 0, none⟩ (.string a1)).setCell ⟨gb311, 1, none⟩ (.bool false)).setCell ⟨gb311, 2, none⟩ (.int .i64 a2))).cell? _ = some _ from hx312_0))
    clear hn312_0
    clear hn312_1
    clear hn312_2
    replace p312 := eq_true p312
    replace q312 := eq_true q312
    go_wp2
    repeat (go_quiet (fail); try go_wp2)
    go_meet
    case rel => exact ⟨_, (((rdOf ByteArray.empty l0 0).toList == ([] : List UInt8))), (by first | rfl | (simp; done) | (simp [*]; done)), H', ⟨by first | omega | exact Nat.le_refl _⟩, ⟨by (with_reducible repeat (first | apply Kd.V_alloc | apply Kd.V_drewN | apply Kd.V_drew)); exact Kd.V_mono (Kd.V_far (p := ⟨gb311, 2, none⟩) (Kd.V_far (p := ⟨gb311, 1, none⟩) (Kd.V_far (p := ⟨gb311, 0, none⟩) (Kd.V_mono HO0.out (fun k_ hk => (⟨hk, hk.2⟩ : _ ∧ k_ ≠ gb311))) (fun _ hk => hk.2) (.string a1)) (fun _ hk => hk.2) (.bool false)) (fun _ hk => hk.2) (.int .i64 a2)) (fun _ hk => ⟨hk.1.1.1, ⟨hk.1.1.2, hk.1.2⟩⟩)⟩, ⟨by (with_reducible repeat (first | apply Kd.R_alloc | apply Kd.R_drewN | apply Kd.R_drew)); exact Kd.R_mono (Kd.R_far (p := ⟨gb311, 2, none⟩) (Kd.R_far (p := ⟨gb311, 1, none⟩) (Kd.R_far (p := ⟨gb311, 0, none⟩) (Kd.R_mono HO3.out (fun k_ hk => (⟨hk, hk.2⟩ : _ ∧ k_ ≠ gb311))) (fun _ hk => hk.2) (.string a1)) (fun _ hk => hk.2) (.bool false)) (fun _ hk => hk.2) (.int .i64 a2)) (fun _ hk => ⟨hk.1.1, hk.1.2⟩)⟩, ⟨by (with_reducible repeat (first | refine blk_drewN ?_ _ | refine blk_drew ?_ | refine blk_alloc ?_ _)); refine blk_put (cs := #[.string a1, .bool false, .int .i64 0]) ?_ 2 _ rfl; (with_reducible repeat (first | refine blk_drewN ?_ _ | refine blk_drew ?_ | refine blk_alloc ?_ _)); refine blk_put (cs := #[.string a1, .bool false, .int .i64 0]) ?_ 1 _ rfl; (with_reducible repeat (first | refine blk_drewN ?_ _ | refine blk_drew ?_ | refine blk_alloc ?_ _)); refine blk_put (cs := #[.string (⟨#[]⟩ : ByteArray), .bool false, .int .i64 0]) ?_ 0 _ rfl; (with_reducible repeat (first | refine blk_drewN ?_ _ | refine blk_drew ?_ | refine blk_alloc ?_ _)); exact BK311.out⟩, ⟨by repeat (first | (with_reducible first | exact HK.out | apply Kept.alloc | apply Kept.drewN | apply Kept.drew | refine Kept.setCell ?_ (.inr GW311.out) _) | exact HK.out)⟩, ⟨by repeat (first | (with_reducible first | exact HB.out | apply below_alloc | apply pw_below_drewN | apply below_drew1 | refine below_set ?_ GE311.out) | exact HB.out)⟩⟩
   ·
    rw [if_neg c10] at H
    exact absurd H (by simp)
  ·
   rw [if_neg c9] at H
   have c9b0 : decide (0 < (l0.length : Int)) = false := decide_eq_false c9
   have c9b1 : decide (0 < l0.length) = false := decide_eq_false (by omega)
   clear c9
   (first | rw [c9b0] | (simp only [i64_w, i32_w]; rw [c9b0]) | skip)
   have H' := aM H
   clear H
   go_wp2
   repeat (go_quiet (fail); try go_wp2)
   go_meet
   case rel => exact ⟨_, (false), (by first | rfl | (simp; done) | (simp [*]; done)), H', ⟨by first | omega | exact Nat.le_refl _⟩, ⟨by (with_reducible repeat (first | apply Kd.V_alloc | apply Kd.V_drewN | apply Kd.V_drew)); exact Kd.V_mono (Kd.V_far (p := ⟨gb311, 2, none⟩) (Kd.V_far (p := ⟨gb311, 1, none⟩) (Kd.V_far (p := ⟨gb311, 0, none⟩) (Kd.V_mono HO0.out (fun k_ hk => (⟨hk, hk.2⟩ : _ ∧ k_ ≠ gb311))) (fun _ hk => hk.2) (.string a1)) (fun _ hk => hk.2) (.bool false)) (fun _ hk => hk.2) (.int .i64 a2)) (fun _ hk => ⟨hk.1.1.1, ⟨hk.1.1.2, hk.1.2⟩⟩)⟩, ⟨by (with_reducible repeat (first | apply Kd.R_alloc | apply Kd.R_drewN | apply Kd.R_drew)); exact Kd.R_mono (Kd.R_far (p := ⟨gb311, 2, none⟩) (Kd.R_far (p := ⟨gb311, 1, none⟩) (Kd.R_far (p := ⟨gb311, 0, none⟩) (Kd.R_mono HO3.out (fun k_ hk => (⟨hk, hk.2⟩ : _ ∧ k_ ≠ gb311))) (fun _ hk => hk.2) (.string a1)) (fun _ hk => hk.2) (.bool false)) (fun _ hk => hk.2) (.int .i64 a2)) (fun _ hk => ⟨hk.1.1, hk.1.2⟩)⟩, ⟨by (with_reducible repeat (first | refine blk_drewN ?_ _ | refine blk_drew ?_ | refine blk_alloc ?_ _)); refine blk_put (cs := #[.string a1, .bool false, .int .i64 0]) ?_ 2 _ rfl; (with_reducible repeat (first | refine blk_drewN ?_ _ | refine blk_drew ?_ | refine blk_alloc ?_ _)); refine blk_put (cs := #[.string a1, .bool false, .int .i64 0]) ?_ 1 _ rfl; (with_reducible repeat (first | refine blk_drewN ?_ _ | refine blk_drew ?_ | refine blk_alloc ?_ _)); refine blk_put (cs := #[.string (⟨#[]⟩ : ByteArray), .bool false, .int .i64 0]) ?_ 0 _ rfl; (with_reducible repeat (first | refine blk_drewN ?_ _ | refine blk_drew ?_ | refine blk_alloc ?_ _)); exact BK311.out⟩, ⟨by repeat (first | (with_reducible first | exact HK.out | apply Kept.alloc | apply Kept.drewN | apply Kept.drew | refine Kept.setCell ?_ (.inr GW311.out) _) | exact HK.out)⟩, ⟨by repeat (first | (with_reducible first | exact HB.out | apply below_alloc | apply pw_below_drewN | apply below_drew1 | refine below_set ?_ GE311.out) | exact HB.out)⟩⟩
 case rest =>
  clear HC5
  try clear c1
  try clear p2
  try clear p3
  try clear q3
  try clear hx3
  try clear qi3
  try clear c6
  try clear c9
  try clear c9b0
  try clear c9b1
  try clear c10
  try clear c10b0
  try clear c10b1
  try clear hcz8_0
  try clear hcz8_1
  try clear hcz8_2
  try clear hfz8_0
  try clear hfz8_1
  try clear hfz8_2
  try clear hx312_0
  try clear p312
  try clear q312
  obtain ⟨kq, x32_4, rfl, HA, HJ4, HO_0, HO_3, BK311, HK, HB⟩ := hcut
  cases kq with
  | zero => exact absurd HA.out (by simp [spec_l13Build.j0])
  | succ kj4 =>
   have H := HA.out
   clear HA
   simp only [spec_l13Build.j0] at H
   have HC11 := aM H
   clear H
   go_upto_if 32 with (fail)
   repeat (go_quiet (fail); go_upto_if 32 with (fail))
   go_cut [0] (fun v0 wc => ∃ (kq : Nat) (x0_10 : List ByteArray) (x312001_10 : Bool), Aside0 (spec_l13Build.j1 kq x0_10 l3 (l3.length : Int) a1 x312001_10 a2 = some r) ∧ Aside0 (kq ≤ kj4) ∧ Aside0 (Kd.V Kd.string 9 wc w0.heap.size (fun k_ => ((P3_ k_ ∨ P0_ k_) ∨ w.heap.size ≤ k_) ∧ some k_ ≠ ((.slice Ao6 l3.length co6) : Value).ownBlock ∧ k_ ≠ gb311) v0 x0_10) ∧ Aside0 (Kd.R k64 64 wc w0.heap.size (fun k_ => (P3_ k_ ∨ w.heap.size ≤ k_) ∧ k_ ≠ gb311) (.slice Ao6 l3.length co6) l3) ∧ Aside0 (wc.heap[gb311]? = some (.cells #[.string a1, .bool x312001_10, .int .i64 a2] 64 (0, 0))) ∧ Aside0 (Kept w wc (fun k_ => P3_ k_)) ∧ Aside0 (Below w0.heap.size w0 wc))
   case first =>
    have H := HC11.out
    clear HC11
    by_cases c12 : x32_4 = true
    ·
     subst c12
     have H1 : (if 1 ≤ (l0.length : Int) then (spec_l13Build.j1 kj4 (l0.drop 1) l3 (l3.length : Int) a1 true a2) else (none)) = some r := by rw [if_pos rfl] at H; exact H
     clear H
     have H := H1
     clear H1
     by_cases c13 : 1 ≤ (l0.length : Int)
     ·
      rw [if_pos c13] at H
      have c13b0 := eq_true c13
      have c13b1 : decide (1 ≤ (l0.length : Int)) = true := decide_eq_true c13
      clear c13
      obtain ⟨y313, hy313⟩ : ∃ y_ : List ByteArray, y_ = (l0.drop 1) := ⟨_, rfl⟩
      replace H : (spec_l13Build.j1 kj4 y313 l3 (l3.length : Int) a1 true a2) = some r := by first | (rw [hy313]; with_reducible exact H) | (have H2_ := (Option.bind_some _ _).symm.trans H; rw [hy313]; with_reducible exact H2_) | (have H2_ := (Option.bind_some _ _).symm.trans H; with_reducible exact H2_) | with_reducible exact H | (rw [hy313]; exact H) | exact H
      have Ny313 := aM hy313
      clear hy313
      have H' := aM H
      clear H
      have hcz14_0 : wc.cell? ⟨gb311, 0, none⟩ = some (.string a1) := (blk_cell BK311.out 0).trans rfl
      have hcz14_1 : wc.cell? ⟨gb311, 1, none⟩ = some (.bool false) := (blk_cell BK311.out 1).trans rfl
      have hcz14_2 : wc.cell? ⟨gb311, 2, none⟩ = some (.int .i64 a2) := (blk_cell BK311.out 2).trans rfl
      have hfz14_0 := blk_frozen BK311.out 0
      have hfz14_1 := blk_frozen BK311.out 1
      have hfz14_2 := blk_frozen BK311.out 2
      go_wp2_with (first | ((with_reducible refine gate_store (t := 4) (p := 33) rfl ?_); (try (rw [drewN_self wc]; generalize hq_ : World.drewN wc _ = wc; have n0_ := aM (Kd.V_at hq_ HO_0.out); have n1_ := aM (Kd.R_at hq_ HO_3.out); have n2_ := aM (blk_at hq_ BK311.out); have n3_ := aM (kept_at hq_ HK.out); have n4_ := aM (below_at hq_ HB.out); clear hq_ HO_0 HO_3 BK311 HK HB; have HO_0 := n0_; have HO_3 := n1_; have BK311 := n2_; have HK := n3_; have HB := n4_; clear n0_ n1_ n2_ n3_ n4_)); refine store_event (t := 4) (p := 33) (v := ?vo_w15) (w1 := (wc.setCell ⟨gb311, 1, none⟩ (.bool true))) ?hg ?ho ?hn ?hr ?_; (case ho => rfl); (case hg => rfl); (case hn => rfl); (case hr => first | (go_simp; done) | (go_simp; rfl)); intro w15 hw; have n0_ : Aside0 (Kd.V Kd.string 9 w15 w0.heap.size (fun k_ => ((P3_ k_ ∨ P0_ k_) ∨ w.heap.size ≤ k_) ∧ some k_ ≠ (.slice Ao6 l3.length co6 : Value).ownBlock ∧ k_ ≠ gb311) (.slice A0 l0.length c0) l0) := ⟨(by rw [hw]; exact (by (with_reducible repeat (first | apply Kd.V_alloc | apply Kd.V_drewN | apply Kd.V_drew)); exact Kd.V_mono (Kd.V_far (p := ⟨gb311, 1, none⟩) (Kd.V_mono HO_0.out (fun k_ hk => (⟨hk, hk.2.2⟩ : _ ∧ k_ ≠ gb311))) (fun _ hk => hk.2) (.bool true)) (fun _ hk => ⟨hk.1.1, ⟨hk.1.2.1, hk.1.2.2⟩⟩)))⟩; have n1_ : Aside0 (Kd.R k64 64 w15 w0.heap.size (fun k_ => (P3_ k_ ∨ w.heap.size ≤ k_) ∧ k_ ≠ gb311) (.slice Ao6 l3.length co6) l3) := ⟨(by rw [hw]; exact (by (with_reducible repeat (first | apply Kd.R_alloc | apply Kd.R_drewN | apply Kd.R_drew)); exact Kd.R_mono (Kd.R_far (p := ⟨gb311, 1, none⟩) (Kd.R_mono HO_3.out (fun k_ hk => (⟨hk, hk.2⟩ : _ ∧ k_ ≠ gb311))) (fun _ hk => hk.2) (.bool true)) (fun _ hk => ⟨hk.1.1, hk.1.2⟩)))⟩; have n2_ : Aside0 (w15.heap[gb311]? = some (.cells #[.string a1, .bool true, .int .i64 a2] 64 (0, 0))) := ⟨(by rw [hw]; exact (by (with_reducible repeat (first | refine blk_drewN ?_ _ | refine blk_drew ?_ | refine blk_alloc ?_ _)); refine blk_put (cs := #[.string a1, .bool false, .int .i64 a2]) ?_ 1 _ rfl; (with_reducible repeat (first | refine blk_drewN ?_ _ | refine blk_drew ?_ | refine blk_alloc ?_ _)); exact BK311.out))⟩; have n3_ : Aside0 (Kept w w15 (fun k_ => P3_ k_)) := ⟨(by rw [hw]; exact (by repeat (first | (with_reducible first | exact HK.out | apply Kept.alloc | apply Kept.drewN | apply Kept.drew | refine Kept.setCell ?_ (.inr GW311.out) _) | exact HK.out)))⟩; have n4_ : Aside0 (Below w0.heap.size w0 w15) := ⟨(by rw [hw]; exact (by repeat (first | (with_reducible first | exact HB.out | apply below_alloc | apply pw_below_drewN | apply below_drew1 | refine below_set ?_ GE311.out) | exact HB.out)))⟩; clear hw; clear HO_0; clear HO_3; clear BK311; clear HK; clear HB; have HO_0 := n0_; have HO_3 := n1_; have BK311 := n2_; have HK := n3_; have HB := n4_; clear n0_ n1_ n2_ n3_ n4_; have q16 : (1 : Int) ≤ ((l0.length : Int) : Int) := of_decide_eq_true (by first | (with_reducible assumption) | assumption); obtain ⟨i016, hi016, _, hsz16, _⟩ := info_parts info9; have hroom16 : l0.length ≤ c0 := (Kd.V_reads' HO_0.out).2.1; have hC16 : Kd.F Kd.string _ _ A0 l0.length l0 := (Kd.V_at (base := w0.heap.size) HO_0.out).2.2; have hcut16 := cut_from (P := Try.prog) 22 9 .i64 Try.underlying22 hi016 1 hsz16 A0 l0.length c0 1 (by omega) q16; have hr16 := Kd.F_cut (m := (1 : Int).toNat) (c := c0) hC16 (by omega) hroom16; obtain ⟨A16, hA16⟩ : ∃ A1, A1 = (if c0 = (1 : Int).toNat then A0 else (A0 : Option Addr).map (·.add ((1 : Int).toNat * 1))) := ⟨_, rfl⟩; obtain ⟨c16, hc16⟩ : ∃ c1, c1 = c0 - (1 : Int).toNat := ⟨_, rfl⟩; have hy16 : y313.length = l0.length - (1 : Int).toNat := (by rw [Ny313.out, List.length_drop] <;> omega); rw [show (l0).drop (1 : Int).toNat = y313 from Ny313.out.symm] at hr16; replace hr16 : Kd.F Kd.string _ _ A16 y313.length y313 := (by rw [hA16]; exact hr16); rw [← hy16, ← hA16, ← hc16] at hcut16; have HO317 := aM (show Kd.V Kd.string 9 _ w0.heap.size _ (.slice A16 y313.length c16) y313 from Kd.V_mk (by rw [hy16, hc16]; exact Nat.sub_le_sub_right hroom16 _) hr16); have HC317 := aM (show y313.length ≤ c16 from by rw [hy16, hc16]; exact Nat.sub_le_sub_right hroom16 _); clear hr16 hC16 hroom16 hi016 hsz16 hc16; have KY16 := aM hy16; have KA16 := aM hA16; clear hy16 hA16; replace q16 := eq_true q16))
      repeat (go_quiet (first | ((with_reducible refine gate_store (t := 4) (p := 33) rfl ?_); (try (rw [drewN_self wc]; generalize hq_ : World.drewN wc _ = wc; have n0_ := aM (Kd.V_at hq_ HO_0.out); have n1_ := aM (Kd.R_at hq_ HO_3.out); have n2_ := aM (blk_at hq_ BK311.out); have n3_ := aM (kept_at hq_ HK.out); have n4_ := aM (below_at hq_ HB.out); clear hq_ HO_0 HO_3 BK311 HK HB; have HO_0 := n0_; have HO_3 := n1_; have BK311 := n2_; have HK := n3_; have HB := n4_; clear n0_ n1_ n2_ n3_ n4_)); refine store_event (t := 4) (p := 33) (v := ?vo_w15) (w1 := (wc.setCell ⟨gb311, 1, none⟩ (.bool true))) ?hg ?ho ?hn ?hr ?_; (case ho => rfl); (case hg => rfl); (case hn => rfl); (case hr => first | (go_simp; done) | (go_simp; rfl)); intro w15 hw; have n0_ : Aside0 (Kd.V Kd.string 9 w15 w0.heap.size (fun k_ => ((P3_ k_ ∨ P0_ k_) ∨ w.heap.size ≤ k_) ∧ some k_ ≠ (.slice Ao6 l3.length co6 : Value).ownBlock ∧ k_ ≠ gb311) (.slice A0 l0.length c0) l0) := ⟨(by rw [hw]; exact (by (with_reducible repeat (first | apply Kd.V_alloc | apply Kd.V_drewN | apply Kd.V_drew)); exact Kd.V_mono (Kd.V_far (p := ⟨gb311, 1, none⟩) (Kd.V_mono HO_0.out (fun k_ hk => (⟨hk, hk.2.2⟩ : _ ∧ k_ ≠ gb311))) (fun _ hk => hk.2) (.bool true)) (fun _ hk => ⟨hk.1.1, ⟨hk.1.2.1, hk.1.2.2⟩⟩)))⟩; have n1_ : Aside0 (Kd.R k64 64 w15 w0.heap.size (fun k_ => (P3_ k_ ∨ w.heap.size ≤ k_) ∧ k_ ≠ gb311) (.slice Ao6 l3.length co6) l3) := ⟨(by rw [hw]; exact (by (with_reducible repeat (first | apply Kd.R_alloc | apply Kd.R_drewN | apply Kd.R_drew)); exact Kd.R_mono (Kd.R_far (p := ⟨gb311, 1, none⟩) (Kd.R_mono HO_3.out (fun k_ hk => (⟨hk, hk.2⟩ : _ ∧ k_ ≠ gb311))) (fun _ hk => hk.2) (.bool true)) (fun _ hk => ⟨hk.1.1, hk.1.2⟩)))⟩; have n2_ : Aside0 (w15.heap[gb311]? = some (.cells #[.string a1, .bool true, .int .i64 a2] 64 (0, 0))) := ⟨(by rw [hw]; exact (by (with_reducible repeat (first | refine blk_drewN ?_ _ | refine blk_drew ?_ | refine blk_alloc ?_ _)); refine blk_put (cs := #[.string a1, .bool false, .int .i64 a2]) ?_ 1 _ rfl; (with_reducible repeat (first | refine blk_drewN ?_ _ | refine blk_drew ?_ | refine blk_alloc ?_ _)); exact BK311.out))⟩; have n3_ : Aside0 (Kept w w15 (fun k_ => P3_ k_)) := ⟨(by rw [hw]; exact (by repeat (first | (with_reducible first | exact HK.out | apply Kept.alloc | apply Kept.drewN | apply Kept.drew | refine Kept.setCell ?_ (.inr GW311.out) _) | exact HK.out)))⟩; have n4_ : Aside0 (Below w0.heap.size w0 w15) := ⟨(by rw [hw]; exact (by repeat (first | (with_reducible first | exact HB.out | apply below_alloc | apply pw_below_drewN | apply below_drew1 | refine below_set ?_ GE311.out) | exact HB.out)))⟩; clear hw; clear HO_0; clear HO_3; clear BK311; clear HK; clear HB; have HO_0 := n0_; have HO_3 := n1_; have BK311 := n2_; have HK := n3_; have HB := n4_; clear n0_ n1_ n2_ n3_ n4_; have q16 : (1 : Int) ≤ ((l0.length : Int) : Int) := of_decide_eq_true (by first | (with_reducible assumption) | assumption); obtain ⟨i016, hi016, _, hsz16, _⟩ := info_parts info9; have hroom16 : l0.length ≤ c0 := (Kd.V_reads' HO_0.out).2.1; have hC16 : Kd.F Kd.string _ _ A0 l0.length l0 := (Kd.V_at (base := w0.heap.size) HO_0.out).2.2; have hcut16 := cut_from (P := Try.prog) 22 9 .i64 Try.underlying22 hi016 1 hsz16 A0 l0.length c0 1 (by omega) q16; have hr16 := Kd.F_cut (m := (1 : Int).toNat) (c := c0) hC16 (by omega) hroom16; obtain ⟨A16, hA16⟩ : ∃ A1, A1 = (if c0 = (1 : Int).toNat then A0 else (A0 : Option Addr).map (·.add ((1 : Int).toNat * 1))) := ⟨_, rfl⟩; obtain ⟨c16, hc16⟩ : ∃ c1, c1 = c0 - (1 : Int).toNat := ⟨_, rfl⟩; have hy16 : y313.length = l0.length - (1 : Int).toNat := (by rw [Ny313.out, List.length_drop] <;> omega); rw [show (l0).drop (1 : Int).toNat = y313 from Ny313.out.symm] at hr16; replace hr16 : Kd.F Kd.string _ _ A16 y313.length y313 := (by rw [hA16]; exact hr16); rw [← hy16, ← hA16, ← hc16] at hcut16; have HO317 := aM (show Kd.V Kd.string 9 _ w0.heap.size _ (.slice A16 y313.length c16) y313 from Kd.V_mk (by rw [hy16, hc16]; exact Nat.sub_le_sub_right hroom16 _) hr16); have HC317 := aM (show y313.length ≤ c16 from by rw [hy16, hc16]; exact Nat.sub_le_sub_right hroom16 _); clear hr16 hC16 hroom16 hi016 hsz16 hc16; have KY16 := aM hy16; have KA16 := aM hA16; clear hy16 hA16; replace q16 := eq_true q16)); try go_wp2_with (first | ((with_reducible refine gate_store (t := 4) (p := 33) rfl ?_); (try (rw [drewN_self wc]; generalize hq_ : World.drewN wc _ = wc; have n0_ := aM (Kd.V_at hq_ HO_0.out); have n1_ := aM (Kd.R_at hq_ HO_3.out); have n2_ := aM (blk_at hq_ BK311.out); have n3_ := aM (kept_at hq_ HK.out); have n4_ := aM (below_at hq_ HB.out); clear hq_ HO_0 HO_3 BK311 HK HB; have HO_0 := n0_; have HO_3 := n1_; have BK311 := n2_; have HK := n3_; have HB := n4_; clear n0_ n1_ n2_ n3_ n4_)); refine store_event (t := 4) (p := 33) (v := ?vo_w15) (w1 := (wc.setCell ⟨gb311, 1, none⟩ (.bool true))) ?hg ?ho ?hn ?hr ?_; (case ho => rfl); (case hg => rfl); (case hn => rfl); (case hr => first | (go_simp; done) | (go_simp; rfl)); intro w15 hw; have n0_ : Aside0 (Kd.V Kd.string 9 w15 w0.heap.size (fun k_ => ((P3_ k_ ∨ P0_ k_) ∨ w.heap.size ≤ k_) ∧ some k_ ≠ (.slice Ao6 l3.length co6 : Value).ownBlock ∧ k_ ≠ gb311) (.slice A0 l0.length c0) l0) := ⟨(by rw [hw]; exact (by (with_reducible repeat (first | apply Kd.V_alloc | apply Kd.V_drewN | apply Kd.V_drew)); exact Kd.V_mono (Kd.V_far (p := ⟨gb311, 1, none⟩) (Kd.V_mono HO_0.out (fun k_ hk => (⟨hk, hk.2.2⟩ : _ ∧ k_ ≠ gb311))) (fun _ hk => hk.2) (.bool true)) (fun _ hk => ⟨hk.1.1, ⟨hk.1.2.1, hk.1.2.2⟩⟩)))⟩; have n1_ : Aside0 (Kd.R k64 64 w15 w0.heap.size (fun k_ => (P3_ k_ ∨ w.heap.size ≤ k_) ∧ k_ ≠ gb311) (.slice Ao6 l3.length co6) l3) := ⟨(by rw [hw]; exact (by (with_reducible repeat (first | apply Kd.R_alloc | apply Kd.R_drewN | apply Kd.R_drew)); exact Kd.R_mono (Kd.R_far (p := ⟨gb311, 1, none⟩) (Kd.R_mono HO_3.out (fun k_ hk => (⟨hk, hk.2⟩ : _ ∧ k_ ≠ gb311))) (fun _ hk => hk.2) (.bool true)) (fun _ hk => ⟨hk.1.1, hk.1.2⟩)))⟩; have n2_ : Aside0 (w15.heap[gb311]? = some (.cells #[.string a1, .bool true, .int .i64 a2] 64 (0, 0))) := ⟨(by rw [hw]; exact (by (with_reducible repeat (first | refine blk_drewN ?_ _ | refine blk_drew ?_ | refine blk_alloc ?_ _)); refine blk_put (cs := #[.string a1, .bool false, .int .i64 a2]) ?_ 1 _ rfl; (with_reducible repeat (first | refine blk_drewN ?_ _ | refine blk_drew ?_ | refine blk_alloc ?_ _)); exact BK311.out))⟩; have n3_ : Aside0 (Kept w w15 (fun k_ => P3_ k_)) := ⟨(by rw [hw]; exact (by repeat (first | (with_reducible first | exact HK.out | apply Kept.alloc | apply Kept.drewN | apply Kept.drew | refine Kept.setCell ?_ (.inr GW311.out) _) | exact HK.out)))⟩; have n4_ : Aside0 (Below w0.heap.size w0 w15) := ⟨(by rw [hw]; exact (by repeat (first | (with_reducible first | exact HB.out | apply below_alloc | apply pw_below_drewN | apply below_drew1 | refine below_set ?_ GE311.out) | exact HB.out)))⟩; clear hw; clear HO_0; clear HO_3; clear BK311; clear HK; clear HB; have HO_0 := n0_; have HO_3 := n1_; have BK311 := n2_; have HK := n3_; have HB := n4_; clear n0_ n1_ n2_ n3_ n4_; have q16 : (1 : Int) ≤ ((l0.length : Int) : Int) := of_decide_eq_true (by first | (with_reducible assumption) | assumption); obtain ⟨i016, hi016, _, hsz16, _⟩ := info_parts info9; have hroom16 : l0.length ≤ c0 := (Kd.V_reads' HO_0.out).2.1; have hC16 : Kd.F Kd.string _ _ A0 l0.length l0 := (Kd.V_at (base := w0.heap.size) HO_0.out).2.2; have hcut16 := cut_from (P := Try.prog) 22 9 .i64 Try.underlying22 hi016 1 hsz16 A0 l0.length c0 1 (by omega) q16; have hr16 := Kd.F_cut (m := (1 : Int).toNat) (c := c0) hC16 (by omega) hroom16; obtain ⟨A16, hA16⟩ : ∃ A1, A1 = (if c0 = (1 : Int).toNat then A0 else (A0 : Option Addr).map (·.add ((1 : Int).toNat * 1))) := ⟨_, rfl⟩; obtain ⟨c16, hc16⟩ : ∃ c1, c1 = c0 - (1 : Int).toNat := ⟨_, rfl⟩; have hy16 : y313.length = l0.length - (1 : Int).toNat := (by rw [Ny313.out, List.length_drop] <;> omega); rw [show (l0).drop (1 : Int).toNat = y313 from Ny313.out.symm] at hr16; replace hr16 : Kd.F Kd.string _ _ A16 y313.length y313 := (by rw [hA16]; exact hr16); rw [← hy16, ← hA16, ← hc16] at hcut16; have HO317 := aM (show Kd.V Kd.string 9 _ w0.heap.size _ (.slice A16 y313.length c16) y313 from Kd.V_mk (by rw [hy16, hc16]; exact Nat.sub_le_sub_right hroom16 _) hr16); have HC317 := aM (show y313.length ≤ c16 from by rw [hy16, hc16]; exact Nat.sub_le_sub_right hroom16 _); clear hr16 hC16 hroom16 hi016 hsz16 hc16; have KY16 := aM hy16; have KA16 := aM hA16; clear hy16 hA16; replace q16 := eq_true q16)))
      go_meet
      case rel => exact ⟨_, (y313), (true), H', ⟨by have := HJ4.out; first | omega | exact Nat.le_refl _⟩, ⟨by (with_reducible repeat (first | apply Kd.V_alloc | apply Kd.V_drewN | apply Kd.V_drew)); exact HO317.out⟩, ⟨by (with_reducible repeat (first | apply Kd.R_alloc | apply Kd.R_drewN | apply Kd.R_drew)); exact HO_3.out⟩, ⟨by (with_reducible repeat (first | refine blk_drewN ?_ _ | refine blk_drew ?_ | refine blk_alloc ?_ _)); exact BK311.out⟩, ⟨by repeat (first | (with_reducible first | exact HK.out | apply Kept.alloc | apply Kept.drewN | apply Kept.drew | refine Kept.setCell ?_ (.inr GW311.out) _) | exact HK.out)⟩, ⟨by repeat (first | (with_reducible first | exact HB.out | apply below_alloc | apply pw_below_drewN | apply below_drew1 | refine below_set ?_ GE311.out) | exact HB.out)⟩⟩
     ·
      rw [if_neg c13] at H
      exact absurd H (by simp)
    ·
     replace c12 := Bool.eq_false_iff.mpr c12
     subst c12
     have H1 : (spec_l13Build.j1 kj4 l0 l3 (l3.length : Int) a1 false a2) = some r := by rw [if_neg (show ¬ (false = true) by decide)] at H; exact H
     clear H
     have H := H1
     clear H1
     have H' := aM H
     clear H
     go_wp2
     repeat (go_quiet (fail); try go_wp2)
     go_meet
     case rel => exact ⟨_, (l0), (false), H', ⟨by have := HJ4.out; first | omega | exact Nat.le_refl _⟩, ⟨by (with_reducible repeat (first | apply Kd.V_alloc | apply Kd.V_drewN | apply Kd.V_drew)); exact HO_0.out⟩, ⟨by (with_reducible repeat (first | apply Kd.R_alloc | apply Kd.R_drewN | apply Kd.R_drew)); exact HO_3.out⟩, ⟨by (with_reducible repeat (first | refine blk_drewN ?_ _ | refine blk_drew ?_ | refine blk_alloc ?_ _)); exact BK311.out⟩, ⟨by repeat (first | (with_reducible first | exact HK.out | apply Kept.alloc | apply Kept.drewN | apply Kept.drew | refine Kept.setCell ?_ (.inr GW311.out) _) | exact HK.out)⟩, ⟨by repeat (first | (with_reducible first | exact HB.out | apply below_alloc | apply pw_below_drewN | apply below_drew1 | refine below_set ?_ GE311.out) | exact HB.out)⟩⟩
   case rest =>
    clear HC11
    try clear c1
    try clear q1
    try clear p2
    try clear p3
    try clear q3
    try clear hx3
    try clear qi3
    try clear c6
    try clear c9
    try clear c9b0
    try clear c9b1
    try clear c10
    try clear c10b0
    try clear c10b1
    try clear c12
    try clear c13
    try clear c13b0
    try clear c13b1
    try clear c16
    try clear q16
    try clear hcz14_0
    try clear hcz14_1
    try clear hcz14_2
    try clear hcz8_0
    try clear hcz8_1
    try clear hcz8_2
    try clear hfz14_0
    try clear hfz14_1
    try clear hfz14_2
    try clear hfz8_0
    try clear hfz8_1
    try clear hfz8_2
    try clear hx312_0
    try clear p2
    try clear p3
    try clear p312
    try clear q16
    try clear q3
    try clear q312
    obtain ⟨kq, x0_10, x312001_10, HA, HJ10, HO_0, HO_3, BK311, HK, HB⟩ := hcut
    cases kq with
    | zero => exact absurd HA.out (by simp [spec_l13Build.j1])
    | succ kj10 =>
     have H := HA.out
     clear HA
     simp only [spec_l13Build.j1] at H
     by_cases c17 : l3.length < 4398046511104
     ·
      rw [if_pos c17] at H
      have LMc17 := aM c17
      clear c17
      obtain ⟨y318, hy318⟩ : ∃ y_ : List (S64), y_ = (l3 ++ [(⟨a1, x312001_10, a2⟩ : S64)]) := ⟨_, rfl⟩
      replace H : (spec_l13Build.l0 kj10 x0_10 y318 (l3.length : Int)) = some r := by first | (rw [hy318]; with_reducible exact H) | (have H2_ := (Option.bind_some _ _).symm.trans H; rw [hy318]; with_reducible exact H2_) | (have H2_ := (Option.bind_some _ _).symm.trans H; with_reducible exact H2_) | with_reducible exact H | (rw [hy318]; exact H) | exact H
      have Ny318 := aM hy318
      clear hy318
      have H' := aM H
      clear H
      have hcz18_0 : wc.cell? ⟨gb311, 0, none⟩ = some (.string a1) := (blk_cell BK311.out 0).trans rfl
      have hcz18_1 : wc.cell? ⟨gb311, 1, none⟩ = some (.bool x312001_10) := (blk_cell BK311.out 1).trans rfl
      have hcz18_2 : wc.cell? ⟨gb311, 2, none⟩ = some (.int .i64 a2) := (blk_cell BK311.out 2).trans rfl
      have hfz18_0 := blk_frozen BK311.out 0
      have hfz18_1 := blk_frozen BK311.out 1
      have hfz18_2 := blk_frozen BK311.out 2
      go_wp2_with (first | ((with_reducible refine gate_builtin (b := .append) (xs := #[.tmp 36, .tmp 38]) rfl ?_); at_builtin; refine Kd.R_append k64 (w0 := w0) w0.heap.size rfl (.tmp 36) (.tmp 38) 24 64 (.agg #[(.string ⟨#[]⟩), (.bool false), (.int .i64 0)]) 32 rfl Try.underlying24 info64 rfl (by decide) (by omega) (.slice Ao6 l3.length co6) l3 (⟨a1, x312001_10, a2⟩ : S64) [.string a1, .bool x312001_10, .int .i64 a2] (fun k_ => (P3_ k_ ∨ w.heap.size ≤ k_) ∧ k_ ≠ gb311) (fun _ => False) rfl rfl ?aP (fun _ hk => hk.elim) ?aF ?aO ?aB ?aS ?aL ?_; (case aP => exact k64_mkM _ _ _ (⟨a1, x312001_10, a2⟩ : S64)); (case aB => exact (by repeat (first | (with_reducible first | exact HB.out | apply below_alloc | apply pw_below_drewN | apply below_drew1 | refine below_set ?_ GE311.out) | exact HB.out))); (case aF => exact (fun k_ hk => ⟨(.inr (Nat.le_trans (by first | exact HK.out.1 | exact (show Kept w _ (fun k_ => P3_ k_) from by repeat (first | (with_reducible first | exact HK.out | apply Kept.alloc | apply Kept.drewN | apply Kept.drew | refine Kept.setCell ?_ (.inr GW311.out) _) | exact HK.out)).1) hk)), Kd.freshB (g := gb311) (o := .cells #[.string a1, .bool x312001_10, .int .i64 a2] 64 (0, 0)) (by (with_reducible repeat (first | refine blk_drewN ?_ _ | refine blk_drew ?_ | refine blk_alloc ?_ _)); exact BK311.out) k_ hk⟩)); (case aO => exact (by (with_reducible repeat (first | apply Kd.R_alloc | apply Kd.R_drewN | apply Kd.R_drew)); exact HO_3.out)); (case aS => exact (below_size (by repeat (first | (with_reducible first | exact HB.out | apply below_alloc | apply pw_below_drewN | apply below_drew1 | refine below_set ?_ GE311.out) | exact HB.out)))); (case aL => have := LMc17.out; omega); intro v319 w19 ho hb hg hat; rw [← Ny318.out] at ho; have n0_ := aM (Kd.V_afterv (ok := (fun k_ => ((P3_ k_ ∨ P0_ k_) ∨ w.heap.size ≤ k_) ∧ k_ ≠ gb311)) (by (with_reducible repeat (first | apply Kd.V_alloc | apply Kd.V_drewN | apply Kd.V_drew)); exact Kd.V_mono HO_0.out (fun _ hk => ⟨⟨hk.1, hk.2.2⟩, hk.2.1⟩)) hg hat); have n1_ := aM (blk_grown (g := gb311) (o := .cells #[.string a1, .bool x312001_10, .int .i64 a2] 64 (0, 0)) (by (with_reducible repeat (first | refine blk_drewN ?_ _ | refine blk_drew ?_ | refine blk_alloc ?_ _)); exact BK311.out) hg (Kd.R_away HO_3.out (fun _ hk => hk.2))); have n2_ := aM (hb); have n3_ := aM (Kept.of_grown (S := (fun k_ => P3_ k_)) hg (by repeat (first | (with_reducible first | exact HK.out | apply Kept.alloc | apply Kept.drewN | apply Kept.drew | refine Kept.setCell ?_ (.inr GW311.out) _) | exact HK.out)) (fun k_ e_ => (HO_3.out.1 k_ e_).1)); have n4_ := aM (ho); clear HO_0; clear BK311; clear HB; clear HK; clear HO_3; have HO_0 := n0_; have BK311 := n1_; have HB := n2_; have HK := n3_; have HO320 := n4_; clear n0_ n1_ n2_ n3_ n4_; clear ho hb hg hat))
      repeat (go_quiet (first | ((with_reducible refine gate_builtin (b := .append) (xs := #[.tmp 36, .tmp 38]) rfl ?_); at_builtin; refine Kd.R_append k64 (w0 := w0) w0.heap.size rfl (.tmp 36) (.tmp 38) 24 64 (.agg #[(.string ⟨#[]⟩), (.bool false), (.int .i64 0)]) 32 rfl Try.underlying24 info64 rfl (by decide) (by omega) (.slice Ao6 l3.length co6) l3 (⟨a1, x312001_10, a2⟩ : S64) [.string a1, .bool x312001_10, .int .i64 a2] (fun k_ => (P3_ k_ ∨ w.heap.size ≤ k_) ∧ k_ ≠ gb311) (fun _ => False) rfl rfl ?aP (fun _ hk => hk.elim) ?aF ?aO ?aB ?aS ?aL ?_; (case aP => exact k64_mkM _ _ _ (⟨a1, x312001_10, a2⟩ : S64)); (case aB => exact (by repeat (first | (with_reducible first | exact HB.out | apply below_alloc | apply pw_below_drewN | apply below_drew1 | refine below_set ?_ GE311.out) | exact HB.out))); (case aF => exact (fun k_ hk => ⟨(.inr (Nat.le_trans (by first | exact HK.out.1 | exact (show Kept w _ (fun k_ => P3_ k_) from by repeat (first | (with_reducible first | exact HK.out | apply Kept.alloc | apply Kept.drewN | apply Kept.drew | refine Kept.setCell ?_ (.inr GW311.out) _) | exact HK.out)).1) hk)), Kd.freshB (g := gb311) (o := .cells #[.string a1, .bool x312001_10, .int .i64 a2] 64 (0, 0)) (by (with_reducible repeat (first | refine blk_drewN ?_ _ | refine blk_drew ?_ | refine blk_alloc ?_ _)); exact BK311.out) k_ hk⟩)); (case aO => exact (by (with_reducible repeat (first | apply Kd.R_alloc | apply Kd.R_drewN | apply Kd.R_drew)); exact HO_3.out)); (case aS => exact (below_size (by repeat (first | (with_reducible first | exact HB.out | apply below_alloc | apply pw_below_drewN | apply below_drew1 | refine below_set ?_ GE311.out) | exact HB.out)))); (case aL => have := LMc17.out; omega); intro v319 w19 ho hb hg hat; rw [← Ny318.out] at ho; have n0_ := aM (Kd.V_afterv (ok := (fun k_ => ((P3_ k_ ∨ P0_ k_) ∨ w.heap.size ≤ k_) ∧ k_ ≠ gb311)) (by (with_reducible repeat (first | apply Kd.V_alloc | apply Kd.V_drewN | apply Kd.V_drew)); exact Kd.V_mono HO_0.out (fun _ hk => ⟨⟨hk.1, hk.2.2⟩, hk.2.1⟩)) hg hat); have n1_ := aM (blk_grown (g := gb311) (o := .cells #[.string a1, .bool x312001_10, .int .i64 a2] 64 (0, 0)) (by (with_reducible repeat (first | refine blk_drewN ?_ _ | refine blk_drew ?_ | refine blk_alloc ?_ _)); exact BK311.out) hg (Kd.R_away HO_3.out (fun _ hk => hk.2))); have n2_ := aM (hb); have n3_ := aM (Kept.of_grown (S := (fun k_ => P3_ k_)) hg (by repeat (first | (with_reducible first | exact HK.out | apply Kept.alloc | apply Kept.drewN | apply Kept.drew | refine Kept.setCell ?_ (.inr GW311.out) _) | exact HK.out)) (fun k_ e_ => (HO_3.out.1 k_ e_).1)); have n4_ := aM (ho); clear HO_0; clear BK311; clear HB; clear HK; clear HO_3; have HO_0 := n0_; have BK311 := n1_; have HB := n2_; have HK := n3_; have HO320 := n4_; clear n0_ n1_ n2_ n3_ n4_; clear ho hb hg hat)); try go_wp2_with (first | ((with_reducible refine gate_builtin (b := .append) (xs := #[.tmp 36, .tmp 38]) rfl ?_); at_builtin; refine Kd.R_append k64 (w0 := w0) w0.heap.size rfl (.tmp 36) (.tmp 38) 24 64 (.agg #[(.string ⟨#[]⟩), (.bool false), (.int .i64 0)]) 32 rfl Try.underlying24 info64 rfl (by decide) (by omega) (.slice Ao6 l3.length co6) l3 (⟨a1, x312001_10, a2⟩ : S64) [.string a1, .bool x312001_10, .int .i64 a2] (fun k_ => (P3_ k_ ∨ w.heap.size ≤ k_) ∧ k_ ≠ gb311) (fun _ => False) rfl rfl ?aP (fun _ hk => hk.elim) ?aF ?aO ?aB ?aS ?aL ?_; (case aP => exact k64_mkM _ _ _ (⟨a1, x312001_10, a2⟩ : S64)); (case aB => exact (by repeat (first | (with_reducible first | exact HB.out | apply below_alloc | apply pw_below_drewN | apply below_drew1 | refine below_set ?_ GE311.out) | exact HB.out))); (case aF => exact (fun k_ hk => ⟨(.inr (Nat.le_trans (by first | exact HK.out.1 | exact (show Kept w _ (fun k_ => P3_ k_) from by repeat (first | (with_reducible first | exact HK.out | apply Kept.alloc | apply Kept.drewN | apply Kept.drew | refine Kept.setCell ?_ (.inr GW311.out) _) | exact HK.out)).1) hk)), Kd.freshB (g := gb311) (o := .cells #[.string a1, .bool x312001_10, .int .i64 a2] 64 (0, 0)) (by (with_reducible repeat (first | refine blk_drewN ?_ _ | refine blk_drew ?_ | refine blk_alloc ?_ _)); exact BK311.out) k_ hk⟩)); (case aO => exact (by (with_reducible repeat (first | apply Kd.R_alloc | apply Kd.R_drewN | apply Kd.R_drew)); exact HO_3.out)); (case aS => exact (below_size (by repeat (first | (with_reducible first | exact HB.out | apply below_alloc | apply pw_below_drewN | apply below_drew1 | refine below_set ?_ GE311.out) | exact HB.out)))); (case aL => have := LMc17.out; omega); intro v319 w19 ho hb hg hat; rw [← Ny318.out] at ho; have n0_ := aM (Kd.V_afterv (ok := (fun k_ => ((P3_ k_ ∨ P0_ k_) ∨ w.heap.size ≤ k_) ∧ k_ ≠ gb311)) (by (with_reducible repeat (first | apply Kd.V_alloc | apply Kd.V_drewN | apply Kd.V_drew)); exact Kd.V_mono HO_0.out (fun _ hk => ⟨⟨hk.1, hk.2.2⟩, hk.2.1⟩)) hg hat); have n1_ := aM (blk_grown (g := gb311) (o := .cells #[.string a1, .bool x312001_10, .int .i64 a2] 64 (0, 0)) (by (with_reducible repeat (first | refine blk_drewN ?_ _ | refine blk_drew ?_ | refine blk_alloc ?_ _)); exact BK311.out) hg (Kd.R_away HO_3.out (fun _ hk => hk.2))); have n2_ := aM (hb); have n3_ := aM (Kept.of_grown (S := (fun k_ => P3_ k_)) hg (by repeat (first | (with_reducible first | exact HK.out | apply Kept.alloc | apply Kept.drewN | apply Kept.drew | refine Kept.setCell ?_ (.inr GW311.out) _) | exact HK.out)) (fun k_ e_ => (HO_3.out.1 k_ e_).1)); have n4_ := aM (ho); clear HO_0; clear BK311; clear HB; clear HK; clear HO_3; have HO_0 := n0_; have BK311 := n1_; have HB := n2_; have HK := n3_; have HO320 := n4_; clear n0_ n1_ n2_ n3_ n4_; clear ho hb hg hat)))
      go_loopg [0, 3] kj10 (fun kq v0 v3 w' => ∃ (x0_3 : List ByteArray) (x3_3 : List (S64)), Aside0 (spec_l13Build.l0 kq x0_3 x3_3 (l3.length : Int) = some r) ∧ Aside0 (kq ≤ kj10) ∧ Aside0 (Kd.V Kd.string 9 w' w0.heap.size (fun k_ => ((P3_ k_ ∨ P0_ k_) ∨ w.heap.size ≤ k_) ∧ some k_ ≠ (v3 : Value).ownBlock ∧ k_ ≠ gb311) v0 x0_3) ∧ Aside0 (Kd.R k64 64 w' w0.heap.size (fun k_ => (P3_ k_ ∨ w.heap.size ≤ k_) ∧ k_ ≠ gb311) v3 x3_3) ∧ Aside0 (w'.heap[gb311]? = some (.cells #[.string a1, .bool x312001_10, .int .i64 a2] 64 (0, 0))) ∧ Aside0 (Kept w w' (fun k_ => P3_ k_)) ∧ Aside0 (Below w0.heap.size w0 w'))
      case atStart => exact ⟨(x0_10), (y318), H', ⟨Nat.le_refl _⟩, ⟨by (with_reducible repeat (first | apply Kd.V_alloc | apply Kd.V_drewN | apply Kd.V_drew)); exact Kd.V_mono HO_0.out (fun _ hk => ⟨hk.1.1, ⟨hk.2, hk.1.2⟩⟩)⟩, ⟨by (with_reducible repeat (first | apply Kd.R_alloc | apply Kd.R_drewN | apply Kd.R_drew)); exact HO320.out⟩, ⟨by (with_reducible repeat (first | refine blk_drewN ?_ _ | refine blk_drew ?_ | refine blk_alloc ?_ _)); exact BK311.out⟩, ⟨by repeat (first | (with_reducible first | exact HK.out | apply Kept.alloc | apply Kept.drewN | apply Kept.drew | refine Kept.setCell ?_ (.inr GW311.out) _) | exact HK.out)⟩, ⟨by repeat (first | (with_reducible first | exact HB.out | apply below_alloc | apply pw_below_drewN | apply below_drew1 | refine below_set ?_ GE311.out) | exact HB.out)⟩⟩
      case round =>
       clear H'
       try clear c1
       try clear q1
       try clear p2
       try clear p3
       try clear q3
       try clear hx3
       try clear qi3
       try clear c6
       try clear c9
       try clear c9b0
       try clear c9b1
       try clear c10
       try clear c10b0
       try clear c10b1
       try clear c12
       try clear c13
       try clear c13b0
       try clear c13b1
       try clear c16
       try clear q16
       try clear c17
       try clear hcz14_0
       try clear hcz14_1
       try clear hcz14_2
       try clear hcz18_0
       try clear hcz18_1
       try clear hcz18_2
       try clear hcz8_0
       try clear hcz8_1
       try clear hcz8_2
       try clear hfz14_0
       try clear hfz14_1
       try clear hfz14_2
       try clear hfz18_0
       try clear hfz18_1
       try clear hfz18_2
       try clear hfz8_0
       try clear hfz8_1
       try clear hfz8_2
       try clear hx312_0
       try clear p2
       try clear p3
       try clear p312
       try clear q1
       try clear q16
       try clear q3
       try clear q312
       obtain ⟨x0_3, x3_3, HA, HK3, HO_0, HO_3, BK311, HK, HB⟩ := hrel
       cases gk with
       | zero => exact absurd HA.out (by simp [spec_l13Build.l0])
       | succ k3 =>
        have H := HA.out
        clear HA
        simp only [spec_l13Build.l0] at H
        by_cases c20 : (x0_3.length : Int) > 0
        ·
         rw [if_pos c20] at H
         have c20b0 : decide (0 < (x0_3.length : Int)) = true := decide_eq_true c20
         have c20b1 : decide (0 < x0_3.length) = true := decide_eq_true (by omega)
         clear c20
         have HC21 := aM H
         clear H
         obtain ⟨Ao22, co22, eo22⟩ := Kd.V_slice HO_0.out
         subst eo22
         go_upto_block 2 with (fail)
         repeat (go_quiet (fail); go_upto_block 2 with (fail))
         go_cut [11] (fun v11 wc => ∃ (kq : Nat) (x11_20 : Int), v11 = .int .i64 x11_20 ∧ Aside0 (spec_l13Build.j4 kq x0_3 x3_3 (l3.length : Int) x11_20 = some r) ∧ Aside0 (kq ≤ k3) ∧ Aside0 (Kd.V Kd.string 9 wc w0.heap.size (fun k_ => ((P3_ k_ ∨ P0_ k_) ∨ w.heap.size ≤ k_) ∧ some k_ ≠ (u3 : Value).ownBlock ∧ k_ ≠ gb311) (.slice Ao22 x0_3.length co22) x0_3) ∧ Aside0 (Kd.R k64 64 wc w0.heap.size (fun k_ => (P3_ k_ ∨ w.heap.size ≤ k_) ∧ k_ ≠ gb311) u3 x3_3) ∧ Aside0 (wc.heap[gb311]? = some (.cells #[.string a1, .bool x312001_10, .int .i64 a2] 64 (0, 0))) ∧ Aside0 (Kept w wc (fun k_ => P3_ k_)) ∧ Aside0 (Below w0.heap.size w0 wc))
         case first =>
          have H := HC21.out
          clear HC21
          have H' := aM H
          clear H
          go_wp2
          repeat (go_quiet (fail); try go_wp2)
          go_loopg [11] k3 (fun kq v11 w' => ∃ (x11_4 : Int), v11 = .int .i64 x11_4 ∧ Aside0 (spec_l13Build.l1 kq x0_3 x3_3 (l3.length : Int) x11_4 = some r) ∧ Aside0 (kq ≤ k3) ∧ Aside0 (Kd.V Kd.string 9 w' w0.heap.size (fun k_ => ((P3_ k_ ∨ P0_ k_) ∨ w.heap.size ≤ k_) ∧ some k_ ≠ (u3 : Value).ownBlock ∧ k_ ≠ gb311) (.slice Ao22 x0_3.length co22) x0_3) ∧ Aside0 (Kd.R k64 64 w' w0.heap.size (fun k_ => (P3_ k_ ∨ w.heap.size ≤ k_) ∧ k_ ≠ gb311) u3 x3_3) ∧ Aside0 (w'.heap[gb311]? = some (.cells #[.string a1, .bool x312001_10, .int .i64 a2] 64 (0, 0))) ∧ Aside0 (Kept w w' (fun k_ => P3_ k_)) ∧ Aside0 (Below w0.heap.size w0 w'))
          case atStart => exact ⟨(1), (by first | rfl | (simp; done) | (simp [*]; done)), H', ⟨Nat.le_refl _⟩, ⟨by (with_reducible repeat (first | apply Kd.V_alloc | apply Kd.V_drewN | apply Kd.V_drew)); exact HO_0.out⟩, ⟨by (with_reducible repeat (first | apply Kd.R_alloc | apply Kd.R_drewN | apply Kd.R_drew)); exact HO_3.out⟩, ⟨by (with_reducible repeat (first | refine blk_drewN ?_ _ | refine blk_drew ?_ | refine blk_alloc ?_ _)); exact BK311.out⟩, ⟨by repeat (first | (with_reducible first | exact HK.out | apply Kept.alloc | apply Kept.drewN | apply Kept.drew | refine Kept.setCell ?_ (.inr GW311.out) _) | exact HK.out)⟩, ⟨by repeat (first | (with_reducible first | exact HB.out | apply below_alloc | apply pw_below_drewN | apply below_drew1 | refine below_set ?_ GE311.out) | exact HB.out)⟩⟩
          case round =>
           clear H'
           try clear c1
           try clear q1
           try clear c2
           try clear p2
           try clear p3
           try clear q3
           try clear hx3
           try clear qi3
           try clear c6
           try clear c9
           try clear c9b0
           try clear c9b1
           try clear c10
           try clear c10b0
           try clear c10b1
           try clear c12
           try clear c13
           try clear c13b0
           try clear c13b1
           try clear c16
           try clear q16
           try clear c17
           try clear c20
           try clear c20b0
           try clear c20b1
           try clear hcz14_0
           try clear hcz14_1
           try clear hcz14_2
           try clear hcz18_0
           try clear hcz18_1
           try clear hcz18_2
           try clear hcz8_0
           try clear hcz8_1
           try clear hcz8_2
           try clear hfz14_0
           try clear hfz14_1
           try clear hfz14_2
           try clear hfz18_0
           try clear hfz18_1
           try clear hfz18_2
           try clear hfz8_0
           try clear hfz8_1
           try clear hfz8_2
           try clear hx312_0
           try clear p2
           try clear p3
           try clear p312
           try clear q1
           try clear q16
           try clear q3
           try clear q312
           obtain ⟨x11_4, rfl, HA, HK4, HO_0, HO_3, BK311, HK, HB⟩ := hrel
           cases gk with
           | zero => exact absurd HA.out (by simp [spec_l13Build.l1])
           | succ k4 =>
            have H := HA.out
            clear HA
            simp only [spec_l13Build.l1] at H
            by_cases c23 : x11_4 < (x0_3.length : Int)
            ·
             rw [if_pos c23] at H
             have c23b0 : decide (x11_4 < (x0_3.length : Int)) = true := decide_eq_true c23
             clear c23
             (first | rw [c23b0] | (simp only [i64_w, i32_w]; rw [c23b0]) | skip)
             by_cases c24 : 0 ≤ x11_4
             ·
              rw [if_pos c24] at H
              have c24b0 : decide (0 ≤ x11_4) = true := decide_eq_true c24
              clear c24
              by_cases c25 : 0 < ((rdOf ByteArray.empty x0_3 x11_4).size : Int)
              ·
               rw [if_pos c25] at H
               have c25b0 : decide (0 < ((rdOf ByteArray.empty x0_3 x11_4).size : Int)) = true := decide_eq_true c25
               have c25b1 : decide (0 < (rdOf ByteArray.empty x0_3 x11_4).size) = true := decide_eq_true (by omega)
               clear c25
               by_cases c27 : 0 < (x0_3.length : Int)
               ·
                rw [if_pos c27] at H
                have c27b0 : decide (0 < (x0_3.length : Int)) = true := decide_eq_true c27
                have c27b1 : decide (0 < x0_3.length) = true := decide_eq_true (by omega)
                clear c27
                by_cases c28 : 0 < ((rdOf ByteArray.empty x0_3 0).size : Int)
                ·
                 rw [if_pos c28] at H
                 have c28b0 : decide (0 < ((rdOf ByteArray.empty x0_3 0).size : Int)) = true := decide_eq_true c28
                 have c28b1 : decide (0 < (rdOf ByteArray.empty x0_3 0).size) = true := decide_eq_true (by omega)
                 clear c28
                 by_cases c30 : (bt (rdOf ByteArray.empty x0_3 x11_4) 0) = (bt (rdOf ByteArray.empty x0_3 0) 0)
                 ·
                  rw [if_pos c30] at H
                  have c30b0 : ((bt (rdOf ByteArray.empty x0_3 x11_4) 0) == (bt (rdOf ByteArray.empty x0_3 0) 0)) = true := beq_iff_eq.mpr c30
                  have c30b1 : ((bt (rdOf ByteArray.empty x0_3 x11_4) 0) != (bt (rdOf ByteArray.empty x0_3 0) 0)) = false := bne_eq_false_iff_eq.mpr c30
                  clear c30
                  have H' := aM H
                  clear H
                  have p321 : 0 ≤ (x11_4 : Int) := of_decide_eq_true (by first | (with_reducible assumption) | assumption)
                  have q321 : x11_4 < (x0_3.length : Int) := of_decide_eq_true (by first | (with_reducible assumption) | assumption)
                  obtain ⟨ad321, e321, hx321_0⟩ := Kd.at_string (Kd.V_reads' HO_0.out).2.2 x11_4 p321 q321
                  cases e321
                  replace p321 := eq_true p321
                  replace q321 := eq_true q321
                  have p26 : 0 ≤ (0 : Int) := (by omega)
                  have q26 : 0 < (rdOf ByteArray.empty x0_3 x11_4).size := (by have : (0 : Int) < ((rdOf ByteArray.empty x0_3 x11_4).size : Int) := of_decide_eq_true (by first | (with_reducible assumption) | assumption); omega)
                  have hx26 : ∀ h : 0 < (rdOf ByteArray.empty x0_3 x11_4).size, (((rdOf ByteArray.empty x0_3 x11_4)[0]'h).toNat : Int) = bt (rdOf ByteArray.empty x0_3 x11_4) 0 := bt_at (rdOf ByteArray.empty x0_3 x11_4) 0
                  clear p26
                  have qi26 : (0 < ((rdOf ByteArray.empty x0_3 x11_4).size : Int)) = True := eq_true (of_decide_eq_true (by first | (with_reducible assumption) | assumption))
                  replace q26 := eq_true q26
                  have p322 : 0 ≤ (0 : Int) := (by omega)
                  have q322 : 0 < (x0_3.length : Int) := of_decide_eq_true (by first | (with_reducible assumption) | assumption)
                  obtain ⟨ad322, e322, hx322_0⟩ := Kd.at_string (Kd.V_reads' HO_0.out).2.2 0 p322 q322
                  obtain rfl : ad321 = ad322 := (by injection e322)
                  have qi322 : (0 < x0_3.length) = True := eq_true (by omega)
                  (try rw [show ((0 : Int)).toNat = 0 from rfl] at hx322_0)
                  (try rw [Addr.add_zero'] at hx322_0)
                  replace p322 := eq_true p322
                  replace q322 := eq_true q322
                  have p29 : 0 ≤ (0 : Int) := (by omega)
                  have q29 : 0 < (rdOf ByteArray.empty x0_3 0).size := (by have : (0 : Int) < ((rdOf ByteArray.empty x0_3 0).size : Int) := of_decide_eq_true (by first | (with_reducible assumption) | assumption); omega)
                  have hx29 : ∀ h : 0 < (rdOf ByteArray.empty x0_3 0).size, (((rdOf ByteArray.empty x0_3 0)[0]'h).toNat : Int) = bt (rdOf ByteArray.empty x0_3 0) 0 := bt_at (rdOf ByteArray.empty x0_3 0) 0
                  clear p29
                  have qi29 : (0 < ((rdOf ByteArray.empty x0_3 0).size : Int)) = True := eq_true (of_decide_eq_true (by first | (with_reducible assumption) | assumption))
                  replace q29 := eq_true q29
                  go_wp2
                  repeat (go_quiet (fail); try go_wp2)
                  go_roundg k4
                  case measure => have := HJ4.out; have := HJ10.out; have := HK3.out; have := HK4.out; omega
                  case rel => exact ⟨(wrap64 (x11_4 + 1)), (by first | rfl | (simp; done) | (simp [*]; done)), H', ⟨by have := HJ4.out; have := HJ10.out; have := HK3.out; have := HK4.out; omega⟩, ⟨by (with_reducible repeat (first | apply Kd.V_alloc | apply Kd.V_drewN | apply Kd.V_drew)); exact HO_0.out⟩, ⟨by (with_reducible repeat (first | apply Kd.R_alloc | apply Kd.R_drewN | apply Kd.R_drew)); exact HO_3.out⟩, ⟨by (with_reducible repeat (first | refine blk_drewN ?_ _ | refine blk_drew ?_ | refine blk_alloc ?_ _)); exact BK311.out⟩, ⟨by repeat (first | (with_reducible first | exact HK.out | apply Kept.alloc | apply Kept.drewN | apply Kept.drew | refine Kept.setCell ?_ (.inr GW311.out) _) | exact HK.out)⟩, ⟨by repeat (first | (with_reducible first | exact HB.out | apply below_alloc | apply pw_below_drewN | apply below_drew1 | refine below_set ?_ GE311.out) | exact HB.out)⟩⟩
                 ·
                  rw [if_neg c30] at H
                  have c30b0 : ((bt (rdOf ByteArray.empty x0_3 x11_4) 0) == (bt (rdOf ByteArray.empty x0_3 0) 0)) = false := beq_eq_false_iff_ne.mpr c30
                  have c30b1 : ((bt (rdOf ByteArray.empty x0_3 x11_4) 0) != (bt (rdOf ByteArray.empty x0_3 0) 0)) = true := bne_iff_ne.mpr c30
                  have H' := aM H
                  clear H
                  have p321 : 0 ≤ (x11_4 : Int) := of_decide_eq_true (by first | (with_reducible assumption) | assumption)
                  have q321 : x11_4 < (x0_3.length : Int) := of_decide_eq_true (by first | (with_reducible assumption) | assumption)
                  obtain ⟨ad321, e321, hx321_0⟩ := Kd.at_string (Kd.V_reads' HO_0.out).2.2 x11_4 p321 q321
                  cases e321
                  replace p321 := eq_true p321
                  replace q321 := eq_true q321
                  have p26 : 0 ≤ (0 : Int) := (by omega)
                  have q26 : 0 < (rdOf ByteArray.empty x0_3 x11_4).size := (by have : (0 : Int) < ((rdOf ByteArray.empty x0_3 x11_4).size : Int) := of_decide_eq_true (by first | (with_reducible assumption) | assumption); omega)
                  have hx26 : ∀ h : 0 < (rdOf ByteArray.empty x0_3 x11_4).size, (((rdOf ByteArray.empty x0_3 x11_4)[0]'h).toNat : Int) = bt (rdOf ByteArray.empty x0_3 x11_4) 0 := bt_at (rdOf ByteArray.empty x0_3 x11_4) 0
                  clear p26
                  have qi26 : (0 < ((rdOf ByteArray.empty x0_3 x11_4).size : Int)) = True := eq_true (of_decide_eq_true (by first | (with_reducible assumption) | assumption))
                  replace q26 := eq_true q26
                  have p322 : 0 ≤ (0 : Int) := (by omega)
                  have q322 : 0 < (x0_3.length : Int) := of_decide_eq_true (by first | (with_reducible assumption) | assumption)
                  obtain ⟨ad322, e322, hx322_0⟩ := Kd.at_string (Kd.V_reads' HO_0.out).2.2 0 p322 q322
                  obtain rfl : ad321 = ad322 := (by injection e322)
                  have qi322 : (0 < x0_3.length) = True := eq_true (by omega)
                  (try rw [show ((0 : Int)).toNat = 0 from rfl] at hx322_0)
                  (try rw [Addr.add_zero'] at hx322_0)
                  replace p322 := eq_true p322
                  replace q322 := eq_true q322
                  have p29 : 0 ≤ (0 : Int) := (by omega)
                  have q29 : 0 < (rdOf ByteArray.empty x0_3 0).size := (by have : (0 : Int) < ((rdOf ByteArray.empty x0_3 0).size : Int) := of_decide_eq_true (by first | (with_reducible assumption) | assumption); omega)
                  have hx29 : ∀ h : 0 < (rdOf ByteArray.empty x0_3 0).size, (((rdOf ByteArray.empty x0_3 0)[0]'h).toNat : Int) = bt (rdOf ByteArray.empty x0_3 0) 0 := bt_at (rdOf ByteArray.empty x0_3 0) 0
                  clear p29
                  have qi29 : (0 < ((rdOf ByteArray.empty x0_3 0).size : Int)) = True := eq_true (of_decide_eq_true (by first | (with_reducible assumption) | assumption))
                  replace q29 := eq_true q29
                  go_wp2
                  repeat (go_quiet (fail); try go_wp2)
                  go_meet
                  case rel => exact ⟨_, (x11_4), (by first | rfl | (simp; done) | (simp [*]; done)), H', ⟨by have := HJ4.out; have := HJ10.out; have := HK3.out; have := HK4.out; first | omega | exact Nat.le_refl _⟩, ⟨by (with_reducible repeat (first | apply Kd.V_alloc | apply Kd.V_drewN | apply Kd.V_drew)); exact HO_0.out⟩, ⟨by (with_reducible repeat (first | apply Kd.R_alloc | apply Kd.R_drewN | apply Kd.R_drew)); exact HO_3.out⟩, ⟨by (with_reducible repeat (first | refine blk_drewN ?_ _ | refine blk_drew ?_ | refine blk_alloc ?_ _)); exact BK311.out⟩, ⟨by repeat (first | (with_reducible first | exact HK.out | apply Kept.alloc | apply Kept.drewN | apply Kept.drew | refine Kept.setCell ?_ (.inr GW311.out) _) | exact HK.out)⟩, ⟨by repeat (first | (with_reducible first | exact HB.out | apply below_alloc | apply pw_below_drewN | apply below_drew1 | refine below_set ?_ GE311.out) | exact HB.out)⟩⟩
                ·
                 rw [if_neg c28] at H
                 exact absurd H (by simp)
               ·
                rw [if_neg c27] at H
                exact absurd H (by simp)
              ·
               rw [if_neg c25] at H
               exact absurd H (by simp)
             ·
              rw [if_neg c24] at H
              exact absurd H (by simp)
            ·
             rw [if_neg c23] at H
             have c23b0 : decide (x11_4 < (x0_3.length : Int)) = false := decide_eq_false c23
             clear c23
             (first | rw [c23b0] | (simp only [i64_w, i32_w]; rw [c23b0]) | skip)
             have H' := aM H
             clear H
             go_wp2
             repeat (go_quiet (fail); try go_wp2)
             go_meet
             case rel => exact ⟨_, (x11_4), (by first | rfl | (simp; done) | (simp [*]; done)), H', ⟨by have := HJ4.out; have := HJ10.out; have := HK3.out; have := HK4.out; first | omega | exact Nat.le_refl _⟩, ⟨by (with_reducible repeat (first | apply Kd.V_alloc | apply Kd.V_drewN | apply Kd.V_drew)); exact HO_0.out⟩, ⟨by (with_reducible repeat (first | apply Kd.R_alloc | apply Kd.R_drewN | apply Kd.R_drew)); exact HO_3.out⟩, ⟨by (with_reducible repeat (first | refine blk_drewN ?_ _ | refine blk_drew ?_ | refine blk_alloc ?_ _)); exact BK311.out⟩, ⟨by repeat (first | (with_reducible first | exact HK.out | apply Kept.alloc | apply Kept.drewN | apply Kept.drew | refine Kept.setCell ?_ (.inr GW311.out) _) | exact HK.out)⟩, ⟨by repeat (first | (with_reducible first | exact HB.out | apply below_alloc | apply pw_below_drewN | apply below_drew1 | refine below_set ?_ GE311.out) | exact HB.out)⟩⟩
         case rest =>
          clear HC21
          try clear c1
          try clear q1
          try clear c2
          try clear p2
          try clear q2
          try clear hx2
          try clear qi2
          try clear c3
          try clear p3
          try clear q3
          try clear hx3
          try clear qi3
          try clear c6
          try clear p6
          try clear c9
          try clear c9b0
          try clear c9b1
          try clear c10
          try clear c10b0
          try clear c10b1
          try clear c12
          try clear c13
          try clear c13b0
          try clear c13b1
          try clear c16
          try clear q16
          try clear c17
          try clear c20
          try clear c20b0
          try clear c20b1
          try clear c23
          try clear c23b0
          try clear c24
          try clear c24b0
          try clear c25
          try clear c25b0
          try clear c25b1
          try clear p26
          try clear q26
          try clear hx26
          try clear qi26
          try clear c27
          try clear c27b0
          try clear c27b1
          try clear c28
          try clear c28b0
          try clear c28b1
          try clear p29
          try clear q29
          try clear hx29
          try clear qi29
          try clear c30
          try clear c30b0
          try clear c30b1
          try clear hcz14_0
          try clear hcz14_1
          try clear hcz14_2
          try clear hcz18_0
          try clear hcz18_1
          try clear hcz18_2
          try clear hcz8_0
          try clear hcz8_1
          try clear hcz8_2
          try clear hfz14_0
          try clear hfz14_1
          try clear hfz14_2
          try clear hfz18_0
          try clear hfz18_1
          try clear hfz18_2
          try clear hfz8_0
          try clear hfz8_1
          try clear hfz8_2
          try clear hx312_0
          try clear hx321_0
          try clear hx322_0
          try clear p2
          try clear p26
          try clear p29
          try clear p3
          try clear p312
          try clear p321
          try clear p322
          try clear q1
          try clear q16
          try clear q26
          try clear q29
          try clear q3
          try clear q312
          try clear q321
          try clear q322
          obtain ⟨kq, x11_20, rfl, HA, HJ20, HO_0, HO_3, BK311, HK, HB⟩ := hcut
          cases kq with
          | zero => exact absurd HA.out (by simp [spec_l13Build.j4])
          | succ kj20 =>
           have H := HA.out
           clear HA
           simp only [spec_l13Build.j4] at H
           by_cases c31 : 0 < (x0_3.length : Int)
           ·
            rw [if_pos c31] at H
            have c31b0 : decide (0 < (x0_3.length : Int)) = true := decide_eq_true c31
            have c31b1 : decide (0 < x0_3.length) = true := decide_eq_true (by omega)
            clear c31
            by_cases c32 : 1 ≤ x11_20
            ·
             rw [if_pos c32] at H
             have c32b0 := eq_true c32
             have c32b1 : decide (1 ≤ x11_20) = true := decide_eq_true c32
             clear c32
             by_cases c33 : x11_20 ≤ (x0_3.length : Int)
             ·
              rw [if_pos c33] at H
              have c33b0 := eq_true c33
              have c33b1 : decide (x11_20 ≤ (x0_3.length : Int)) = true := decide_eq_true c33
              clear c33
              obtain ⟨y324, hy324⟩ : ∃ y_ : List ByteArray, y_ = ((x0_3.take (x11_20 : Int).toNat).drop 1) := ⟨_, rfl⟩
              replace H : (spec_l13Build.l2 kj20 x0_3 x3_3 (l3.length : Int) x11_20 ((rdOf ByteArray.empty x0_3 0).size : Int) y324 (y324.length : Int) 0) = some r := by first | (rw [hy324]; with_reducible exact H) | (have H2_ := (Option.bind_some _ _).symm.trans H; rw [hy324]; with_reducible exact H2_) | (have H2_ := (Option.bind_some _ _).symm.trans H; with_reducible exact H2_) | with_reducible exact H | (rw [hy324]; exact H) | exact H
              have Ny324 := aM hy324
              clear hy324
              have H' := aM H
              clear H
              have p323 : 0 ≤ (0 : Int) := (by omega)
              have q323 : 0 < (x0_3.length : Int) := of_decide_eq_true (by first | (with_reducible assumption) | assumption)
              obtain ⟨ad323, e323, hx323_0⟩ := Kd.at_string (Kd.V_reads' HO_0.out).2.2 0 p323 q323
              cases e323
              have qi323 : (0 < x0_3.length) = True := eq_true (by omega)
              (try rw [show ((0 : Int)).toNat = 0 from rfl] at hx323_0)
              (try rw [Addr.add_zero'] at hx323_0)
              replace p323 := eq_true p323
              replace q323 := eq_true q323
              have q34 : (x11_20 : Int) ≤ ((x0_3.length : Int) : Int) := of_decide_eq_true (by first | (with_reducible assumption) | assumption)
              obtain ⟨i034, hi034, _, hsz34, _⟩ := info_parts info9
              have hroom34 : x0_3.length ≤ co22 := (Kd.V_reads' HO_0.out).2.1
              have hC34 : Kd.F Kd.string _ _ (some ad323) x0_3.length x0_3 := (Kd.V_at (base := w0.heap.size) HO_0.out).2.2
              have ql34 : (1 : Int) ≤ (x11_20 : Int) := of_decide_eq_true (by first | (with_reducible assumption) | assumption)
              have hcut34 := cut_mid (P := Try.prog) 22 9 .i64 .i64 Try.underlying22 hi034 1 hsz34 (some ad323) x0_3.length co22 1 x11_20 (by omega) ql34 q34 hroom34
              have hr34 := Kd.F_mid (lo := (1 : Int).toNat) (hi := (x11_20 : Int).toNat) (c := co22) hC34 (by omega) (by omega) hroom34
              obtain ⟨A34, hA34⟩ : ∃ A1, A1 = (if co22 = (1 : Int).toNat then (some ad323) else ((some ad323) : Option Addr).map (·.add ((1 : Int).toNat * 1))) := ⟨_, rfl⟩
              obtain ⟨c34, hc34⟩ : ∃ c1, c1 = co22 - (1 : Int).toNat := ⟨_, rfl⟩
              have hy34 : y324.length = (x11_20 : Int).toNat - (1 : Int).toNat := (by rw [Ny324.out, List.length_drop, List.length_take] <;> omega)
              rw [show ((x0_3).take (x11_20 : Int).toNat).drop (1 : Int).toNat = y324 from Ny324.out.symm] at hr34
              replace hr34 : Kd.F Kd.string _ _ A34 y324.length y324 := (by rw [hA34]; exact hr34)
              rw [← hy34, ← hA34, ← hc34] at hcut34
              have HO328 := aM (show Kd.V Kd.string 9 _ w0.heap.size _ (.slice A34 y324.length c34) y324 from Kd.V_mk (by rw [hy34, hc34]; exact Nat.sub_le_sub_right (Nat.le_trans (by omega) hroom34) _) hr34)
              have HC328 := aM (show y324.length ≤ c34 from by rw [hy34, hc34]; exact Nat.sub_le_sub_right (Nat.le_trans (by omega) hroom34) _)
              clear hr34 hC34 hroom34 hi034 hsz34 hc34
              have KY34 := aM hy34
              have KA34 := aM hA34
              clear hy34 hA34
              replace q34 := eq_true q34
              go_wp2
              repeat (go_quiet (fail); try go_wp2)
              go_loopg [12, 69] kj20 (fun kq v12 v69 w' => ∃ (x12_5 : Int) (x69_5 : Int), v12 = .int .i64 x12_5 ∧ v69 = .int .i64 x69_5 ∧ Aside0 (spec_l13Build.l2 kq x0_3 x3_3 (l3.length : Int) x11_20 x12_5 y324 (y324.length : Int) x69_5 = some r) ∧ Aside0 (kq ≤ kj20) ∧ Aside0 (Kd.V Kd.string 9 w' w0.heap.size (fun k_ => ((P3_ k_ ∨ P0_ k_) ∨ w.heap.size ≤ k_) ∧ some k_ ≠ (u3 : Value).ownBlock ∧ k_ ≠ gb311) (.slice (some ad323) x0_3.length co22) x0_3) ∧ Aside0 (Kd.R k64 64 w' w0.heap.size (fun k_ => (P3_ k_ ∨ w.heap.size ≤ k_) ∧ k_ ≠ gb311) u3 x3_3) ∧ Aside0 (Kd.V Kd.string 9 w' w0.heap.size (fun k_ => ((P3_ k_ ∨ P0_ k_) ∨ w.heap.size ≤ k_) ∧ some k_ ≠ (u3 : Value).ownBlock ∧ k_ ≠ gb311) (.slice A34 y324.length c34) y324) ∧ Aside0 (w'.heap[gb311]? = some (.cells #[.string a1, .bool x312001_10, .int .i64 a2] 64 (0, 0))) ∧ Aside0 (Kept w w' (fun k_ => P3_ k_)) ∧ Aside0 (Below w0.heap.size w0 w'))
              case atStart => exact ⟨(((rdOf ByteArray.empty x0_3 0).size : Int)), (0), (by first | rfl | (simp; done) | (simp [*]; done)), (by first | rfl | (simp; done) | (simp [*]; done)), H', ⟨Nat.le_refl _⟩, ⟨by (with_reducible repeat (first | apply Kd.V_alloc | apply Kd.V_drewN | apply Kd.V_drew)); exact HO_0.out⟩, ⟨by (with_reducible repeat (first | apply Kd.R_alloc | apply Kd.R_drewN | apply Kd.R_drew)); exact HO_3.out⟩, ⟨by (with_reducible repeat (first | apply Kd.V_alloc | apply Kd.V_drewN | apply Kd.V_drew)); exact HO328.out⟩, ⟨by (with_reducible repeat (first | refine blk_drewN ?_ _ | refine blk_drew ?_ | refine blk_alloc ?_ _)); exact BK311.out⟩, ⟨by repeat (first | (with_reducible first | exact HK.out | apply Kept.alloc | apply Kept.drewN | apply Kept.drew | refine Kept.setCell ?_ (.inr GW311.out) _) | exact HK.out)⟩, ⟨by repeat (first | (with_reducible first | exact HB.out | apply below_alloc | apply pw_below_drewN | apply below_drew1 | refine below_set ?_ GE311.out) | exact HB.out)⟩⟩
              case round =>
               clear H'
               try clear c1
               try clear q1
               try clear c2
               try clear p2
               try clear q2
               try clear hx2
               try clear qi2
               try clear c3
               try clear p3
               try clear q3
               try clear hx3
               try clear qi3
               try clear c6
               try clear p6
               try clear c9
               try clear c9b0
               try clear c9b1
               try clear c10
               try clear c10b0
               try clear c10b1
               try clear c12
               try clear c13
               try clear c13b0
               try clear c13b1
               try clear c16
               try clear q16
               try clear c17
               try clear c20
               try clear c20b0
               try clear c20b1
               try clear c23
               try clear c23b0
               try clear c24
               try clear c24b0
               try clear c25
               try clear c25b0
               try clear c25b1
               try clear p26
               try clear q26
               try clear hx26
               try clear qi26
               try clear c27
               try clear c27b0
               try clear c27b1
               try clear c28
               try clear c28b0
               try clear c28b1
               try clear p29
               try clear q29
               try clear hx29
               try clear qi29
               try clear c30
               try clear c30b0
               try clear c30b1
               try clear c31
               try clear c31b0
               try clear c31b1
               try clear p31
               try clear q31
               try clear hx31
               try clear qi31
               try clear c32
               try clear c32b0
               try clear c32b1
               try clear p32
               try clear q32
               try clear hx32
               try clear qi32
               try clear c33
               try clear c33b0
               try clear c33b1
               try clear c34
               try clear q34
               try clear hcz14_0
               try clear hcz14_1
               try clear hcz14_2
               try clear hcz18_0
               try clear hcz18_1
               try clear hcz18_2
               try clear hcz8_0
               try clear hcz8_1
               try clear hcz8_2
               try clear hfz14_0
               try clear hfz14_1
               try clear hfz14_2
               try clear hfz18_0
               try clear hfz18_1
               try clear hfz18_2
               try clear hfz8_0
               try clear hfz8_1
               try clear hfz8_2
               try clear hx312_0
               try clear hx321_0
               try clear hx322_0
               try clear hx323_0
               try clear p2
               try clear p26
               try clear p29
               try clear p3
               try clear p312
               try clear p321
               try clear p322
               try clear p323
               try clear p6
               try clear q1
               try clear q16
               try clear q2
               try clear q26
               try clear q29
               try clear q3
               try clear q312
               try clear q321
               try clear q322
               try clear q323
               try clear q34
               obtain ⟨x12_5, x69_5, rfl, rfl, HA, HK5, HO_0, HO_3, HO_67, BK311, HK, HB⟩ := hrel
               cases gk with
               | zero => exact absurd HA.out (by simp [spec_l13Build.l2])
               | succ k5 =>
                have H := HA.out
                clear HA
                simp only [spec_l13Build.l2] at H
                by_cases c35 : x69_5 < (y324.length : Int)
                ·
                 rw [if_pos c35] at H
                 have c35b0 : decide (x69_5 < (y324.length : Int)) = true := decide_eq_true c35
                 clear c35
                 by_cases c36 : 0 ≤ x69_5
                 ·
                  rw [if_pos c36] at H
                  have c36b0 : decide (0 ≤ x69_5) = true := decide_eq_true c36
                  clear c36
                  by_cases c37 : x69_5 < (y324.length : Int)
                  ·
                   rw [if_pos c37] at H
                   have c37b0 : decide (x69_5 < (y324.length : Int)) = true := decide_eq_true c37
                   clear c37
                   by_cases c38 : 0 < (x0_3.length : Int)
                   ·
                    rw [if_pos c38] at H
                    have c38b0 : decide (0 < (x0_3.length : Int)) = true := decide_eq_true c38
                    have c38b1 : decide (0 < x0_3.length) = true := decide_eq_true (by omega)
                    clear c38
                    replace H := Option.bind_eq_some_iff.mp H
                    obtain ⟨t331, A390, H⟩ := H
                    replace H : (if t331 < x12_5 then (spec_l13Build.l2 k5 x0_3 x3_3 (l3.length : Int) x11_20 t331 y324 (y324.length : Int) (wrap64 (x69_5 + 1))) else (spec_l13Build.l2 k5 x0_3 x3_3 (l3.length : Int) x11_20 x12_5 y324 (y324.length : Int) (wrap64 (x69_5 + 1)))) = some r := H
                    have A39 := aM A390
                    clear A390
                    by_cases c40 : t331 < x12_5
                    ·
                     rw [if_pos c40] at H
                     have c40b0 : decide (t331 < x12_5) = true := decide_eq_true c40
                     clear c40
                     have H' := aM H
                     clear H
                     have p329 : 0 ≤ (x69_5 : Int) := of_decide_eq_true (by first | (with_reducible assumption) | assumption)
                     have q329 : x69_5 < (y324.length : Int) := of_decide_eq_true (by first | (with_reducible assumption) | assumption)
                     obtain ⟨ad329, e329, hx329_0⟩ := Kd.at_string (Kd.V_reads' HO_67.out).2.2 x69_5 p329 q329
                     cases e329
                     replace p329 := eq_true p329
                     replace q329 := eq_true q329
                     have p330 : 0 ≤ (0 : Int) := (by omega)
                     have q330 : 0 < (x0_3.length : Int) := of_decide_eq_true (by first | (with_reducible assumption) | assumption)
                     obtain ⟨ad330, e330, hx330_0⟩ := Kd.at_string (Kd.V_reads' HO_0.out).2.2 0 p330 q330
                     obtain rfl : ad323 = ad330 := (by injection e330)
                     have qi330 : (0 < x0_3.length) = True := eq_true (by omega)
                     (try rw [show ((0 : Int)).toNat = 0 from rfl] at hx330_0)
                     (try rw [Addr.add_zero'] at hx330_0)
                     replace p330 := eq_true p330
                     replace q330 := eq_true q330
                     go_wp2_with (first | (go_at_call 84; (try simp only [i64_w]); (with_reducible refine (spec_l12Common.calls k5 (rdOf ByteArray.empty y324 x69_5) (rdOf ByteArray.empty x0_3 0) t331 _ A39.out).mono ?_); rintro e w' ⟨rfl, ⟨nd, rfl⟩⟩; (try first | exact ⟨rfl, _, World.drewN_drewN _ _ _⟩ | exact ⟨rfl, _, Eq.trans (World.drewN_drewN _ _ _) (congrArg (World.drewN _) (Nat.add_assoc _ _ _))⟩)))
                     repeat (go_quiet (first | (go_at_call 84; (try simp only [i64_w]); (with_reducible refine (spec_l12Common.calls k5 (rdOf ByteArray.empty y324 x69_5) (rdOf ByteArray.empty x0_3 0) t331 _ A39.out).mono ?_); rintro e w' ⟨rfl, ⟨nd, rfl⟩⟩; (try first | exact ⟨rfl, _, World.drewN_drewN _ _ _⟩ | exact ⟨rfl, _, Eq.trans (World.drewN_drewN _ _ _) (congrArg (World.drewN _) (Nat.add_assoc _ _ _))⟩))); try go_wp2_with (first | (go_at_call 84; (try simp only [i64_w]); (with_reducible refine (spec_l12Common.calls k5 (rdOf ByteArray.empty y324 x69_5) (rdOf ByteArray.empty x0_3 0) t331 _ A39.out).mono ?_); rintro e w' ⟨rfl, ⟨nd, rfl⟩⟩; (try first | exact ⟨rfl, _, World.drewN_drewN _ _ _⟩ | exact ⟨rfl, _, Eq.trans (World.drewN_drewN _ _ _) (congrArg (World.drewN _) (Nat.add_assoc _ _ _))⟩))))
                     go_roundg k5
                     case measure => have := HJ4.out; have := HJ10.out; have := HK3.out; have := HJ20.out; have := HK5.out; omega
                     case rel => exact ⟨(t331), (wrap64 (x69_5 + 1)), (by first | rfl | (simp; done) | (simp [*]; done)), (by first | rfl | (simp; done) | (simp [*]; done)), H', ⟨by have := HJ4.out; have := HJ10.out; have := HK3.out; have := HJ20.out; have := HK5.out; omega⟩, ⟨by (with_reducible repeat (first | apply Kd.V_alloc | apply Kd.V_drewN | apply Kd.V_drew)); exact HO_0.out⟩, ⟨by (with_reducible repeat (first | apply Kd.R_alloc | apply Kd.R_drewN | apply Kd.R_drew)); exact HO_3.out⟩, ⟨by (with_reducible repeat (first | apply Kd.V_alloc | apply Kd.V_drewN | apply Kd.V_drew)); exact HO_67.out⟩, ⟨by (with_reducible repeat (first | refine blk_drewN ?_ _ | refine blk_drew ?_ | refine blk_alloc ?_ _)); exact BK311.out⟩, ⟨by repeat (first | (with_reducible first | exact HK.out | apply Kept.alloc | apply Kept.drewN | apply Kept.drew | refine Kept.setCell ?_ (.inr GW311.out) _) | exact HK.out)⟩, ⟨by repeat (first | (with_reducible first | exact HB.out | apply below_alloc | apply pw_below_drewN | apply below_drew1 | refine below_set ?_ GE311.out) | exact HB.out)⟩⟩
                    ·
                     rw [if_neg c40] at H
                     have c40b0 : decide (t331 < x12_5) = false := decide_eq_false c40
                     clear c40
                     have H' := aM H
                     clear H
                     have p329 : 0 ≤ (x69_5 : Int) := of_decide_eq_true (by first | (with_reducible assumption) | assumption)
                     have q329 : x69_5 < (y324.length : Int) := of_decide_eq_true (by first | (with_reducible assumption) | assumption)
                     obtain ⟨ad329, e329, hx329_0⟩ := Kd.at_string (Kd.V_reads' HO_67.out).2.2 x69_5 p329 q329
                     cases e329
                     replace p329 := eq_true p329
                     replace q329 := eq_true q329
                     have p330 : 0 ≤ (0 : Int) := (by omega)
                     have q330 : 0 < (x0_3.length : Int) := of_decide_eq_true (by first | (with_reducible assumption) | assumption)
                     obtain ⟨ad330, e330, hx330_0⟩ := Kd.at_string (Kd.V_reads' HO_0.out).2.2 0 p330 q330
                     obtain rfl : ad323 = ad330 := (by injection e330)
                     have qi330 : (0 < x0_3.length) = True := eq_true (by omega)
                     (try rw [show ((0 : Int)).toNat = 0 from rfl] at hx330_0)
                     (try rw [Addr.add_zero'] at hx330_0)
                     replace p330 := eq_true p330
                     replace q330 := eq_true q330
                     go_wp2_with (first | (go_at_call 84; (try simp only [i64_w]); (with_reducible refine (spec_l12Common.calls k5 (rdOf ByteArray.empty y324 x69_5) (rdOf ByteArray.empty x0_3 0) t331 _ A39.out).mono ?_); rintro e w' ⟨rfl, ⟨nd, rfl⟩⟩; (try first | exact ⟨rfl, _, World.drewN_drewN _ _ _⟩ | exact ⟨rfl, _, Eq.trans (World.drewN_drewN _ _ _) (congrArg (World.drewN _) (Nat.add_assoc _ _ _))⟩)))
                     repeat (go_quiet (first | (go_at_call 84; (try simp only [i64_w]); (with_reducible refine (spec_l12Common.calls k5 (rdOf ByteArray.empty y324 x69_5) (rdOf ByteArray.empty x0_3 0) t331 _ A39.out).mono ?_); rintro e w' ⟨rfl, ⟨nd, rfl⟩⟩; (try first | exact ⟨rfl, _, World.drewN_drewN _ _ _⟩ | exact ⟨rfl, _, Eq.trans (World.drewN_drewN _ _ _) (congrArg (World.drewN _) (Nat.add_assoc _ _ _))⟩))); try go_wp2_with (first | (go_at_call 84; (try simp only [i64_w]); (with_reducible refine (spec_l12Common.calls k5 (rdOf ByteArray.empty y324 x69_5) (rdOf ByteArray.empty x0_3 0) t331 _ A39.out).mono ?_); rintro e w' ⟨rfl, ⟨nd, rfl⟩⟩; (try first | exact ⟨rfl, _, World.drewN_drewN _ _ _⟩ | exact ⟨rfl, _, Eq.trans (World.drewN_drewN _ _ _) (congrArg (World.drewN _) (Nat.add_assoc _ _ _))⟩))))
                     go_roundg k5
                     case measure => have := HJ4.out; have := HJ10.out; have := HK3.out; have := HJ20.out; have := HK5.out; omega
                     case rel => exact ⟨(x12_5), (wrap64 (x69_5 + 1)), (by first | rfl | (simp; done) | (simp [*]; done)), (by first | rfl | (simp; done) | (simp [*]; done)), H', ⟨by have := HJ4.out; have := HJ10.out; have := HK3.out; have := HJ20.out; have := HK5.out; omega⟩, ⟨by (with_reducible repeat (first | apply Kd.V_alloc | apply Kd.V_drewN | apply Kd.V_drew)); exact HO_0.out⟩, ⟨by (with_reducible repeat (first | apply Kd.R_alloc | apply Kd.R_drewN | apply Kd.R_drew)); exact HO_3.out⟩, ⟨by (with_reducible repeat (first | apply Kd.V_alloc | apply Kd.V_drewN | apply Kd.V_drew)); exact HO_67.out⟩, ⟨by (with_reducible repeat (first | refine blk_drewN ?_ _ | refine blk_drew ?_ | refine blk_alloc ?_ _)); exact BK311.out⟩, ⟨by repeat (first | (with_reducible first | exact HK.out | apply Kept.alloc | apply Kept.drewN | apply Kept.drew | refine Kept.setCell ?_ (.inr GW311.out) _) | exact HK.out)⟩, ⟨by repeat (first | (with_reducible first | exact HB.out | apply below_alloc | apply pw_below_drewN | apply below_drew1 | refine below_set ?_ GE311.out) | exact HB.out)⟩⟩
                   ·
                    rw [if_neg c38] at H
                    exact absurd H (by simp)
                  ·
                   rw [if_neg c37] at H
                   exact absurd H (by simp)
                 ·
                  rw [if_neg c36] at H
                  exact absurd H (by simp)
                ·
                 rw [if_neg c35] at H
                 have c35b0 : decide (x69_5 < (y324.length : Int)) = false := decide_eq_false c35
                 clear c35
                 by_cases c41 : 0 ≤ x11_20
                 ·
                  rw [if_pos c41] at H
                  have c41b0 := eq_true c41
                  have c41b1 : decide (0 ≤ x11_20) = true := decide_eq_true c41
                  clear c41
                  by_cases c42 : x11_20 ≤ (x0_3.length : Int)
                  ·
                   rw [if_pos c42] at H
                   have c42b0 := eq_true c42
                   have c42b1 : decide (x11_20 ≤ (x0_3.length : Int)) = true := decide_eq_true c42
                   clear c42
                   obtain ⟨y332, hy332⟩ : ∃ y_ : List ByteArray, y_ = (x0_3.take (x11_20 : Int).toNat) := ⟨_, rfl⟩
                   replace H : (spec_l13Build.l3 k5 x0_3 x3_3 (l3.length : Int) x11_20 x12_5 ([] : List ByteArray) y332 (y332.length : Int) 0) = some r := by first | (rw [hy332]; with_reducible exact H) | (have H2_ := (Option.bind_some _ _).symm.trans H; rw [hy332]; with_reducible exact H2_) | (have H2_ := (Option.bind_some _ _).symm.trans H; with_reducible exact H2_) | with_reducible exact H | (rw [hy332]; exact H) | exact H
                   have Ny332 := aM hy332
                   clear hy332
                   have H' := aM H
                   clear H
                   have q43 : (x11_20 : Int) ≤ ((x0_3.length : Int) : Int) := of_decide_eq_true (by first | (with_reducible assumption) | assumption)
                   obtain ⟨i043, hi043, _, hsz43, _⟩ := info_parts info9
                   have hroom43 : x0_3.length ≤ co22 := (Kd.V_reads' HO_0.out).2.1
                   have hC43 : Kd.F Kd.string _ _ (some ad323) x0_3.length x0_3 := (Kd.V_at (base := w0.heap.size) HO_0.out).2.2
                   have hcut43 := cut_to (P := Try.prog) 22 9 .i64 Try.underlying22 hi043 (some ad323) x0_3.length co22 x11_20 (of_decide_eq_true (by first | (with_reducible assumption) | assumption)) q43 hroom43
                   have hr43 := Kd.F_take (m := (x11_20 : Int).toNat) hC43 (by omega)
                   have hy43 : y332.length = (x11_20 : Int).toNat := (by rw [Ny332.out, List.length_take]; omega)
                   rw [← Ny332.out] at hr43
                   rw [← hy43] at hcut43
                   have HO336 := aM (show Kd.V Kd.string 9 _ w0.heap.size _ (.slice (some ad323) y332.length co22) y332 from Kd.V_mk (by omega) hr43)
                   have HC336 := aM (show y332.length ≤ co22 from by omega)
                   clear hr43 hC43 hroom43 hi043 hsz43
                   have KY43 := aM hy43
                   clear hy43
                   replace q43 := eq_true q43
                   go_wp2
                   repeat (go_quiet (fail); try go_wp2)
                   go_loopg [16, 87] k5 (fun kq v16 v87 w' => ∃ (x16_6 : List ByteArray) (x87_6 : Int), v87 = .int .i64 x87_6 ∧ Aside0 (spec_l13Build.l3 kq x0_3 x3_3 (l3.length : Int) x11_20 x12_5 x16_6 y332 (y332.length : Int) x87_6 = some r) ∧ Aside0 (kq ≤ k5) ∧ Aside0 (Kd.V Kd.string 9 w' w0.heap.size (fun k_ => ((P3_ k_ ∨ P0_ k_) ∨ w.heap.size ≤ k_) ∧ some k_ ≠ (u3 : Value).ownBlock ∧ some k_ ≠ (v16 : Value).ownBlock ∧ k_ ≠ gb311) (.slice (some ad323) x0_3.length co22) x0_3) ∧ Aside0 (Kd.R k64 64 w' w0.heap.size (fun k_ => (P3_ k_ ∨ w.heap.size ≤ k_) ∧ k_ ≠ gb311) u3 x3_3) ∧ Aside0 (Kd.R Kd.string 9 w' w0.heap.size (fun k_ => (P3_ k_ ∨ w.heap.size ≤ k_)) v16 x16_6) ∧ Aside0 (Kd.V Kd.string 9 w' w0.heap.size (fun k_ => ((P3_ k_ ∨ P0_ k_) ∨ w.heap.size ≤ k_) ∧ some k_ ≠ (u3 : Value).ownBlock ∧ some k_ ≠ (v16 : Value).ownBlock ∧ k_ ≠ gb311) (.slice (some ad323) y332.length co22) y332) ∧ Aside0 (w'.heap[gb311]? = some (.cells #[.string a1, .bool x312001_10, .int .i64 a2] 64 (0, 0))) ∧ Aside0 (Kept w w' (fun k_ => P3_ k_)) ∧ Aside0 (Below w0.heap.size w0 w'))
                   case atStart => exact ⟨(([] : List ByteArray)), (0), (by first | rfl | (simp; done) | (simp [*]; done)), H', ⟨Nat.le_refl _⟩, ⟨by (with_reducible repeat (first | apply Kd.V_alloc | apply Kd.V_drewN | apply Kd.V_drew)); exact Kd.V_mono HO_0.out (fun _ hk => ⟨hk.1, ⟨hk.2.1, ⟨(by simp [Value.ownBlock]), hk.2.2⟩⟩⟩)⟩, ⟨by (with_reducible repeat (first | apply Kd.R_alloc | apply Kd.R_drewN | apply Kd.R_drew)); exact HO_3.out⟩, ⟨by first | exact Kd.R_nil _ _ _ _ _ | exact Kd.N_nil _ _ _ _ _ | exact Kd.V_nil _ _ _ _ _ | exact Kd.Q_nil _ _ _ _ _ | exact Kd.S_nil _ _ _ _ _⟩, ⟨by (with_reducible repeat (first | apply Kd.V_alloc | apply Kd.V_drewN | apply Kd.V_drew)); exact Kd.V_mono HO336.out (fun _ hk => ⟨hk.1, ⟨hk.2.1, ⟨(by simp [Value.ownBlock]), hk.2.2⟩⟩⟩)⟩, ⟨by (with_reducible repeat (first | refine blk_drewN ?_ _ | refine blk_drew ?_ | refine blk_alloc ?_ _)); exact BK311.out⟩, ⟨by repeat (first | (with_reducible first | exact HK.out | apply Kept.alloc | apply Kept.drewN | apply Kept.drew | refine Kept.setCell ?_ (.inr GW311.out) _) | exact HK.out)⟩, ⟨by repeat (first | (with_reducible first | exact HB.out | apply below_alloc | apply pw_below_drewN | apply below_drew1 | refine below_set ?_ GE311.out) | exact HB.out)⟩⟩
                   case round =>
                    clear H'
                    try clear c1
                    try clear q1
                    try clear c2
                    try clear p2
                    try clear q2
                    try clear hx2
                    try clear qi2
                    try clear c3
                    try clear p3
                    try clear q3
                    try clear hx3
                    try clear qi3
                    try clear c4
                    try clear q4
                    try clear c6
                    try clear p6
                    try clear c9
                    try clear c9b0
                    try clear c9b1
                    try clear c10
                    try clear c10b0
                    try clear c10b1
                    try clear c12
                    try clear c13
                    try clear c13b0
                    try clear c13b1
                    try clear c16
                    try clear q16
                    try clear c17
                    try clear c20
                    try clear c20b0
                    try clear c20b1
                    try clear c23
                    try clear c23b0
                    try clear c24
                    try clear c24b0
                    try clear c25
                    try clear c25b0
                    try clear c25b1
                    try clear p26
                    try clear q26
                    try clear hx26
                    try clear qi26
                    try clear c27
                    try clear c27b0
                    try clear c27b1
                    try clear c28
                    try clear c28b0
                    try clear c28b1
                    try clear p29
                    try clear q29
                    try clear hx29
                    try clear qi29
                    try clear c30
                    try clear c30b0
                    try clear c30b1
                    try clear c31
                    try clear c31b0
                    try clear c31b1
                    try clear p31
                    try clear q31
                    try clear hx31
                    try clear qi31
                    try clear c32
                    try clear c32b0
                    try clear c32b1
                    try clear p32
                    try clear q32
                    try clear hx32
                    try clear qi32
                    try clear c33
                    try clear c33b0
                    try clear c33b1
                    try clear p33
                    try clear q33
                    try clear hx33
                    try clear qi33
                    try clear c34
                    try clear q34
                    try clear c35
                    try clear c35b0
                    try clear c36
                    try clear c36b0
                    try clear c37
                    try clear c37b0
                    try clear c38
                    try clear c38b0
                    try clear c38b1
                    try clear c40
                    try clear c40b0
                    try clear c41
                    try clear c41b0
                    try clear c41b1
                    try clear c42
                    try clear c42b0
                    try clear c42b1
                    try clear q43
                    try clear hcz14_0
                    try clear hcz14_1
                    try clear hcz14_2
                    try clear hcz18_0
                    try clear hcz18_1
                    try clear hcz18_2
                    try clear hcz8_0
                    try clear hcz8_1
                    try clear hcz8_2
                    try clear hfz14_0
                    try clear hfz14_1
                    try clear hfz14_2
                    try clear hfz18_0
                    try clear hfz18_1
                    try clear hfz18_2
                    try clear hfz8_0
                    try clear hfz8_1
                    try clear hfz8_2
                    try clear hx312_0
                    try clear hx321_0
                    try clear hx322_0
                    try clear hx323_0
                    try clear hx329_0
                    try clear hx330_0
                    try clear p2
                    try clear p26
                    try clear p29
                    try clear p3
                    try clear p31
                    try clear p312
                    try clear p32
                    try clear p321
                    try clear p322
                    try clear p323
                    try clear p329
                    try clear p330
                    try clear p6
                    try clear q1
                    try clear q16
                    try clear q2
                    try clear q26
                    try clear q29
                    try clear q3
                    try clear q31
                    try clear q312
                    try clear q32
                    try clear q321
                    try clear q322
                    try clear q323
                    try clear q329
                    try clear q330
                    try clear q34
                    try clear q43
                    obtain ⟨x16_6, x87_6, rfl, HA, HK6, HO_0, HO_3, HO_16, HO_85, BK311, HK, HB⟩ := hrel
                    cases gk with
                    | zero => exact absurd HA.out (by simp [spec_l13Build.l3])
                    | succ k6 =>
                     have H := HA.out
                     clear HA
                     simp only [spec_l13Build.l3] at H
                     by_cases c44 : x87_6 < (y332.length : Int)
                     ·
                      rw [if_pos c44] at H
                      have c44b0 : decide (x87_6 < (y332.length : Int)) = true := decide_eq_true c44
                      clear c44
                      by_cases c45 : 0 ≤ x87_6
                      ·
                       rw [if_pos c45] at H
                       have c45b0 : decide (0 ≤ x87_6) = true := decide_eq_true c45
                       clear c45
                       by_cases c46 : x87_6 < (y332.length : Int)
                       ·
                        rw [if_pos c46] at H
                        have c46b0 : decide (x87_6 < (y332.length : Int)) = true := decide_eq_true c46
                        clear c46
                        by_cases c47 : 0 ≤ x12_5
                        ·
                         rw [if_pos c47] at H
                         have c47b0 := eq_true c47
                         have c47b1 : decide (0 ≤ x12_5) = true := decide_eq_true c47
                         clear c47
                         by_cases c48 : x12_5 ≤ ((rdOf ByteArray.empty y332 x87_6).size : Int)
                         ·
                          rw [if_pos c48] at H
                          have c48b0 := eq_true c48
                          have c48b1 : decide (x12_5 ≤ ((rdOf ByteArray.empty y332 x87_6).size : Int)) = true := decide_eq_true c48
                          clear c48
                          by_cases c49 : x16_6.length < 8796093022208
                          ·
                           rw [if_pos c49] at H
                           have LMc49 := aM c49
                           clear c49
                           obtain ⟨y338, hy338⟩ : ∃ y_ : List ByteArray, y_ = (x16_6 ++ [(rdOf ByteArray.empty y332 x87_6).extract (x12_5 : Int).toNat (rdOf ByteArray.empty y332 x87_6).size]) := ⟨_, rfl⟩
                           replace H : (spec_l13Build.l3 k6 x0_3 x3_3 (l3.length : Int) x11_20 x12_5 y338 y332 (y332.length : Int) (wrap64 (x87_6 + 1))) = some r := by first | (rw [hy338]; with_reducible exact H) | (have H2_ := (Option.bind_some _ _).symm.trans H; rw [hy338]; with_reducible exact H2_) | (have H2_ := (Option.bind_some _ _).symm.trans H; with_reducible exact H2_) | with_reducible exact H | (rw [hy338]; exact H) | exact H
                           have Ny338 := aM hy338
                           clear hy338
                           have H' := aM H
                           clear H
                           have p337 : 0 ≤ (x87_6 : Int) := of_decide_eq_true (by first | (with_reducible assumption) | assumption)
                           have q337 : x87_6 < (y332.length : Int) := of_decide_eq_true (by first | (with_reducible assumption) | assumption)
                           obtain ⟨ad337, e337, hx337_0⟩ := Kd.at_string (Kd.V_reads' HO_85.out).2.2 x87_6 p337 q337
                           obtain rfl : ad323 = ad337 := (by injection e337)
                           replace p337 := eq_true p337
                           replace q337 := eq_true q337
                           go_wp2_with (first | ((with_reducible refine gate_builtin (b := .append) (xs := #[.tmp 91, .tmp 95]) rfl ?_); at_builtin; refine Kd.R_append Kd.string (w0 := w0) w0.heap.size rfl (.tmp 91) (.tmp 95) 22 9 (.string ⟨#[]⟩) 16 rfl Try.underlying22 info9 rfl (by decide) (by omega) u16 x16_6 ((rdOf ByteArray.empty y332 x87_6).extract (x12_5 : Int).toNat (rdOf ByteArray.empty y332 x87_6).size) [.string ((rdOf ByteArray.empty y332 x87_6).extract (x12_5 : Int).toNat (rdOf ByteArray.empty y332 x87_6).size)] (fun k_ => (P3_ k_ ∨ w.heap.size ≤ k_)) (fun _ => False) rfl rfl ?aP (fun _ hk => hk.elim) ?aF ?aO ?aB ?aS ?aL ?_; (case aP => exact rfl); (case aB => exact (by repeat (first | (with_reducible first | exact HB.out | apply below_alloc | apply pw_below_drewN | apply below_drew1 | refine below_set ?_ GE311.out) | exact HB.out))); (case aF => exact (fun k_ hk => (.inr (Nat.le_trans (by first | exact HK.out.1 | exact (show Kept w _ (fun k_ => P3_ k_) from by repeat (first | (with_reducible first | exact HK.out | apply Kept.alloc | apply Kept.drewN | apply Kept.drew | refine Kept.setCell ?_ (.inr GW311.out) _) | exact HK.out)).1) hk)))); (case aO => exact (by (with_reducible repeat (first | apply Kd.R_alloc | apply Kd.R_drewN | apply Kd.R_drew)); exact HO_16.out)); (case aS => exact (below_size (by repeat (first | (with_reducible first | exact HB.out | apply below_alloc | apply pw_below_drewN | apply below_drew1 | refine below_set ?_ GE311.out) | exact HB.out)))); (case aL => have := LMc49.out; omega); intro v339 w50 ho hb hg hat; rw [← Ny338.out] at ho; have n0_ := aM (Kd.V_afterv (ok := (fun k_ => ((P3_ k_ ∨ P0_ k_) ∨ w.heap.size ≤ k_) ∧ some k_ ≠ (u3 : Value).ownBlock ∧ k_ ≠ gb311)) (by (with_reducible repeat (first | apply Kd.V_alloc | apply Kd.V_drewN | apply Kd.V_drew)); exact Kd.V_mono HO_0.out (fun _ hk => ⟨⟨hk.1, ⟨hk.2.1, hk.2.2.2⟩⟩, hk.2.2.1⟩)) hg hat); have n1_ := aM (Kd.R_over' (by (with_reducible repeat (first | apply Kd.R_alloc | apply Kd.R_drewN | apply Kd.R_drew)); exact HO_3.out) (Kd.R_typed (by (with_reducible repeat (first | apply Kd.R_alloc | apply Kd.R_drewN | apply Kd.R_drew)); exact HO_16.out)) (by decide) hg); have n2_ := aM (Kd.V_afterv (ok := (fun k_ => ((P3_ k_ ∨ P0_ k_) ∨ w.heap.size ≤ k_) ∧ some k_ ≠ (u3 : Value).ownBlock ∧ k_ ≠ gb311)) (by (with_reducible repeat (first | apply Kd.V_alloc | apply Kd.V_drewN | apply Kd.V_drew)); exact Kd.V_mono HO_85.out (fun _ hk => ⟨⟨hk.1, ⟨hk.2.1, hk.2.2.2⟩⟩, hk.2.2.1⟩)) hg hat); have n3_ := aM (blk_grown (g := gb311) (o := .cells #[.string a1, .bool x312001_10, .int .i64 a2] 64 (0, 0)) (by (with_reducible repeat (first | refine blk_drewN ?_ _ | refine blk_drew ?_ | refine blk_alloc ?_ _)); exact BK311.out) hg (Kd.R_ne HO_16.out BK311.out (by decide))); have n4_ := aM (hb); have n5_ := aM (Kept.of_grown (S := (fun k_ => P3_ k_)) hg (by repeat (first | (with_reducible first | exact HK.out | apply Kept.alloc | apply Kept.drewN | apply Kept.drew | refine Kept.setCell ?_ (.inr GW311.out) _) | exact HK.out)) (fun k_ e_ => (HO_16.out.1 k_ e_))); have n6_ := aM (ho); clear HO_0; clear HO_3; clear HO_85; clear BK311; clear HB; clear HK; clear HO_16; have HO_0 := n0_; have HO_3 := n1_; have HO_85 := n2_; have BK311 := n3_; have HB := n4_; have HK := n5_; have HO340 := n6_; clear n0_ n1_ n2_ n3_ n4_ n5_ n6_; clear ho hb hg hat))
                           repeat (go_quiet (first | ((with_reducible refine gate_builtin (b := .append) (xs := #[.tmp 91, .tmp 95]) rfl ?_); at_builtin; refine Kd.R_append Kd.string (w0 := w0) w0.heap.size rfl (.tmp 91) (.tmp 95) 22 9 (.string ⟨#[]⟩) 16 rfl Try.underlying22 info9 rfl (by decide) (by omega) u16 x16_6 ((rdOf ByteArray.empty y332 x87_6).extract (x12_5 : Int).toNat (rdOf ByteArray.empty y332 x87_6).size) [.string ((rdOf ByteArray.empty y332 x87_6).extract (x12_5 : Int).toNat (rdOf ByteArray.empty y332 x87_6).size)] (fun k_ => (P3_ k_ ∨ w.heap.size ≤ k_)) (fun _ => False) rfl rfl ?aP (fun _ hk => hk.elim) ?aF ?aO ?aB ?aS ?aL ?_; (case aP => exact rfl); (case aB => exact (by repeat (first | (with_reducible first | exact HB.out | apply below_alloc | apply pw_below_drewN | apply below_drew1 | refine below_set ?_ GE311.out) | exact HB.out))); (case aF => exact (fun k_ hk => (.inr (Nat.le_trans (by first | exact HK.out.1 | exact (show Kept w _ (fun k_ => P3_ k_) from by repeat (first | (with_reducible first | exact HK.out | apply Kept.alloc | apply Kept.drewN | apply Kept.drew | refine Kept.setCell ?_ (.inr GW311.out) _) | exact HK.out)).1) hk)))); (case aO => exact (by (with_reducible repeat (first | apply Kd.R_alloc | apply Kd.R_drewN | apply Kd.R_drew)); exact HO_16.out)); (case aS => exact (below_size (by repeat (first | (with_reducible first | exact HB.out | apply below_alloc | apply pw_below_drewN | apply below_drew1 | refine below_set ?_ GE311.out) | exact HB.out)))); (case aL => have := LMc49.out; omega); intro v339 w50 ho hb hg hat; rw [← Ny338.out] at ho; have n0_ := aM (Kd.V_afterv (ok := (fun k_ => ((P3_ k_ ∨ P0_ k_) ∨ w.heap.size ≤ k_) ∧ some k_ ≠ (u3 : Value).ownBlock ∧ k_ ≠ gb311)) (by (with_reducible repeat (first | apply Kd.V_alloc | apply Kd.V_drewN | apply Kd.V_drew)); exact Kd.V_mono HO_0.out (fun _ hk => ⟨⟨hk.1, ⟨hk.2.1, hk.2.2.2⟩⟩, hk.2.2.1⟩)) hg hat); have n1_ := aM (Kd.R_over' (by (with_reducible repeat (first | apply Kd.R_alloc | apply Kd.R_drewN | apply Kd.R_drew)); exact HO_3.out) (Kd.R_typed (by (with_reducible repeat (first | apply Kd.R_alloc | apply Kd.R_drewN | apply Kd.R_drew)); exact HO_16.out)) (by decide) hg); have n2_ := aM (Kd.V_afterv (ok := (fun k_ => ((P3_ k_ ∨ P0_ k_) ∨ w.heap.size ≤ k_) ∧ some k_ ≠ (u3 : Value).ownBlock ∧ k_ ≠ gb311)) (by (with_reducible repeat (first | apply Kd.V_alloc | apply Kd.V_drewN | apply Kd.V_drew)); exact Kd.V_mono HO_85.out (fun _ hk => ⟨⟨hk.1, ⟨hk.2.1, hk.2.2.2⟩⟩, hk.2.2.1⟩)) hg hat); have n3_ := aM (blk_grown (g := gb311) (o := .cells #[.string a1, .bool x312001_10, .int .i64 a2] 64 (0, 0)) (by (with_reducible repeat (first | refine blk_drewN ?_ _ | refine blk_drew ?_ | refine blk_alloc ?_ _)); exact BK311.out) hg (Kd.R_ne HO_16.out BK311.out (by decide))); have n4_ := aM (hb); have n5_ := aM (Kept.of_grown (S := (fun k_ => P3_ k_)) hg (by repeat (first | (with_reducible first | exact HK.out | apply Kept.alloc | apply Kept.drewN | apply Kept.drew | refine Kept.setCell ?_ (.inr GW311.out) _) | exact HK.out)) (fun k_ e_ => (HO_16.out.1 k_ e_))); have n6_ := aM (ho); clear HO_0; clear HO_3; clear HO_85; clear BK311; clear HB; clear HK; clear HO_16; have HO_0 := n0_; have HO_3 := n1_; have HO_85 := n2_; have BK311 := n3_; have HB := n4_; have HK := n5_; have HO340 := n6_; clear n0_ n1_ n2_ n3_ n4_ n5_ n6_; clear ho hb hg hat)); try go_wp2_with (first | ((with_reducible refine gate_builtin (b := .append) (xs := #[.tmp 91, .tmp 95]) rfl ?_); at_builtin; refine Kd.R_append Kd.string (w0 := w0) w0.heap.size rfl (.tmp 91) (.tmp 95) 22 9 (.string ⟨#[]⟩) 16 rfl Try.underlying22 info9 rfl (by decide) (by omega) u16 x16_6 ((rdOf ByteArray.empty y332 x87_6).extract (x12_5 : Int).toNat (rdOf ByteArray.empty y332 x87_6).size) [.string ((rdOf ByteArray.empty y332 x87_6).extract (x12_5 : Int).toNat (rdOf ByteArray.empty y332 x87_6).size)] (fun k_ => (P3_ k_ ∨ w.heap.size ≤ k_)) (fun _ => False) rfl rfl ?aP (fun _ hk => hk.elim) ?aF ?aO ?aB ?aS ?aL ?_; (case aP => exact rfl); (case aB => exact (by repeat (first | (with_reducible first | exact HB.out | apply below_alloc | apply pw_below_drewN | apply below_drew1 | refine below_set ?_ GE311.out) | exact HB.out))); (case aF => exact (fun k_ hk => (.inr (Nat.le_trans (by first | exact HK.out.1 | exact (show Kept w _ (fun k_ => P3_ k_) from by repeat (first | (with_reducible first | exact HK.out | apply Kept.alloc | apply Kept.drewN | apply Kept.drew | refine Kept.setCell ?_ (.inr GW311.out) _) | exact HK.out)).1) hk)))); (case aO => exact (by (with_reducible repeat (first | apply Kd.R_alloc | apply Kd.R_drewN | apply Kd.R_drew)); exact HO_16.out)); (case aS => exact (below_size (by repeat (first | (with_reducible first | exact HB.out | apply below_alloc | apply pw_below_drewN | apply below_drew1 | refine below_set ?_ GE311.out) | exact HB.out)))); (case aL => have := LMc49.out; omega); intro v339 w50 ho hb hg hat; rw [← Ny338.out] at ho; have n0_ := aM (Kd.V_afterv (ok := (fun k_ => ((P3_ k_ ∨ P0_ k_) ∨ w.heap.size ≤ k_) ∧ some k_ ≠ (u3 : Value).ownBlock ∧ k_ ≠ gb311)) (by (with_reducible repeat (first | apply Kd.V_alloc | apply Kd.V_drewN | apply Kd.V_drew)); exact Kd.V_mono HO_0.out (fun _ hk => ⟨⟨hk.1, ⟨hk.2.1, hk.2.2.2⟩⟩, hk.2.2.1⟩)) hg hat); have n1_ := aM (Kd.R_over' (by (with_reducible repeat (first | apply Kd.R_alloc | apply Kd.R_drewN | apply Kd.R_drew)); exact HO_3.out) (Kd.R_typed (by (with_reducible repeat (first | apply Kd.R_alloc | apply Kd.R_drewN | apply Kd.R_drew)); exact HO_16.out)) (by decide) hg); have n2_ := aM (Kd.V_afterv (ok := (fun k_ => ((P3_ k_ ∨ P0_ k_) ∨ w.heap.size ≤ k_) ∧ some k_ ≠ (u3 : Value).ownBlock ∧ k_ ≠ gb311)) (by (with_reducible repeat (first | apply Kd.V_alloc | apply Kd.V_drewN | apply Kd.V_drew)); exact Kd.V_mono HO_85.out (fun _ hk => ⟨⟨hk.1, ⟨hk.2.1, hk.2.2.2⟩⟩, hk.2.2.1⟩)) hg hat); have n3_ := aM (blk_grown (g := gb311) (o := .cells #[.string a1, .bool x312001_10, .int .i64 a2] 64 (0, 0)) (by (with_reducible repeat (first | refine blk_drewN ?_ _ | refine blk_drew ?_ | refine blk_alloc ?_ _)); exact BK311.out) hg (Kd.R_ne HO_16.out BK311.out (by decide))); have n4_ := aM (hb); have n5_ := aM (Kept.of_grown (S := (fun k_ => P3_ k_)) hg (by repeat (first | (with_reducible first | exact HK.out | apply Kept.alloc | apply Kept.drewN | apply Kept.drew | refine Kept.setCell ?_ (.inr GW311.out) _) | exact HK.out)) (fun k_ e_ => (HO_16.out.1 k_ e_))); have n6_ := aM (ho); clear HO_0; clear HO_3; clear HO_85; clear BK311; clear HB; clear HK; clear HO_16; have HO_0 := n0_; have HO_3 := n1_; have HO_85 := n2_; have BK311 := n3_; have HB := n4_; have HK := n5_; have HO340 := n6_; clear n0_ n1_ n2_ n3_ n4_ n5_ n6_; clear ho hb hg hat)))
                           go_roundg k6
                           case measure => have := HJ4.out; have := HJ10.out; have := HK3.out; have := HJ20.out; have := HK5.out; have := HK6.out; omega
                           case rel => exact ⟨(y338), (wrap64 (x87_6 + 1)), (by first | rfl | (simp; done) | (simp [*]; done)), H', ⟨by have := HJ4.out; have := HJ10.out; have := HK3.out; have := HJ20.out; have := HK5.out; have := HK6.out; omega⟩, ⟨by (with_reducible repeat (first | apply Kd.V_alloc | apply Kd.V_drewN | apply Kd.V_drew)); exact Kd.V_mono HO_0.out (fun _ hk => ⟨hk.1.1, ⟨hk.1.2.1, ⟨hk.2, hk.1.2.2⟩⟩⟩)⟩, ⟨by (with_reducible repeat (first | apply Kd.R_alloc | apply Kd.R_drewN | apply Kd.R_drew)); exact HO_3.out⟩, ⟨by (with_reducible repeat (first | apply Kd.R_alloc | apply Kd.R_drewN | apply Kd.R_drew)); exact HO340.out⟩, ⟨by (with_reducible repeat (first | apply Kd.V_alloc | apply Kd.V_drewN | apply Kd.V_drew)); exact Kd.V_mono HO_85.out (fun _ hk => ⟨hk.1.1, ⟨hk.1.2.1, ⟨hk.2, hk.1.2.2⟩⟩⟩)⟩, ⟨by (with_reducible repeat (first | refine blk_drewN ?_ _ | refine blk_drew ?_ | refine blk_alloc ?_ _)); exact BK311.out⟩, ⟨by repeat (first | (with_reducible first | exact HK.out | apply Kept.alloc | apply Kept.drewN | apply Kept.drew | refine Kept.setCell ?_ (.inr GW311.out) _) | exact HK.out)⟩, ⟨by repeat (first | (with_reducible first | exact HB.out | apply below_alloc | apply pw_below_drewN | apply below_drew1 | refine below_set ?_ GE311.out) | exact HB.out)⟩⟩
                          ·
                           rw [if_neg c49] at H
                           exact absurd H (by simp)
                         ·
                          rw [if_neg c48] at H
                          exact absurd H (by simp)
                        ·
                         rw [if_neg c47] at H
                         exact absurd H (by simp)
                       ·
                        rw [if_neg c46] at H
                        exact absurd H (by simp)
                      ·
                       rw [if_neg c45] at H
                       exact absurd H (by simp)
                     ·
                      rw [if_neg c44] at H
                      have c44b0 : decide (x87_6 < (y332.length : Int)) = false := decide_eq_false c44
                      clear c44
                      by_cases c51 : 0 < (x0_3.length : Int)
                      ·
                       rw [if_pos c51] at H
                       have c51b0 : decide (0 < (x0_3.length : Int)) = true := decide_eq_true c51
                       have c51b1 : decide (0 < x0_3.length) = true := decide_eq_true (by omega)
                       clear c51
                       by_cases c52 : 0 ≤ x12_5
                       ·
                        rw [if_pos c52] at H
                        have c52b0 := eq_true c52
                        have c52b1 : decide (0 ≤ x12_5) = true := decide_eq_true c52
                        clear c52
                        by_cases c53 : x12_5 ≤ ((rdOf ByteArray.empty x0_3 0).size : Int)
                        ·
                         rw [if_pos c53] at H
                         have c53b0 := eq_true c53
                         have c53b1 : decide (x12_5 ≤ ((rdOf ByteArray.empty x0_3 0).size : Int)) = true := decide_eq_true c53
                         clear c53
                         replace H := Option.bind_eq_some_iff.mp H
                         obtain ⟨t342, A540, H⟩ := H
                         replace H : (if 0 ≤ x11_20 then (if x11_20 ≤ (x0_3.length : Int) then (spec_l13Build.l0 k6 (x0_3.drop (x11_20 : Int).toNat) t342 (l3.length : Int)) else (none)) else (none)) = some r := H
                         have A54 := aM A540
                         clear A540
                         by_cases c55 : 0 ≤ x11_20
                         ·
                          rw [if_pos c55] at H
                          have c55b0 := eq_true c55
                          have c55b1 : decide (0 ≤ x11_20) = true := decide_eq_true c55
                          clear c55
                          by_cases c56 : x11_20 ≤ (x0_3.length : Int)
                          ·
                           rw [if_pos c56] at H
                           have c56b0 := eq_true c56
                           have c56b1 : decide (x11_20 ≤ (x0_3.length : Int)) = true := decide_eq_true c56
                           clear c56
                           obtain ⟨y345, hy345⟩ : ∃ y_ : List ByteArray, y_ = (x0_3.drop (x11_20 : Int).toNat) := ⟨_, rfl⟩
                           replace H : (spec_l13Build.l0 k6 y345 t342 (l3.length : Int)) = some r := by first | (rw [hy345]; with_reducible exact H) | (have H2_ := (Option.bind_some _ _).symm.trans H; rw [hy345]; with_reducible exact H2_) | (have H2_ := (Option.bind_some _ _).symm.trans H; with_reducible exact H2_) | with_reducible exact H | (rw [hy345]; exact H) | exact H
                           have Ny345 := aM hy345
                           clear hy345
                           have H' := aM H
                           clear H
                           have p341 : 0 ≤ (0 : Int) := (by omega)
                           have q341 : 0 < (x0_3.length : Int) := of_decide_eq_true (by first | (with_reducible assumption) | assumption)
                           obtain ⟨ad341, e341, hx341_0⟩ := Kd.at_string (Kd.V_reads' HO_0.out).2.2 0 p341 q341
                           obtain rfl : ad323 = ad341 := (by injection e341)
                           have qi341 : (0 < x0_3.length) = True := eq_true (by omega)
                           (try rw [show ((0 : Int)).toNat = 0 from rfl] at hx341_0)
                           (try rw [Addr.add_zero'] at hx341_0)
                           replace p341 := eq_true p341
                           replace q341 := eq_true q341
                           obtain ⟨Ao57, co57, eo57⟩ := Kd.R_slice HO_16.out
                           subst eo57
                           obtain ⟨Ao58, co58, eo58⟩ := Kd.R_slice HO_3.out
                           subst eo58
                           go_wp2_with (first | (go_at_call 67; (try simp only [i64_w]); (with_reducible refine (ih k6 (by have := HJ4.out; have := HJ10.out; have := HK3.out; have := HJ20.out; have := HK5.out; have := HK6.out; omega) (fun k_ => some k_ = (.slice Ao57 x16_6.length co57 : Value).ownBlock) _ _ x16_6 ((rdOf ByteArray.empty x0_3 0).extract 0 (x12_5 : Int).toNat) (l3.length : Int) (fun k_ => some k_ = (.slice Ao58 x3_3.length co58 : Value).ownBlock) (.slice Ao58 x3_3.length co58) x3_3 t342 w0 _ ?side1 ?side2 ?side3 A54.out).mono ?_); (case side1 => repeat (first | (with_reducible first | exact HB.out | apply below_alloc | apply pw_below_drewN | apply below_drew1 | refine below_set ?_ GE311.out) | exact HB.out)); (case side2 => exact Kd.V_mono (Kd.R_V (Kd.R_tight rfl (Kd.R_types (Kd.R_apart' (HO_16.out) (Kd.R_typed HO_3.out) (by decide)) BK311.out (by decide)))) (fun k_ hk_ => ⟨hk_, ((Kd.R_types (Kd.R_apart' (HO_16.out) (Kd.R_typed HO_3.out) (by decide)) BK311.out (by decide)).1 k_ hk_.symm).1.2⟩)); (case side3 => exact Kd.R_tight rfl HO_3.out); rintro e w59 ⟨v343, rfl, ho0, hb, hkp⟩; have n0_ := aM (Kd.V_mono (ok' := fun k_ => ((P3_ k_ ∨ P0_ k_) ∨ w.heap.size ≤ k_) ∧ some k_ ≠ (.slice Ao57 x16_6.length co57 : Value).ownBlock ∧ k_ ≠ gb311 ∧ some k_ ≠ (v343 : Value).ownBlock) (Kd.V_keptB (HO_0.out) hkp (fun k_ hk_ hs_ => (hk_.2.1) hs_)) (fun k_ hk_ => ⟨hk_.1.1, hk_.1.2.2.1, hk_.1.2.2.2, fun e_ => Or.elim (ho0.1 k_ e_.symm) (fun hs_ => hk_.2.1 hs_) (fun hn_ => Nat.not_le.2 hk_.2.2 hn_)⟩)); have n1_ := aM (Kd.R_mono (ok' := fun k_ => (P3_ k_ ∨ w.heap.size ≤ k_)) (Kd.R_keptB ((Kd.R_apart' HO_16.out (Kd.R_typed HO_3.out) (by decide))) hkp (fun k_ hk_ hs_ => (hk_.2) hs_)) (fun k_ hk_ => hk_.1.1)); have n2_ := aM (Kd.V_mono (ok' := fun k_ => ((P3_ k_ ∨ P0_ k_) ∨ w.heap.size ≤ k_) ∧ some k_ ≠ (.slice Ao57 x16_6.length co57 : Value).ownBlock ∧ k_ ≠ gb311 ∧ some k_ ≠ (v343 : Value).ownBlock) (Kd.V_keptB (HO_85.out) hkp (fun k_ hk_ hs_ => (hk_.2.1) hs_)) (fun k_ hk_ => ⟨hk_.1.1, hk_.1.2.2.1, hk_.1.2.2.2, fun e_ => Or.elim (ho0.1 k_ e_.symm) (fun hs_ => hk_.2.1 hs_) (fun hn_ => Nat.not_le.2 hk_.2.2 hn_)⟩)); have n3_ := aM (blk_kept (by (with_reducible repeat (first | refine blk_drewN ?_ _ | refine blk_drew ?_ | refine blk_alloc ?_ _)); exact BK311.out) hkp (fun hs_ => (fun e_ => (Kd.R_away HO_3.out (fun _ hk => hk.2)) e_) hs_)); have n4_ := aM (Kd.R_mono (ok' := fun k_ => (P3_ k_ ∨ w.heap.size ≤ k_) ∧ k_ ≠ gb311) ho0 (fun k_ hk_ => ⟨Or.elim hk_ (fun hs_ => (HO_3.out.1 k_ (hs_).symm).1) (fun hn_ => (.inr (Nat.le_trans (by first | exact HK.out.1 | exact (show Kept w _ (fun k_ => P3_ k_) from by repeat (first | (with_reducible first | exact HK.out | apply Kept.alloc | apply Kept.drewN | apply Kept.drew | refine Kept.setCell ?_ (.inr GW311.out) _) | exact HK.out)).1) hn_))), Or.elim hk_ (fun hs_ => fun e_ => (Kd.R_away HO_3.out (fun _ hk => hk.2)) (by rw [← e_]; exact hs_)) (fun hn_ => (Kd.freshB (g := gb311) (o := .cells #[.string a1, .bool x312001_10, .int .i64 a2] 64 (0, 0)) (by (with_reducible repeat (first | refine blk_drewN ?_ _ | refine blk_drew ?_ | refine blk_alloc ?_ _)); exact BK311.out) k_ hn_))⟩)); have n5_ := aM (Kept.then_ (S := (fun k_ => P3_ k_)) (by repeat (first | (with_reducible first | exact HK.out | apply Kept.alloc | apply Kept.drewN | apply Kept.drew | refine Kept.setCell ?_ (.inr GW311.out) _) | exact HK.out)) hkp (fun k_ hs_ => (fun e_ => (HO_3.out.1 k_ e_.symm).1) hs_)); have n6_ := aM (hb); clear HO_0; clear HO_16; clear HO_85; clear BK311; clear HK; clear HB; clear HO_3; have HO_0 := n0_; have HO_16 := n1_; have HO_85 := n2_; have BK311 := n3_; have HO344 := n4_; have HK := n5_; have HB := n6_; clear n0_ n1_ n2_ n3_ n4_ n5_ n6_; (try clear hb); (try clear hkp); (try clear ho0); have q60 : (x11_20 : Int) ≤ ((x0_3.length : Int) : Int) := of_decide_eq_true (by first | (with_reducible assumption) | assumption); obtain ⟨i060, hi060, _, hsz60, _⟩ := info_parts info9; have hroom60 : x0_3.length ≤ co22 := (Kd.V_reads' HO_0.out).2.1; have hC60 : Kd.F Kd.string _ _ (some ad323) x0_3.length x0_3 := (Kd.V_at (base := w0.heap.size) HO_0.out).2.2; have q060 : (0 : Int) ≤ (x11_20 : Int) := of_decide_eq_true (by first | (with_reducible assumption) | assumption); have hcut60 := cut_from (P := Try.prog) 22 9 .i64 Try.underlying22 hi060 1 hsz60 (some ad323) x0_3.length co22 x11_20 q060 q60; have hr60 := Kd.F_cut (m := (x11_20 : Int).toNat) (c := co22) hC60 (by omega) hroom60; obtain ⟨A60, hA60⟩ : ∃ A1, A1 = (if co22 = (x11_20 : Int).toNat then (some ad323) else ((some ad323) : Option Addr).map (·.add ((x11_20 : Int).toNat * 1))) := ⟨_, rfl⟩; obtain ⟨c60, hc60⟩ : ∃ c1, c1 = co22 - (x11_20 : Int).toNat := ⟨_, rfl⟩; have hy60 : y345.length = x0_3.length - (x11_20 : Int).toNat := (by rw [Ny345.out, List.length_drop] <;> omega); rw [show (x0_3).drop (x11_20 : Int).toNat = y345 from Ny345.out.symm] at hr60; replace hr60 : Kd.F Kd.string _ _ A60 y345.length y345 := (by rw [hA60]; exact hr60); rw [← hy60, ← hA60, ← hc60] at hcut60; have HO349 := aM (show Kd.V Kd.string 9 _ w0.heap.size _ (.slice A60 y345.length c60) y345 from Kd.V_mk (by rw [hy60, hc60]; exact Nat.sub_le_sub_right hroom60 _) hr60); have HC349 := aM (show y345.length ≤ c60 from by rw [hy60, hc60]; exact Nat.sub_le_sub_right hroom60 _); clear hr60 hC60 hroom60 hi060 hsz60 hc60; have KY60 := aM hy60; have KA60 := aM hA60; clear hy60 hA60; replace q60 := eq_true q60))
                           repeat (go_quiet (first | (go_at_call 67; (try simp only [i64_w]); (with_reducible refine (ih k6 (by have := HJ4.out; have := HJ10.out; have := HK3.out; have := HJ20.out; have := HK5.out; have := HK6.out; omega) (fun k_ => some k_ = (.slice Ao57 x16_6.length co57 : Value).ownBlock) _ _ x16_6 ((rdOf ByteArray.empty x0_3 0).extract 0 (x12_5 : Int).toNat) (l3.length : Int) (fun k_ => some k_ = (.slice Ao58 x3_3.length co58 : Value).ownBlock) (.slice Ao58 x3_3.length co58) x3_3 t342 w0 _ ?side1 ?side2 ?side3 A54.out).mono ?_); (case side1 => repeat (first | (with_reducible first | exact HB.out | apply below_alloc | apply pw_below_drewN | apply below_drew1 | refine below_set ?_ GE311.out) | exact HB.out)); (case side2 => exact Kd.V_mono (Kd.R_V (Kd.R_tight rfl (Kd.R_types (Kd.R_apart' (HO_16.out) (Kd.R_typed HO_3.out) (by decide)) BK311.out (by decide)))) (fun k_ hk_ => ⟨hk_, ((Kd.R_types (Kd.R_apart' (HO_16.out) (Kd.R_typed HO_3.out) (by decide)) BK311.out (by decide)).1 k_ hk_.symm).1.2⟩)); (case side3 => exact Kd.R_tight rfl HO_3.out); rintro e w59 ⟨v343, rfl, ho0, hb, hkp⟩; have n0_ := aM (Kd.V_mono (ok' := fun k_ => ((P3_ k_ ∨ P0_ k_) ∨ w.heap.size ≤ k_) ∧ some k_ ≠ (.slice Ao57 x16_6.length co57 : Value).ownBlock ∧ k_ ≠ gb311 ∧ some k_ ≠ (v343 : Value).ownBlock) (Kd.V_keptB (HO_0.out) hkp (fun k_ hk_ hs_ => (hk_.2.1) hs_)) (fun k_ hk_ => ⟨hk_.1.1, hk_.1.2.2.1, hk_.1.2.2.2, fun e_ => Or.elim (ho0.1 k_ e_.symm) (fun hs_ => hk_.2.1 hs_) (fun hn_ => Nat.not_le.2 hk_.2.2 hn_)⟩)); have n1_ := aM (Kd.R_mono (ok' := fun k_ => (P3_ k_ ∨ w.heap.size ≤ k_)) (Kd.R_keptB ((Kd.R_apart' HO_16.out (Kd.R_typed HO_3.out) (by decide))) hkp (fun k_ hk_ hs_ => (hk_.2) hs_)) (fun k_ hk_ => hk_.1.1)); have n2_ := aM (Kd.V_mono (ok' := fun k_ => ((P3_ k_ ∨ P0_ k_) ∨ w.heap.size ≤ k_) ∧ some k_ ≠ (.slice Ao57 x16_6.length co57 : Value).ownBlock ∧ k_ ≠ gb311 ∧ some k_ ≠ (v343 : Value).ownBlock) (Kd.V_keptB (HO_85.out) hkp (fun k_ hk_ hs_ => (hk_.2.1) hs_)) (fun k_ hk_ => ⟨hk_.1.1, hk_.1.2.2.1, hk_.1.2.2.2, fun e_ => Or.elim (ho0.1 k_ e_.symm) (fun hs_ => hk_.2.1 hs_) (fun hn_ => Nat.not_le.2 hk_.2.2 hn_)⟩)); have n3_ := aM (blk_kept (by (with_reducible repeat (first | refine blk_drewN ?_ _ | refine blk_drew ?_ | refine blk_alloc ?_ _)); exact BK311.out) hkp (fun hs_ => (fun e_ => (Kd.R_away HO_3.out (fun _ hk => hk.2)) e_) hs_)); have n4_ := aM (Kd.R_mono (ok' := fun k_ => (P3_ k_ ∨ w.heap.size ≤ k_) ∧ k_ ≠ gb311) ho0 (fun k_ hk_ => ⟨Or.elim hk_ (fun hs_ => (HO_3.out.1 k_ (hs_).symm).1) (fun hn_ => (.inr (Nat.le_trans (by first | exact HK.out.1 | exact (show Kept w _ (fun k_ => P3_ k_) from by repeat (first | (with_reducible first | exact HK.out | apply Kept.alloc | apply Kept.drewN | apply Kept.drew | refine Kept.setCell ?_ (.inr GW311.out) _) | exact HK.out)).1) hn_))), Or.elim hk_ (fun hs_ => fun e_ => (Kd.R_away HO_3.out (fun _ hk => hk.2)) (by rw [← e_]; exact hs_)) (fun hn_ => (Kd.freshB (g := gb311) (o := .cells #[.string a1, .bool x312001_10, .int .i64 a2] 64 (0, 0)) (by (with_reducible repeat (first | refine blk_drewN ?_ _ | refine blk_drew ?_ | refine blk_alloc ?_ _)); exact BK311.out) k_ hn_))⟩)); have n5_ := aM (Kept.then_ (S := (fun k_ => P3_ k_)) (by repeat (first | (with_reducible first | exact HK.out | apply Kept.alloc | apply Kept.drewN | apply Kept.drew | refine Kept.setCell ?_ (.inr GW311.out) _) | exact HK.out)) hkp (fun k_ hs_ => (fun e_ => (HO_3.out.1 k_ e_.symm).1) hs_)); have n6_ := aM (hb); clear HO_0; clear HO_16; clear HO_85; clear BK311; clear HK; clear HB; clear HO_3; have HO_0 := n0_; have HO_16 := n1_; have HO_85 := n2_; have BK311 := n3_; have HO344 := n4_; have HK := n5_; have HB := n6_; clear n0_ n1_ n2_ n3_ n4_ n5_ n6_; (try clear hb); (try clear hkp); (try clear ho0); have q60 : (x11_20 : Int) ≤ ((x0_3.length : Int) : Int) := of_decide_eq_true (by first | (with_reducible assumption) | assumption); obtain ⟨i060, hi060, _, hsz60, _⟩ := info_parts info9; have hroom60 : x0_3.length ≤ co22 := (Kd.V_reads' HO_0.out).2.1; have hC60 : Kd.F Kd.string _ _ (some ad323) x0_3.length x0_3 := (Kd.V_at (base := w0.heap.size) HO_0.out).2.2; have q060 : (0 : Int) ≤ (x11_20 : Int) := of_decide_eq_true (by first | (with_reducible assumption) | assumption); have hcut60 := cut_from (P := Try.prog) 22 9 .i64 Try.underlying22 hi060 1 hsz60 (some ad323) x0_3.length co22 x11_20 q060 q60; have hr60 := Kd.F_cut (m := (x11_20 : Int).toNat) (c := co22) hC60 (by omega) hroom60; obtain ⟨A60, hA60⟩ : ∃ A1, A1 = (if co22 = (x11_20 : Int).toNat then (some ad323) else ((some ad323) : Option Addr).map (·.add ((x11_20 : Int).toNat * 1))) := ⟨_, rfl⟩; obtain ⟨c60, hc60⟩ : ∃ c1, c1 = co22 - (x11_20 : Int).toNat := ⟨_, rfl⟩; have hy60 : y345.length = x0_3.length - (x11_20 : Int).toNat := (by rw [Ny345.out, List.length_drop] <;> omega); rw [show (x0_3).drop (x11_20 : Int).toNat = y345 from Ny345.out.symm] at hr60; replace hr60 : Kd.F Kd.string _ _ A60 y345.length y345 := (by rw [hA60]; exact hr60); rw [← hy60, ← hA60, ← hc60] at hcut60; have HO349 := aM (show Kd.V Kd.string 9 _ w0.heap.size _ (.slice A60 y345.length c60) y345 from Kd.V_mk (by rw [hy60, hc60]; exact Nat.sub_le_sub_right hroom60 _) hr60); have HC349 := aM (show y345.length ≤ c60 from by rw [hy60, hc60]; exact Nat.sub_le_sub_right hroom60 _); clear hr60 hC60 hroom60 hi060 hsz60 hc60; have KY60 := aM hy60; have KA60 := aM hA60; clear hy60 hA60; replace q60 := eq_true q60)); try go_wp2_with (first | (go_at_call 67; (try simp only [i64_w]); (with_reducible refine (ih k6 (by have := HJ4.out; have := HJ10.out; have := HK3.out; have := HJ20.out; have := HK5.out; have := HK6.out; omega) (fun k_ => some k_ = (.slice Ao57 x16_6.length co57 : Value).ownBlock) _ _ x16_6 ((rdOf ByteArray.empty x0_3 0).extract 0 (x12_5 : Int).toNat) (l3.length : Int) (fun k_ => some k_ = (.slice Ao58 x3_3.length co58 : Value).ownBlock) (.slice Ao58 x3_3.length co58) x3_3 t342 w0 _ ?side1 ?side2 ?side3 A54.out).mono ?_); (case side1 => repeat (first | (with_reducible first | exact HB.out | apply below_alloc | apply pw_below_drewN | apply below_drew1 | refine below_set ?_ GE311.out) | exact HB.out)); (case side2 => exact Kd.V_mono (Kd.R_V (Kd.R_tight rfl (Kd.R_types (Kd.R_apart' (HO_16.out) (Kd.R_typed HO_3.out) (by decide)) BK311.out (by decide)))) (fun k_ hk_ => ⟨hk_, ((Kd.R_types (Kd.R_apart' (HO_16.out) (Kd.R_typed HO_3.out) (by decide)) BK311.out (by decide)).1 k_ hk_.symm).1.2⟩)); (case side3 => exact Kd.R_tight rfl HO_3.out); rintro e w59 ⟨v343, rfl, ho0, hb, hkp⟩; have n0_ := aM (Kd.V_mono (ok' := fun k_ => ((P3_ k_ ∨ P0_ k_) ∨ w.heap.size ≤ k_) ∧ some k_ ≠ (.slice Ao57 x16_6.length co57 : Value).ownBlock ∧ k_ ≠ gb311 ∧ some k_ ≠ (v343 : Value).ownBlock) (Kd.V_keptB (HO_0.out) hkp (fun k_ hk_ hs_ => (hk_.2.1) hs_)) (fun k_ hk_ => ⟨hk_.1.1, hk_.1.2.2.1, hk_.1.2.2.2, fun e_ => Or.elim (ho0.1 k_ e_.symm) (fun hs_ => hk_.2.1 hs_) (fun hn_ => Nat.not_le.2 hk_.2.2 hn_)⟩)); have n1_ := aM (Kd.R_mono (ok' := fun k_ => (P3_ k_ ∨ w.heap.size ≤ k_)) (Kd.R_keptB ((Kd.R_apart' HO_16.out (Kd.R_typed HO_3.out) (by decide))) hkp (fun k_ hk_ hs_ => (hk_.2) hs_)) (fun k_ hk_ => hk_.1.1)); have n2_ := aM (Kd.V_mono (ok' := fun k_ => ((P3_ k_ ∨ P0_ k_) ∨ w.heap.size ≤ k_) ∧ some k_ ≠ (.slice Ao57 x16_6.length co57 : Value).ownBlock ∧ k_ ≠ gb311 ∧ some k_ ≠ (v343 : Value).ownBlock) (Kd.V_keptB (HO_85.out) hkp (fun k_ hk_ hs_ => (hk_.2.1) hs_)) (fun k_ hk_ => ⟨hk_.1.1, hk_.1.2.2.1, hk_.1.2.2.2, fun e_ => Or.elim (ho0.1 k_ e_.symm) (fun hs_ => hk_.2.1 hs_) (fun hn_ => Nat.not_le.2 hk_.2.2 hn_)⟩)); have n3_ := aM (blk_kept (by (with_reducible repeat (first | refine blk_drewN ?_ _ | refine blk_drew ?_ | refine blk_alloc ?_ _)); exact BK311.out) hkp (fun hs_ => (fun e_ => (Kd.R_away HO_3.out (fun _ hk => hk.2)) e_) hs_)); have n4_ := aM (Kd.R_mono (ok' := fun k_ => (P3_ k_ ∨ w.heap.size ≤ k_) ∧ k_ ≠ gb311) ho0 (fun k_ hk_ => ⟨Or.elim hk_ (fun hs_ => (HO_3.out.1 k_ (hs_).symm).1) (fun hn_ => (.inr (Nat.le_trans (by first | exact HK.out.1 | exact (show Kept w _ (fun k_ => P3_ k_) from by repeat (first | (with_reducible first | exact HK.out | apply Kept.alloc | apply Kept.drewN | apply Kept.drew | refine Kept.setCell ?_ (.inr GW311.out) _) | exact HK.out)).1) hn_))), Or.elim hk_ (fun hs_ => fun e_ => (Kd.R_away HO_3.out (fun _ hk => hk.2)) (by rw [← e_]; exact hs_)) (fun hn_ => (Kd.freshB (g := gb311) (o := .cells #[.string a1, .bool x312001_10, .int .i64 a2] 64 (0, 0)) (by (with_reducible repeat (first | refine blk_drewN ?_ _ | refine blk_drew ?_ | refine blk_alloc ?_ _)); exact BK311.out) k_ hn_))⟩)); have n5_ := aM (Kept.then_ (S := (fun k_ => P3_ k_)) (by repeat (first | (with_reducible first | exact HK.out | apply Kept.alloc | apply Kept.drewN | apply Kept.drew | refine Kept.setCell ?_ (.inr GW311.out) _) | exact HK.out)) hkp (fun k_ hs_ => (fun e_ => (HO_3.out.1 k_ e_.symm).1) hs_)); have n6_ := aM (hb); clear HO_0; clear HO_16; clear HO_85; clear BK311; clear HK; clear HB; clear HO_3; have HO_0 := n0_; have HO_16 := n1_; have HO_85 := n2_; have BK311 := n3_; have HO344 := n4_; have HK := n5_; have HB := n6_; clear n0_ n1_ n2_ n3_ n4_ n5_ n6_; (try clear hb); (try clear hkp); (try clear ho0); have q60 : (x11_20 : Int) ≤ ((x0_3.length : Int) : Int) := of_decide_eq_true (by first | (with_reducible assumption) | assumption); obtain ⟨i060, hi060, _, hsz60, _⟩ := info_parts info9; have hroom60 : x0_3.length ≤ co22 := (Kd.V_reads' HO_0.out).2.1; have hC60 : Kd.F Kd.string _ _ (some ad323) x0_3.length x0_3 := (Kd.V_at (base := w0.heap.size) HO_0.out).2.2; have q060 : (0 : Int) ≤ (x11_20 : Int) := of_decide_eq_true (by first | (with_reducible assumption) | assumption); have hcut60 := cut_from (P := Try.prog) 22 9 .i64 Try.underlying22 hi060 1 hsz60 (some ad323) x0_3.length co22 x11_20 q060 q60; have hr60 := Kd.F_cut (m := (x11_20 : Int).toNat) (c := co22) hC60 (by omega) hroom60; obtain ⟨A60, hA60⟩ : ∃ A1, A1 = (if co22 = (x11_20 : Int).toNat then (some ad323) else ((some ad323) : Option Addr).map (·.add ((x11_20 : Int).toNat * 1))) := ⟨_, rfl⟩; obtain ⟨c60, hc60⟩ : ∃ c1, c1 = co22 - (x11_20 : Int).toNat := ⟨_, rfl⟩; have hy60 : y345.length = x0_3.length - (x11_20 : Int).toNat := (by rw [Ny345.out, List.length_drop] <;> omega); rw [show (x0_3).drop (x11_20 : Int).toNat = y345 from Ny345.out.symm] at hr60; replace hr60 : Kd.F Kd.string _ _ A60 y345.length y345 := (by rw [hA60]; exact hr60); rw [← hy60, ← hA60, ← hc60] at hcut60; have HO349 := aM (show Kd.V Kd.string 9 _ w0.heap.size _ (.slice A60 y345.length c60) y345 from Kd.V_mk (by rw [hy60, hc60]; exact Nat.sub_le_sub_right hroom60 _) hr60); have HC349 := aM (show y345.length ≤ c60 from by rw [hy60, hc60]; exact Nat.sub_le_sub_right hroom60 _); clear hr60 hC60 hroom60 hi060 hsz60 hc60; have KY60 := aM hy60; have KA60 := aM hA60; clear hy60 hA60; replace q60 := eq_true q60)))
                           go_roundg k6
                           case measure => have := HJ4.out; have := HJ10.out; have := HK3.out; have := HJ20.out; have := HK5.out; have := HK6.out; omega
                           case rel => exact ⟨(y345), (t342), H', ⟨by have := HJ4.out; have := HJ10.out; have := HK3.out; have := HJ20.out; have := HK5.out; have := HK6.out; omega⟩, ⟨by (with_reducible repeat (first | apply Kd.V_alloc | apply Kd.V_drewN | apply Kd.V_drew)); exact Kd.V_mono HO349.out (fun _ hk => ⟨hk.1, ⟨hk.2.2.2, hk.2.2.1⟩⟩)⟩, ⟨by (with_reducible repeat (first | apply Kd.R_alloc | apply Kd.R_drewN | apply Kd.R_drew)); exact HO344.out⟩, ⟨by (with_reducible repeat (first | refine blk_drewN ?_ _ | refine blk_drew ?_ | refine blk_alloc ?_ _)); exact BK311.out⟩, ⟨by repeat (first | (with_reducible first | exact HK.out | apply Kept.alloc | apply Kept.drewN | apply Kept.drew | refine Kept.setCell ?_ (.inr GW311.out) _) | exact HK.out)⟩, ⟨by repeat (first | (with_reducible first | exact HB.out | apply below_alloc | apply pw_below_drewN | apply below_drew1 | refine below_set ?_ GE311.out) | exact HB.out)⟩⟩
                          ·
                           rw [if_neg c56] at H
                           exact absurd H (by simp)
                         ·
                          rw [if_neg c55] at H
                          exact absurd H (by simp)
                        ·
                         rw [if_neg c53] at H
                         exact absurd H (by simp)
                       ·
                        rw [if_neg c52] at H
                        exact absurd H (by simp)
                      ·
                       rw [if_neg c51] at H
                       exact absurd H (by simp)
                  ·
                   rw [if_neg c42] at H
                   exact absurd H (by simp)
                 ·
                  rw [if_neg c41] at H
                  exact absurd H (by simp)
             ·
              rw [if_neg c33] at H
              exact absurd H (by simp)
            ·
             rw [if_neg c32] at H
             exact absurd H (by simp)
           ·
            rw [if_neg c31] at H
            exact absurd H (by simp)
        ·
         rw [if_neg c20] at H
         have c20b0 : decide (0 < (x0_3.length : Int)) = false := decide_eq_false c20
         have c20b1 : decide (0 < x0_3.length) = false := decide_eq_false (by omega)
         clear c20
         obtain rfl := Option.some.inj H
         obtain ⟨Ao61, co61, eo61⟩ := Kd.V_slice HO_0.out
         subst eo61
         go_wp2
         repeat (go_quiet (fail); try go_wp2)
         go_ret
         exact ⟨_, by first | rfl | (simp [errW_none, errW_some] <;> rfl) | (simp [*, errW_none, errW_some] <;> rfl), by (with_reducible repeat (first | apply Kd.R_alloc | apply Kd.R_drewN | apply Kd.R_drew)); exact Kd.R_mono HO_3.out (fun _ hk => hk.1), by repeat (first | (with_reducible first | exact HB.out | apply below_alloc | apply pw_below_drewN | apply below_drew1 | refine below_set ?_ GE311.out) | exact HB.out), by repeat (first | (with_reducible first | exact HK.out | apply Kept.alloc | apply Kept.drewN | apply Kept.drew | refine Kept.setCell ?_ (.inr GW311.out) _) | exact HK.out)⟩
     ·
      rw [if_neg c17] at H
      exact absurd H (by simp)

def spec_l13Radix.f (k : Nat) (l0 : List ByteArray) : Option ((List (S64))) := (spec_l13Build.f k l0 (⟨#[]⟩ : ByteArray) (-1) ([] : List (S64))).bind fun t351 => (some t351)
set_option maxHeartbeats 8000000 in
set_option maxRecDepth 100000 in
theorem spec_l13Radix.calls (k : Nat) (A0 : Option Addr) (c0 : Nat) (l0 : List ByteArray) (r : List (S64)) (w : World) (hr0 : Kd.C Kd.string w A0 l0.length l0) (hc0 : l0.length ≤ c0) (h : spec_l13Radix.f k l0 = some r) :
  Calls Try.prog 39 #[.slice A0 l0.length c0] w fun e w' => ∃ v0_ : Value, e = .returned (.agg #[v0_]) ∧ Kd.R k64 64 w' w.heap.size (fun _ => True) v0_ r ∧ Below w.heap.size w w' := by
 have hu26 := Try.underlying26
 have HR0 := aM hr0
 have HC0 := aM hc0
 clear hr0 hc0
 have HB := aM (Below.refl w.heap.size w)
 have H : ((spec_l13Build.f k l0 (⟨#[]⟩ : ByteArray) (-1) ([] : List (S64))).bind fun t351 => (some t351)) = some r := h
 clear h
 replace H := Option.bind_eq_some_iff.mp H
 obtain ⟨t351, A20, H⟩ := H
 replace H : (some t351) = some r := H
 have A2 := aM A20
 clear A20
 obtain rfl := Option.some.inj H
 go_enter Try.func39, Try.ntmps39
 go_wp2_with (first | ((with_reducible refine gate_dst (N := 2) rfl ?_); refine box_event ?hg (N := 2) ?hd (cs := #[.slice none 0 0]) (t := 26) ?hr ?_; (case hd => rfl); (case hg => rfl); (case hr => first | (go_simp; done) | (go_simp; rfl)); intro gb350 hg w3 hbox hb; have n0_ := aM (below_step (by repeat (first | (with_reducible first | exact HB.out | apply below_alloc | apply pw_below_drewN | apply below_drew1) | exact HB.out)) hb); have n1_ := aM (hbox); have n2_ := aM ((by rw [hg]; exact (below_size (by repeat (first | (with_reducible first | exact HB.out | apply below_alloc | apply pw_below_drewN | apply below_drew1) | exact HB.out))) : w.heap.size ≤ gb350)); have n3_ := aM ((by rw [hg]; exact (below_size (by repeat (first | (with_reducible first | exact HB.out | apply below_alloc | apply pw_below_drewN | apply below_drew1) | exact HB.out))) : w.heap.size ≤ gb350)); clear HB; have HB := n0_; have BK350 := n1_; have GW350 := n2_; have GE350 := n3_; clear n0_ n1_ n2_ n3_; clear hb hbox hg) | ((with_reducible refine gate_callee (f := 67) rfl ?_); refine goesL_ (some 4) rfl rfl Try.func67 (by kernel_rfl) rfl #[.slice A0 l0.length c0, .string (⟨#[]⟩ : ByteArray), .int .i64 (-1), .slice none 0 0] rfl (by (try simp only [List.map_toArray, List.map_cons, List.map_nil]); first | done | rfl | (simp only [List.length_drop, List.length_take]; rfl)) ?_; (refine (spec_l13Build.calls k (fun k_ => k_ < w.heap.size) _ _ l0 (⟨#[]⟩ : ByteArray) (-1) (fun k_ => some k_ = (.slice none 0 0 : Value).ownBlock) (.slice none 0 0) ([] : List (S64)) t351 w _ ?side1 ?side2 ?side3 A2.out).mono ?_); (case side1 => repeat (first | (with_reducible first | exact HB.out | apply below_alloc | apply pw_below_drewN | apply below_drew1 | refine below_set ?_ GE350.out) | exact HB.out)); (case side2 => exact Kd.V_mono (Kd.V_mk HC0.out (Kd.F_below (Kd.C_F Kd.heap_string HR0.out) (by repeat (first | (with_reducible first | exact HB.out | apply below_alloc | apply pw_below_drewN | apply below_drew1 | refine below_set ?_ GE350.out) | exact HB.out)))) (fun k_ hk_ => ⟨hk_, (by simp [Value.ownBlock])⟩)); (case side3 => exact Kd.R_nil _ _ _ _ _); rintro e w4 ⟨v352, rfl, ho0, hb, hkp⟩; refine ⟨_, rfl, ?_⟩; have n0_ := aM (blk_kept (by (with_reducible repeat (first | refine blk_drewN ?_ _ | refine blk_drew ?_ | refine blk_alloc ?_ _)); exact BK350.out) hkp (fun hs_ => (fun e_ => by simp [Value.ownBlock] at e_) hs_)); have n1_ := aM (Kd.R_mono (ok' := fun k_ => True) ho0 (fun k_ hk_ => trivial)); have n2_ := aM (hb); clear BK350; clear HB; have BK350 := n0_; have HO353 := n1_; have HB := n2_; clear n0_ n1_ n2_; (try clear hb); (try clear hkp); (try clear ho0); obtain ⟨Ao5, co5, eo5⟩ := Kd.R_slice HO353.out; subst eo5; have hcz6_0 : w4.cell? ⟨gb350, 0, none⟩ = some (.slice none 0 0) := (blk_cell BK350.out 0).trans rfl; have hfz6_0 := blk_frozen BK350.out 0))
 refine bodyPost_ret (results_cell_row rfl _ _ gb350 26 #[.slice Ao5 t351.length co5] (0, 0) _ rfl (by (with_reducible repeat (first | refine blk_drewN ?_ _ | refine blk_drew ?_ | refine blk_alloc ?_ _)); refine blk_put (cs := #[.slice none 0 0]) ?_ 0 _ rfl; (with_reducible repeat (first | refine blk_drewN ?_ _ | refine blk_drew ?_ | refine blk_alloc ?_ _)); exact BK350.out) Try.underlying26 rfl (by kernel_rfl)) rfl ?_
 exact ⟨_, by first | rfl | (simp [errW_none, errW_some] <;> rfl) | (simp [*, errW_none, errW_some] <;> rfl), by (with_reducible repeat (first | apply Kd.R_alloc | apply Kd.R_drewN | apply Kd.R_drew)); exact Kd.R_mono (Kd.R_far (p := ⟨gb350, 0, none⟩) (Kd.R_types HO353.out BK350.out (by decide)) (fun _ hk => hk.2) (.slice Ao5 t351.length co5)) (fun _ hk => trivial), by repeat (first | (with_reducible first | exact HB.out | apply below_alloc | apply pw_below_drewN | apply below_drew1 | refine below_set ?_ GE350.out) | exact HB.out)⟩

def spec_l1In.f (a0 : Int) (a1 : Int) (a2 : Int) : Option (Bool) := if a0 ≥ a1 then (some (decide (a0 ≤ a2))) else (some false)
set_option maxHeartbeats 8000000 in
set_option maxRecDepth 100000 in
theorem spec_l1In.calls (a0 : Int) (a1 : Int) (a2 : Int) (r : Bool) (w : World) (h : spec_l1In.f a0 a1 a2 = some r) :
  Calls Try.prog 75 #[.int .i64 a0, .int .i64 a1, .int .i64 a2] w fun e w' => e = .returned (.bool r) ∧ Drawn0 w w' := by
 have H : (if a0 ≥ a1 then (some (decide (a0 ≤ a2))) else (some false)) = some r := h
 clear h
 by_cases c4 : a0 ≥ a1
 ·
  rw [if_pos c4] at H
  have c4b0 : decide (a1 ≤ a0) = true := decide_eq_true c4
  clear c4
  obtain rfl := Option.some.inj H
  go_enter Try.func75, Try.ntmps75
  go_wp2
  go_ret
  exact ⟨by first | rfl | (simp; done) | (simp [*]; done), by repeat (first | exact Drawn0.refl _ | apply Drawn0.step)⟩
 ·
  rw [if_neg c4] at H
  have c4b0 : decide (a1 ≤ a0) = false := decide_eq_false c4
  clear c4
  obtain rfl := Option.some.inj H
  go_enter Try.func75, Try.ntmps75
  go_wp2
  go_ret
  exact ⟨by first | rfl | (simp; done) | (simp [*]; done), by repeat (first | exact Drawn0.refl _ | apply Drawn0.step)⟩

def spec_l13Names.l0 : Nat → List ByteArray → List ByteArray → List (S64) → Int → Int → Option (List ByteArray)
 | 0, _, _, _, _, _ => none
 | k + 1, x3, x4, x12, x13, x14 => if x14 < x13 then (if 0 ≤ x14 then (if x14 < (x12.length : Int) then (if x14 > 0 then (if 0 ≤ ((rd_T64 x12 x14).f2) then (if ((rd_T64 x12 x14).f2) < (x4.length : Int) then (if (rdOf ByteArray.empty x4 ((rd_T64 x12 x14).f2)).size + ((rd_T64 x12 x14).f0).size ≤ 9223372036854775807 then (if x14 < (x4.length : Int) then ((some (x4.set (x14 : Int).toNat ((rdOf ByteArray.empty x4 ((rd_T64 x12 x14).f2)) ++ ((rd_T64 x12 x14).f0)) : List ByteArray)).bind fun y362 => (if (rd_T64 x12 x14).f1 = true then (if x3.length < 8796093022208 then (spec_l13Names.l0 k (x3 ++ [(rdOf ByteArray.empty x4 ((rd_T64 x12 x14).f2)) ++ ((rd_T64 x12 x14).f0)]) y362 x12 x13 (wrap64 (x14 + 1))) else (none)) else (spec_l13Names.l0 k x3 y362 x12 x13 (wrap64 (x14 + 1))))) else (none)) else (none)) else (none)) else (none)) else (if (rd_T64 x12 x14).f1 = true then (if x14 < (x4.length : Int) then (if x3.length < 8796093022208 then (spec_l13Names.l0 k (x3 ++ [rdOf ByteArray.empty x4 x14]) x4 x12 x13 (wrap64 (x14 + 1))) else (none)) else (none)) else (spec_l13Names.l0 k x3 x4 x12 x13 (wrap64 (x14 + 1))))) else (none)) else (none)) else (some x3)
def spec_l13Names.f (k : Nat) (l0_0 : List (S64)) : Option (List ByteArray) := if 0 ≤ (l0_0.length : Int) then (if ((l0_0.length : Int) : Int).toNat ≤ 17592186044416 then (spec_l13Names.l0 k ([] : List ByteArray) (List.replicate ((l0_0.length : Int) : Int).toNat (⟨#[]⟩ : ByteArray)) l0_0 (l0_0.length : Int) 0) else (none)) else (none)
def spec_l13Names.T7 : Bool × List (List Nat × List Nat) := (true, [([], []), ([], []), ([], []), ([], []), ([3], [3]), ([2, 4], [2, 4]), ([5], [5]), ([], []), ([7], [7]), ([6, 8], [6, 8]), ([0, 1, 0, 1, 2, 3, 4, 5, 6, 7, 8, 9], [0, 1]), ([10, 9, 0, 1, 2, 3, 4, 5, 6, 7, 8, 9], [9, 10])])
def spec_l13Names.B7 : List Nat := [0, 0, 0, 0, 8, 28, 60, 0, 128, 508, 1023, 2047]
theorem spec_l13Names.tab7 : rtab .any (opsOf Try.f76 7) = spec_l13Names.T7 := by kernel_rfl
theorem spec_l13Names.bits7 : waitsOk spec_l13Names.T7.2 spec_l13Names.B7 = true := by kernel_rfl
set_option maxHeartbeats 8000000 in
set_option maxRecDepth 100000 in
theorem spec_l13Names.calls (k : Nat) (A0_0 : Option Addr) (c0_0 : Nat) (l0_0 : List (S64)) (r : List ByteArray) (w : World) (hr0_0 : Kd.C k64 w A0_0 l0_0.length l0_0) (hc0_0 : l0_0.length ≤ c0_0) (h : spec_l13Names.f k l0_0 = some r) :
  Calls Try.prog 76 #[.agg #[.slice A0_0 l0_0.length c0_0]] w fun e w' => ∃ v0_ : Value, e = .returned (v0_) ∧ Kd.R Kd.string 9 w' w.heap.size (fun _ => True) v0_ r ∧ Below w.heap.size w w' := by
 have hu26 := Try.underlying26
 have hu64 := Try.underlying64
 have HR0_0 := aM hr0_0
 have HC0_0 := aM hc0_0
 clear hr0_0 hc0_0
 have HB := aM (Below.refl w.heap.size w)
 have H : (if 0 ≤ (l0_0.length : Int) then (if ((l0_0.length : Int) : Int).toNat ≤ 17592186044416 then (spec_l13Names.l0 k ([] : List ByteArray) (List.replicate ((l0_0.length : Int) : Int).toNat (⟨#[]⟩ : ByteArray)) l0_0 (l0_0.length : Int) 0) else (none)) else (none)) = some r := h
 clear h
 by_cases c2 : 0 ≤ (l0_0.length : Int)
 ·
  rw [if_pos c2] at H
  have c2b0 := eq_true c2
  have c2b1 : decide (0 ≤ (l0_0.length : Int)) = true := decide_eq_true c2
  clear c2
  by_cases c3 : ((l0_0.length : Int) : Int).toNat ≤ 17592186044416
  ·
   rw [if_pos c3] at H
   have c3b0 := eq_true c3
   have c3b1 : decide (((l0_0.length : Int) : Int).toNat ≤ 17592186044416) = true := decide_eq_true c3
   clear c3
   obtain ⟨y356, hy356⟩ : ∃ y_ : List ByteArray, y_ = (List.replicate ((l0_0.length : Int) : Int).toNat (⟨#[]⟩ : ByteArray)) := ⟨_, rfl⟩
   replace H : (spec_l13Names.l0 k ([] : List ByteArray) y356 l0_0 (l0_0.length : Int) 0) = some r := by first | (rw [hy356]; with_reducible exact H) | (have H2_ := (Option.bind_some _ _).symm.trans H; rw [hy356]; with_reducible exact H2_) | (have H2_ := (Option.bind_some _ _).symm.trans H; with_reducible exact H2_) | with_reducible exact H | (rw [hy356]; exact H) | exact H
   have Ny356 := aM hy356
   clear hy356
   have H' := aM H
   clear H
   go_enter Try.func76, Try.ntmps76
   go_wp2_with (first | ((with_reducible refine gate_dst (N := 1) rfl ?_); refine box_event ?hg (N := 1) ?hd (cs := #[.slice A0_0 l0_0.length c0_0]) (t := 26) ?hr ?_; (case hd => rfl); (case hg => rfl); (case hr => first | (go_simp; done) | (go_simp; rfl)); intro gb355 hg w4 hbox hb; have n0_ := aM (below_step (by repeat (first | (with_reducible first | exact HB.out | apply below_alloc | apply pw_below_drewN | apply below_drew1) | exact HB.out)) hb); have n1_ := aM (hbox); have n2_ := aM ((by rw [hg]; exact (below_size (by repeat (first | (with_reducible first | exact HB.out | apply below_alloc | apply pw_below_drewN | apply below_drew1) | exact HB.out))) : w.heap.size ≤ gb355)); have n3_ := aM ((by rw [hg]; exact (below_size (by repeat (first | (with_reducible first | exact HB.out | apply below_alloc | apply pw_below_drewN | apply below_drew1) | exact HB.out))) : w.heap.size ≤ gb355)); clear HB; have HB := n0_; have BK355 := n1_; have GW355 := n2_; have GE355 := n3_; clear n0_ n1_ n2_ n3_; clear hb hbox hg; have hcz5_0 : w4.cell? ⟨gb355, 0, none⟩ = some (.slice A0_0 l0_0.length c0_0) := (blk_cell BK355.out 0).trans rfl; have hfz5_0 := blk_frozen BK355.out 0) | ((with_reducible refine gate_dst (N := 10) rfl ?_); refine Kd.R_make Kd.string _ 9 rfl (N := 10) rfl 22 _ _ rfl (l0_0.length : Int) rfl rfl Try.underlying22 (.string ⟨#[]⟩) 16 info9 rfl (by decide) (by omega) (⟨#[]⟩ : ByteArray) (ok := fun _ => True) (okp := fun _ => True) rfl (fun _ hk => hk) trivial (of_decide_eq_true (by first | (with_reducible assumption) | assumption)) (Nat.le_trans (Nat.mul_le_mul_right _ (of_decide_eq_true (by first | (with_reducible assumption) | assumption) : (l0_0.length : Int).toNat ≤ 17592186044416)) (by omega)) (Below.refl _ _) (Nat.le_refl _) ?_; intro v357 w6 ho7 hb hg_ hnew_; clear hg_ hnew_; (first | rw [← Ny356.out] at ho7 | (simp only [Int.reduceToNat] at ho7; rw [← Ny356.out] at ho7)); have n0_ := aM (Kd.R_lower ho7 (below_size (by repeat (first | (with_reducible first | exact HB.out | apply below_alloc | apply pw_below_drewN | apply below_drew1 | refine below_set ?_ GE355.out) | exact HB.out)))); have n1_ := aM (blk_below (g := gb355) (o := .cells #[.slice A0_0 l0_0.length c0_0] 26 (0, 0)) (by (with_reducible repeat (first | refine blk_drewN ?_ _ | refine blk_drew ?_ | refine blk_alloc ?_ _)); exact BK355.out) hb); have n2_ := aM (below_step (by repeat (first | (with_reducible first | exact HB.out | apply below_alloc | apply pw_below_drewN | apply below_drew1 | refine below_set ?_ GE355.out) | exact HB.out)) hb); clear BK355; clear HB; have HO358 := n0_; have BK355 := n1_; have HB := n2_; clear n0_ n1_ n2_; clear hb ho7; have hcz8_0 : w6.cell? ⟨gb355, 0, none⟩ = some (.slice A0_0 l0_0.length c0_0) := (blk_cell BK355.out 0).trans rfl; have hfz8_0 := blk_frozen BK355.out 0))
   go_loopg [3, 14] k (fun kq v3 v14 w' => ∃ (x3_1 : List ByteArray) (x4_1 : List ByteArray) (x14_1 : Int), v14 = .int .i64 x14_1 ∧ Aside0 (spec_l13Names.l0 kq x3_1 x4_1 l0_0 (l0_0.length : Int) x14_1 = some r) ∧ Aside0 (kq ≤ k) ∧ Aside0 (Kd.R Kd.string 9 w' w.heap.size (fun k_ => some k_ ≠ (v357 : Value).ownBlock) v3 x3_1) ∧ Aside0 (Kd.R Kd.string 9 w' w.heap.size (fun k_ => some k_ ≠ (v3 : Value).ownBlock) v357 x4_1) ∧ Aside0 (w'.heap[gb355]? = some (.cells #[(.slice A0_0 l0_0.length c0_0)] 26 (0, 0))) ∧ Aside0 (Below w.heap.size w w'))
   case atStart => exact ⟨(([] : List ByteArray)), (y356), (0), (by first | rfl | (simp; done) | (simp [*]; done)), H', ⟨Nat.le_refl _⟩, ⟨by first | exact Kd.R_nil _ _ _ _ _ | exact Kd.N_nil _ _ _ _ _ | exact Kd.V_nil _ _ _ _ _ | exact Kd.Q_nil _ _ _ _ _ | exact Kd.S_nil _ _ _ _ _⟩, ⟨by (with_reducible repeat (first | apply Kd.R_alloc | apply Kd.R_drewN | apply Kd.R_drew)); exact Kd.R_mono HO358.out (fun _ hk => (by simp [Value.ownBlock]))⟩, ⟨by (with_reducible repeat (first | refine blk_drewN ?_ _ | refine blk_drew ?_ | refine blk_alloc ?_ _)); exact BK355.out⟩, ⟨by repeat (first | (with_reducible first | exact HB.out | apply below_alloc | apply pw_below_drewN | apply below_drew1 | refine below_set ?_ GE355.out) | exact HB.out)⟩⟩
   case round =>
    clear H'
    try clear c2
    try clear c2b0
    try clear c2b1
    try clear p2
    try clear c3
    try clear c3b0
    try clear c3b1
    try clear c7
    try clear hcz5_0
    try clear hcz8_0
    try clear hfz5_0
    try clear hfz8_0
    obtain ⟨x3_1, x4_1, x14_1, rfl, HA, HK1, HO_3, HO_4, BK355, HB⟩ := hrel
    cases gk with
    | zero => exact absurd HA.out (by simp [spec_l13Names.l0])
    | succ k1 =>
     have H := HA.out
     clear HA
     simp only [spec_l13Names.l0] at H
     by_cases c9 : x14_1 < (l0_0.length : Int)
     ·
      rw [if_pos c9] at H
      have c9b0 : decide (x14_1 < (l0_0.length : Int)) = true := decide_eq_true c9
      clear c9
      by_cases c10 : 0 ≤ x14_1
      ·
       rw [if_pos c10] at H
       have c10b0 : decide (0 ≤ x14_1) = true := decide_eq_true c10
       clear c10
       by_cases c11 : x14_1 < (l0_0.length : Int)
       ·
        rw [if_pos c11] at H
        have c11b0 : decide (x14_1 < (l0_0.length : Int)) = true := decide_eq_true c11
        clear c11
        by_cases c12 : x14_1 > 0
        ·
         rw [if_pos c12] at H
         have c12b0 : decide (0 < x14_1) = true := decide_eq_true c12
         clear c12
         by_cases c13 : 0 ≤ ((rd_T64 l0_0 x14_1).f2)
         ·
          rw [if_pos c13] at H
          have c13b0 : decide (0 ≤ ((rd_T64 l0_0 x14_1).f2)) = true := decide_eq_true c13
          clear c13
          by_cases c14 : ((rd_T64 l0_0 x14_1).f2) < (x4_1.length : Int)
          ·
           rw [if_pos c14] at H
           have c14b0 : decide (((rd_T64 l0_0 x14_1).f2) < (x4_1.length : Int)) = true := decide_eq_true c14
           clear c14
           by_cases c15 : (rdOf ByteArray.empty x4_1 ((rd_T64 l0_0 x14_1).f2)).size + ((rd_T64 l0_0 x14_1).f0).size ≤ 9223372036854775807
           ·
            rw [if_pos c15] at H
            have c15b0 := eq_true c15
            have c15b1 : decide ((rdOf ByteArray.empty x4_1 ((rd_T64 l0_0 x14_1).f2)).size + ((rd_T64 l0_0 x14_1).f0).size ≤ 9223372036854775807) = true := decide_eq_true c15
            try have c15b2 : (9223372036854775807 < (rdOf ByteArray.empty x4_1 ((rd_T64 l0_0 x14_1).f2)).size + ((rd_T64 l0_0 x14_1).f0).size) = False := eq_false (Nat.not_lt.2 c15)
            try have c15b3 := c15b2
            try simp only [ByteArray.size_append] at c15b3
            by_cases c16 : x14_1 < (x4_1.length : Int)
            ·
             rw [if_pos c16] at H
             have c16b0 : decide (x14_1 < (x4_1.length : Int)) = true := decide_eq_true c16
             clear c16
             obtain ⟨y362, hy362⟩ : ∃ y_ : List ByteArray, y_ = (x4_1.set (x14_1 : Int).toNat ((rdOf ByteArray.empty x4_1 ((rd_T64 l0_0 x14_1).f2)) ++ ((rd_T64 l0_0 x14_1).f0))) := ⟨_, rfl⟩
             replace H : (if (rd_T64 l0_0 x14_1).f1 = true then (if x3_1.length < 8796093022208 then (spec_l13Names.l0 k1 (x3_1 ++ [(rdOf ByteArray.empty x4_1 ((rd_T64 l0_0 x14_1).f2)) ++ ((rd_T64 l0_0 x14_1).f0)]) y362 l0_0 (l0_0.length : Int) (wrap64 (x14_1 + 1))) else (none)) else (spec_l13Names.l0 k1 x3_1 y362 l0_0 (l0_0.length : Int) (wrap64 (x14_1 + 1)))) = some r := by first | (rw [hy362]; with_reducible exact H) | (have H2_ := (Option.bind_some _ _).symm.trans H; rw [hy362]; with_reducible exact H2_) | (have H2_ := (Option.bind_some _ _).symm.trans H; with_reducible exact H2_) | with_reducible exact H | (rw [hy362]; exact H) | exact H
             have Ny362 := aM hy362
             clear hy362
             obtain ⟨bq18, hbq18⟩ : ∃ b_ : Bool, b_ = ((rd_T64 l0_0 x14_1).f1) := ⟨_, rfl⟩
             replace H : (if bq18 = true then (if x3_1.length < 8796093022208 then (spec_l13Names.l0 k1 (x3_1 ++ [(rdOf ByteArray.empty x4_1 ((rd_T64 l0_0 x14_1).f2)) ++ ((rd_T64 l0_0 x14_1).f0)]) y362 l0_0 (l0_0.length : Int) (wrap64 (x14_1 + 1))) else (none)) else (spec_l13Names.l0 k1 x3_1 y362 l0_0 (l0_0.length : Int) (wrap64 (x14_1 + 1)))) = some r := by rw [← hbq18] at H; exact H
             have Nbq18 := aM hbq18
             clear hbq18
             by_cases c19 : bq18 = true
             ·
              subst c19
              have H1 : (if x3_1.length < 8796093022208 then (spec_l13Names.l0 k1 (x3_1 ++ [(rdOf ByteArray.empty x4_1 ((rd_T64 l0_0 x14_1).f2)) ++ ((rd_T64 l0_0 x14_1).f0)]) y362 l0_0 (l0_0.length : Int) (wrap64 (x14_1 + 1))) else (none)) = some r := by rw [if_pos rfl] at H; exact H
              clear H
              have H := H1
              clear H1
              by_cases c21 : x3_1.length < 8796093022208
              ·
               rw [if_pos c21] at H
               have LMc21 := aM c21
               clear c21
               obtain ⟨y364, hy364⟩ : ∃ y_ : List ByteArray, y_ = (x3_1 ++ [(rdOf ByteArray.empty x4_1 ((rd_T64 l0_0 x14_1).f2)) ++ ((rd_T64 l0_0 x14_1).f0)]) := ⟨_, rfl⟩
               replace H : (spec_l13Names.l0 k1 y364 y362 l0_0 (l0_0.length : Int) (wrap64 (x14_1 + 1))) = some r := by first | (rw [hy364]; with_reducible exact H) | (have H2_ := (Option.bind_some _ _).symm.trans H; rw [hy364]; with_reducible exact H2_) | (have H2_ := (Option.bind_some _ _).symm.trans H; with_reducible exact H2_) | with_reducible exact H | (rw [hy364]; exact H) | exact H
               have Ny364 := aM hy364
               clear hy364
               have H' := aM H
               clear H
               have p359 : 0 ≤ (x14_1 : Int) := of_decide_eq_true (by first | (with_reducible assumption) | assumption)
               have q359 : x14_1 < (l0_0.length : Int) := of_decide_eq_true (by first | (with_reducible assumption) | assumption)
               obtain ⟨ad359, e359, hx359_0, hx359_1, hx359_2⟩ := at_T64 HR0_0.out x14_1 p359 q359
               (try rw [← Nbq18.out] at hx359_1)
               cases e359
               try have hz_hx359_0 := aM hx359_0
               try have hz_hx359_1 := aM hx359_1
               try have hz_hx359_2 := aM hx359_2
               replace hx359_0 := (HB.out.cell (World.block_lt_of_cell? w _ hx359_0)).trans hx359_0
               replace hx359_1 := (HB.out.cell (World.block_lt_of_cell? w _ hx359_1)).trans hx359_1
               replace hx359_2 := (HB.out.cell (World.block_lt_of_cell? w _ hx359_2)).trans hx359_2
               replace p359 := eq_true p359
               replace q359 := eq_true q359
               try go_wp2_with (first | ((with_reducible refine gate_dst (N := 6) rfl ?_); refine box_event ?hg (N := 6) ?hd (cs := #[.string (⟨#[]⟩ : ByteArray), .bool false, .int .i64 0]) (t := 64) ?hr ?_; (case hd => rfl); (case hg => rfl); (case hr => first | (go_simp; done) | (go_simp; rfl)); intro gb360 hg w22 hbox hb; have n0_ := aM (Kd.R_below (by (with_reducible repeat (first | apply Kd.R_alloc | apply Kd.R_drewN | apply Kd.R_drew)); exact HO_3.out) hb); have n1_ := aM (Kd.R_below (by (with_reducible repeat (first | apply Kd.R_alloc | apply Kd.R_drewN | apply Kd.R_drew)); exact HO_4.out) hb); have n2_ := aM (blk_below (g := gb355) (o := .cells #[.slice (some ad359) l0_0.length c0_0] 26 (0, 0)) (by (with_reducible repeat (first | refine blk_drewN ?_ _ | refine blk_drew ?_ | refine blk_alloc ?_ _)); exact BK355.out) hb); have n3_ := aM (below_step (by repeat (first | (with_reducible first | exact HB.out | apply below_alloc | apply pw_below_drewN | apply below_drew1 | refine below_set ?_ GE355.out) | exact HB.out)) hb); have n4_ := aM (hbox); have n5_ := aM ((by rw [hg]; exact (below_size (by repeat (first | (with_reducible first | exact HB.out | apply below_alloc | apply pw_below_drewN | apply below_drew1 | refine below_set ?_ GE355.out) | exact HB.out))) : w.heap.size ≤ gb360)); have n6_ := aM ((by rw [hg]; exact (below_size (by repeat (first | (with_reducible first | exact HB.out | apply below_alloc | apply pw_below_drewN | apply below_drew1 | refine below_set ?_ GE355.out) | exact HB.out))) : w.heap.size ≤ gb360)); have n7_ := aM ((by rw [hg]; exact Nat.ne_of_lt (blk_lt (g := gb355) (o := .cells #[.slice (some ad359) l0_0.length c0_0] 26 (0, 0)) (by (with_reducible repeat (first | refine blk_drewN ?_ _ | refine blk_drew ?_ | refine blk_alloc ?_ _)); exact BK355.out)) : gb355 ≠ gb360)); have n8_ := aM ((by rw [hg]; exact Nat.ne_of_gt (blk_lt (g := gb355) (o := .cells #[.slice (some ad359) l0_0.length c0_0] 26 (0, 0)) (by (with_reducible repeat (first | refine blk_drewN ?_ _ | refine blk_drew ?_ | refine blk_alloc ?_ _)); exact BK355.out)) : gb360 ≠ gb355)); clear HO_3; clear HO_4; clear BK355; clear HB; have HO_3 := n0_; have HO_4 := n1_; have BK355 := n2_; have HB := n3_; have BK360 := n4_; have GW360 := n5_; have GE360 := n6_; have NB355_360 := n7_; have NB360_355 := n8_; clear n0_ n1_ n2_ n3_ n4_ n5_ n6_ n7_ n8_; clear hb hbox hg; have hnb23 := NB360_355.out; have hnc23 := NB355_360.out; have hcz24_0 : w22.cell? ⟨gb360, 0, none⟩ = some (.string (⟨#[]⟩ : ByteArray)) := (blk_cell BK360.out 0).trans rfl; have hcz24_1 : w22.cell? ⟨gb360, 1, none⟩ = some (.bool false) := (blk_cell BK360.out 1).trans rfl; have hcz24_2 : w22.cell? ⟨gb360, 2, none⟩ = some (.int .i64 0) := (blk_cell BK360.out 2).trans rfl; have hfz24_0 := blk_frozen BK360.out 0; have hfz24_1 := blk_frozen BK360.out 1; have hfz24_2 := blk_frozen BK360.out 2))
               have n0_ : Aside0 (Kd.R Kd.string 9 (((w22.setCell ⟨gb360, 0, none⟩ (.string ((rd_T64 l0_0 x14_1).f0))).setCell ⟨gb360, 1, none⟩ (.bool true)).setCell ⟨gb360, 2, none⟩ (.int .i64 ((rd_T64 l0_0 x14_1).f2))) w.heap.size (fun k_ => some k_ ≠ (v357 : Value).ownBlock) u3 x3_1) := ⟨by (with_reducible repeat (first | apply Kd.R_alloc | apply Kd.R_drewN | apply Kd.R_drew)); exact Kd.R_mono (Kd.R_far (p := ⟨gb360, 2, none⟩) (Kd.R_far (p := ⟨gb360, 1, none⟩) (Kd.R_far (p := ⟨gb360, 0, none⟩) (Kd.R_types HO_3.out BK360.out (by decide)) (fun _ hk => hk.2) (.string ((rd_T64 l0_0 x14_1).f0))) (fun _ hk => hk.2) (.bool true)) (fun _ hk => hk.2) (.int .i64 ((rd_T64 l0_0 x14_1).f2))) (fun _ hk => hk.1)⟩
               have n1_ : Aside0 (Kd.R Kd.string 9 (((w22.setCell ⟨gb360, 0, none⟩ (.string ((rd_T64 l0_0 x14_1).f0))).setCell ⟨gb360, 1, none⟩ (.bool true)).setCell ⟨gb360, 2, none⟩ (.int .i64 ((rd_T64 l0_0 x14_1).f2))) w.heap.size (fun k_ => some k_ ≠ (u3 : Value).ownBlock) v357 x4_1) := ⟨by (with_reducible repeat (first | apply Kd.R_alloc | apply Kd.R_drewN | apply Kd.R_drew)); exact Kd.R_mono (Kd.R_far (p := ⟨gb360, 2, none⟩) (Kd.R_far (p := ⟨gb360, 1, none⟩) (Kd.R_far (p := ⟨gb360, 0, none⟩) (Kd.R_types HO_4.out BK360.out (by decide)) (fun _ hk => hk.2) (.string ((rd_T64 l0_0 x14_1).f0))) (fun _ hk => hk.2) (.bool true)) (fun _ hk => hk.2) (.int .i64 ((rd_T64 l0_0 x14_1).f2))) (fun _ hk => hk.1)⟩
               have n2_ : Aside0 ((((w22.setCell ⟨gb360, 0, none⟩ (.string ((rd_T64 l0_0 x14_1).f0))).setCell ⟨gb360, 1, none⟩ (.bool true)).setCell ⟨gb360, 2, none⟩ (.int .i64 ((rd_T64 l0_0 x14_1).f2))).heap[gb355]? = some (.cells #[.slice (some ad359) l0_0.length c0_0] 26 (0, 0))) := ⟨by (with_reducible repeat (first | refine blk_drewN ?_ _ | refine blk_drew ?_ | refine blk_alloc ?_ _)); refine blk_far ?_ NB355_360.out _; (with_reducible repeat (first | refine blk_drewN ?_ _ | refine blk_drew ?_ | refine blk_alloc ?_ _)); refine blk_far ?_ NB355_360.out _; (with_reducible repeat (first | refine blk_drewN ?_ _ | refine blk_drew ?_ | refine blk_alloc ?_ _)); refine blk_far ?_ NB355_360.out _; (with_reducible repeat (first | refine blk_drewN ?_ _ | refine blk_drew ?_ | refine blk_alloc ?_ _)); exact BK355.out⟩
               have n3_ : Aside0 ((((w22.setCell ⟨gb360, 0, none⟩ (.string ((rd_T64 l0_0 x14_1).f0))).setCell ⟨gb360, 1, none⟩ (.bool true)).setCell ⟨gb360, 2, none⟩ (.int .i64 ((rd_T64 l0_0 x14_1).f2))).heap[gb360]? = some (.cells #[.string ((rd_T64 l0_0 x14_1).f0), .bool true, .int .i64 ((rd_T64 l0_0 x14_1).f2)] 64 (0, 0))) := ⟨by (with_reducible repeat (first | refine blk_drewN ?_ _ | refine blk_drew ?_ | refine blk_alloc ?_ _)); refine blk_put (cs := #[.string ((rd_T64 l0_0 x14_1).f0), .bool true, .int .i64 0]) ?_ 2 _ rfl; (with_reducible repeat (first | refine blk_drewN ?_ _ | refine blk_drew ?_ | refine blk_alloc ?_ _)); refine blk_put (cs := #[.string ((rd_T64 l0_0 x14_1).f0), .bool false, .int .i64 0]) ?_ 1 _ rfl; (with_reducible repeat (first | refine blk_drewN ?_ _ | refine blk_drew ?_ | refine blk_alloc ?_ _)); refine blk_put (cs := #[.string (⟨#[]⟩ : ByteArray), .bool false, .int .i64 0]) ?_ 0 _ rfl; (with_reducible repeat (first | refine blk_drewN ?_ _ | refine blk_drew ?_ | refine blk_alloc ?_ _)); exact BK360.out⟩
               have n4_ : Aside0 (Below w.heap.size w (((w22.setCell ⟨gb360, 0, none⟩ (.string ((rd_T64 l0_0 x14_1).f0))).setCell ⟨gb360, 1, none⟩ (.bool true)).setCell ⟨gb360, 2, none⟩ (.int .i64 ((rd_T64 l0_0 x14_1).f2)))) := ⟨by repeat (first | (with_reducible first | exact HB.out | apply below_alloc | apply pw_below_drewN | apply below_drew1 | refine below_set ?_ GE355.out | refine below_set ?_ GE360.out) | exact HB.out)⟩
               (try clear HO_3)
               (try clear HO_4)
               (try clear BK355)
               (try clear BK360)
               (try clear HB)
               generalize (((w22.setCell ⟨gb360, 0, none⟩ (.string ((rd_T64 l0_0 x14_1).f0))).setCell ⟨gb360, 1, none⟩ (.bool true)).setCell ⟨gb360, 2, none⟩ (.int .i64 ((rd_T64 l0_0 x14_1).f2))) = w25 at n0_ n1_ n2_ n3_ n4_ ⊢
               have HO_3 := n0_
               have HO_4 := n1_
               have BK355 := n2_
               have BK360 := n3_
               have HB := n4_
               clear n0_ n1_ n2_ n3_ n4_
               have n0_ := aM (Kd.R_drew HO_3.out)
               have n1_ := aM (Kd.R_drew HO_4.out)
               have n2_ := aM (blk_drew BK355.out)
               have n3_ := aM (blk_drew BK360.out)
               have n4_ := aM (below_drew1 HB.out)
               clear HO_3
               clear HO_4
               clear BK355
               clear BK360
               clear HB
               have HO_3 := n0_
               have HO_4 := n1_
               have BK355 := n2_
               have BK360 := n3_
               have HB := n4_
               clear n0_ n1_ n2_ n3_ n4_
               obtain ⟨Ao27, co27, eo27⟩ := Kd.R_slice HO_4.out
               (first | subst eo27 | (injection eo27 with f1_ f2_ f3_; have f4_ := f1_.symm; have f5_ := f3_.symm; clear f1_ f2_ f3_; subst f4_; subst f5_))
               have p361 : 0 ≤ (((rd_T64 l0_0 x14_1).f2) : Int) := of_decide_eq_true (by first | (with_reducible assumption) | assumption)
               have q361 : ((rd_T64 l0_0 x14_1).f2) < (x4_1.length : Int) := of_decide_eq_true (by first | (with_reducible assumption) | assumption)
               obtain ⟨ad361, e361, hx361_0⟩ := Kd.at_string (Kd.R_reads' HO_4.out).2.2 ((rd_T64 l0_0 x14_1).f2) p361 q361
               cases e361
               replace p361 := eq_true p361
               replace q361 := eq_true q361
               have p17 : 0 ≤ (x14_1 : Int) := of_decide_eq_true (by first | (with_reducible assumption) | assumption)
               have q17 : (x14_1 : Int) < ((x4_1.length : Int) : Int) := of_decide_eq_true (by first | (with_reducible assumption) | assumption)
               obtain ⟨go17, co17, eo17, gb17, gl17, cl17, HG17⟩ := Kd.R_form HO_4.out (by omega)
               (first | cases eo17 | (injection eo17 with ea_ en_ ec_; (first | subst ea_ | (injection ea_ with ea_; subst ea_)); subst ec_; clear en_))
               have GB17 := aM gb17
               have GG17 := aM HG17
               clear gb17 gl17 HG17
               (first | simp only [add_plain] at hx361_0 | skip)
               obtain ⟨hx17_0, hf17_0⟩ := Kd.R_celln (⟨#[]⟩ : ByteArray) HO_4.out (x14_1 : Int) p17 q17
               replace p17 := eq_true p17
               replace q17 := eq_true q17
               have HP28 := Kd.R_putn HO_4.out (x14_1 : Int) ((rdOf ByteArray.empty x4_1 ((rd_T64 l0_0 x14_1).f2)) ++ ((rd_T64 l0_0 x14_1).f0))
               rw [← Ny362.out] at HP28
               have HQ28 := aM HP28
               clear HP28
               refine start_ (n := 12) (S := fun w' => w'.cell? ⟨gb360, 0, none⟩ = some (.string ((rd_T64 l0_0 x14_1).f0)) ∧ w'.cell? ⟨gb360, 1, none⟩ = some (.bool true) ∧ w'.cell? ⟨gb360, 2, none⟩ = some (.int .i64 ((rd_T64 l0_0 x14_1).f2)) ∧ w'.cell? ⟨go17, (((rd_T64 l0_0 x14_1).f2)).toNat, none⟩ = some (.string (rdOf ByteArray.empty x4_1 ((rd_T64 l0_0 x14_1).f2)))) (ds := [11]) (bq 12 0) (by kernel_rfl) rfl (by kernel_rfl) ⟨(blk_cell BK360.out 0).trans rfl, (blk_cell BK360.out 1).trans rfl, (blk_cell BK360.out 2).trans rfl, hx361_0⟩ (fun hHeld => ?_); refine with_tabW spec_l13Names.tab7 spec_l13Names.bits7 (fun HT_ HW_ => ?_)
               generalize w25.drew = w26 at HO_3 HO_4 BK355 BK360 HB GG17 HQ28 hf17_0 hx17_0 hx361_0 hHeld ⊢
               refine pure_ (i := 0) (N := some 21) (v := ?_) (a' := ?_) (bq 12 1) rfl rfl (any_of HT_.out (by kernel_rfl)) (fun _ _ _ h => h) (Or.inl ⟨by rfl, ?_⟩) ?_ ?_; rotate_left; (intro w'; go_simp; (with_reducible rfl)); rotate_left; (simp only [Act.put, zSA, zSB, zSC, i64_w, i32_w]; rfl)
               refine pure_ (i := 1) (N := some 22) (v := ?_) (a' := ?_) (bq 12 3) rfl rfl (any_of HT_.out (by kernel_rfl)) (fun _ _ _ h => h) (Or.inl ⟨by rfl, ?_⟩) ?_ ?_; rotate_left; (intro w'; go_simp; (with_reducible rfl)); rotate_left; (simp only [Act.put, zSA, zSB, zSC, i64_w, i32_w]; rfl)
               refine pure_ (i := 2) (N := some 23) (v := ?_) (a' := ?_) (bq 12 7) rfl rfl (any_of HT_.out (by kernel_rfl)) (fun _ _ _ h => h) (Or.inl ⟨by rfl, ?_⟩) ?_ ?_; rotate_left; (intro w'; go_simp; (with_reducible rfl)); rotate_left; (simp only [Act.put, zSA, zSB, zSC, i64_w, i32_w]; rfl)
               refine pure_ (i := 3) (N := some 24) (v := ?_) (a' := ?_) (bq 12 15) rfl rfl (any_of HT_.out (by kernel_rfl)) (fun _ _ _ h => h) (Or.inl ⟨by rfl, ?_⟩) ?_ ?_; rotate_left; (intro w'; go_simp; (with_reducible rfl)); rotate_left; (simp only [Act.put, zSA, zSB, zSC, i64_w, i32_w]; rfl)
               refine pure_ (i := 7) (N := some 28) (v := ?_) (a' := ?_) (bq 12 143) rfl rfl (any_of HT_.out (by kernel_rfl)) (fun _ _ _ h => h) (Or.inl ⟨by rfl, ?_⟩) ?_ ?_; rotate_left; (intro w'; go_simp; (with_reducible rfl)); rotate_left; (simp only [Act.put, zSA, zSB, zSC, i64_w, i32_w]; rfl)
               refine take_ (i := 4) (N := some 25) (v := ?_) (a' := ?_) (bq 12 159) rfl rfl (take_ofW HT_.out HW_.out (by kernel_rfl)) (fun _ _ _ h => h) (Or.inl ⟨by rfl, ?_⟩) hHeld ?_ ?_; rotate_left; (rintro w' ⟨s0, s1, s2, s3⟩; go_simp; (with_reducible rfl)); rotate_left; (simp only [Act.put, zSA, zSB, zSC, i64_w, i32_w]; rfl)
               refine pure_ (i := 5) (N := some 26) (v := ?_) (a' := ?_) (bq 12 191) rfl rfl (any_of HT_.out (by kernel_rfl)) (fun _ _ _ h => h) (Or.inl ⟨by rfl, ?_⟩) ?_ ?_; rotate_left; (intro w'; go_simp; (with_reducible rfl)); rotate_left; (simp only [Act.put, zSA, zSB, zSC, i64_w, i32_w]; rfl)
               refine take_ (i := 6) (N := some 27) (v := ?_) (a' := ?_) (bq 12 255) rfl rfl (take_ofW HT_.out HW_.out (by kernel_rfl)) (fun _ _ _ h => h) (Or.inl ⟨by rfl, ?_⟩) hHeld ?_ ?_; rotate_left; (rintro w' ⟨s0, s1, s2, s3⟩; go_simp; (with_reducible rfl)); rotate_left; (simp only [Act.put, zSA, zSB, zSC, i64_w, i32_w]; rfl)
               refine take_ (i := 8) (N := some 29) (v := ?_) (a' := ?_) (bq 12 511) rfl rfl (take_ofW HT_.out HW_.out (by kernel_rfl)) (fun _ _ _ h => h) (Or.inl ⟨by rfl, ?_⟩) hHeld ?_ ?_; rotate_left; (rintro w' ⟨s0, s1, s2, s3⟩; go_simp; (with_reducible rfl)); rotate_left; (simp only [Act.put, zSA, zSB, zSC, i64_w, i32_w]; rfl)
               refine pure_ (i := 9) (N := some 30) (v := ?_) (a' := ?_) (bq 12 1023) rfl rfl (any_of HT_.out (by kernel_rfl)) (fun _ _ _ h => h) (Or.inl ⟨by rfl, ?_⟩) ?_ ?_; rotate_left; (intro w'; go_simp; (with_reducible rfl)); rotate_left; (simp only [Act.put, zSA, zSB, zSC, i64_w, i32_w]; rfl)
               refine pure_ (i := 10) (N := some 31) (v := ?_) (a' := ?_) (bq 12 2047) rfl rfl (any_of HT_.out (by kernel_rfl)) (fun _ _ _ h => h) (Or.inl ⟨by rfl, ?_⟩) ?_ ?_; rotate_left; (intro w'; go_simp; (with_reducible rfl)); rotate_left; (simp only [Act.put, zSA, zSB, zSC, i64_w, i32_w]; rfl)
               refine last_ (i := 11) (N := none) #[true, true, true, true, true, true, true, true, true, true, true, true] rfl rfl (one_of HT_.out (by kernel_rfl)) (by decide) (fun K hK => ?_)
               refine skip_ (w1 := ?_) (by rfl) rfl ?_ ?_
               rotate_left
               ·
                go_simp
                rfl
               refine hK.out _ _ ?_
               clear hK K
               refine done_ (done_of HT_.out (by kernel_rfl)) ?_
               try have hnz29 : ¬ gb360 = go17 := fun e_ => Kd.R_ne HO_4.out BK360.out (by decide) (by rw [e_]; rfl)
               try have hmz29 : ¬ go17 = gb360 := fun e_ => hnz29 e_.symm
               have hcz29_0 : w26.cell? ⟨gb360, 0, none⟩ = some (.string ((rd_T64 l0_0 x14_1).f0)) := (blk_cell BK360.out 0).trans rfl
               have hcz29_1 : w26.cell? ⟨gb360, 1, none⟩ = some (.bool true) := (blk_cell BK360.out 1).trans rfl
               have hcz29_2 : w26.cell? ⟨gb360, 2, none⟩ = some (.int .i64 ((rd_T64 l0_0 x14_1).f2)) := (blk_cell BK360.out 2).trans rfl
               have hfz29_0 := blk_frozen BK360.out 0
               have hfz29_1 := blk_frozen BK360.out 1
               have hfz29_2 := blk_frozen BK360.out 2
               have p20 : 0 ≤ (x14_1 : Int) := of_decide_eq_true (by first | (with_reducible assumption) | assumption)
               have q20 : (x14_1 : Int) < ((x4_1.length : Int) : Int) := of_decide_eq_true (by first | (with_reducible assumption) | assumption)
               replace p20 := eq_true p20
               replace q20 := eq_true q20
               try go_wp2_with (first | ((with_reducible refine gate_builtin (b := .append) (xs := #[.tmp 34, .tmp 39]) rfl ?_); at_builtin; refine Kd.R_append Kd.string (w0 := w) w.heap.size rfl (.tmp 34) (.tmp 39) 22 9 (.string ⟨#[]⟩) 16 rfl Try.underlying22 info9 rfl (by decide) (by omega) u3 x3_1 ((rdOf ByteArray.empty x4_1 ((rd_T64 l0_0 x14_1).f2)) ++ ((rd_T64 l0_0 x14_1).f0)) [.string ((rdOf ByteArray.empty x4_1 ((rd_T64 l0_0 x14_1).f2)) ++ ((rd_T64 l0_0 x14_1).f0))] (fun k_ => some k_ ≠ (.slice (some ⟨go17, 0, none⟩) x4_1.length co27 : Value).ownBlock) (fun _ => False) rfl (by first | (go_simp; done) | (go_simp; rfl)) ?aP (fun _ hk => hk.elim) ?aF ?aO ?aB ?aS ?aL ?_; (case aP => exact rfl); (case aB => exact (by repeat (first | (with_reducible first | exact HB.out | apply below_alloc | apply pw_below_drewN | apply below_drew1 | refine below_set ?_ GB17.out | refine below_set ?_ GE355.out | refine below_set ?_ GE360.out) | exact HB.out))); (case aF => exact (fun k_ hk => Kd.fresh' (Kd.R_lt (by (with_reducible repeat (first | apply Kd.R_alloc | apply Kd.R_drewN | apply Kd.R_drew)); exact HQ28.out)) k_ hk)); (case aO => exact (by (with_reducible repeat (first | apply Kd.R_alloc | apply Kd.R_drewN | apply Kd.R_drew)); exact Kd.R_mono (Kd.R_far (p := ⟨go17, (x14_1 : Int).toNat, none⟩) (Kd.R_mono HO_3.out (fun k_ hk => (⟨hk, fun e_ => hk (by rw [e_]; rfl)⟩ : _ ∧ k_ ≠ go17))) (fun _ hk => hk.2) (.string ((rdOf ByteArray.empty x4_1 ((rd_T64 l0_0 x14_1).f2)) ++ ((rd_T64 l0_0 x14_1).f0)))) (fun _ hk => hk.1))); (case aS => exact (below_size (by repeat (first | (with_reducible first | exact HB.out | apply below_alloc | apply pw_below_drewN | apply below_drew1 | refine below_set ?_ GB17.out | refine below_set ?_ GE355.out | refine below_set ?_ GE360.out) | exact HB.out)))); (case aL => have := LMc21.out; omega); intro v365 w30 ho hb hg hat; rw [← Ny364.out] at ho; have n0_ := aM (Kd.R_after (ok := (fun _ => True)) (by (with_reducible repeat (first | apply Kd.R_alloc | apply Kd.R_drewN | apply Kd.R_drew)); exact Kd.R_mono HQ28.out (fun _ hk => ⟨trivial, hk⟩)) hg hat); have n1_ := aM (blk_grown (g := gb355) (o := .cells #[.slice (some ad359) l0_0.length c0_0] 26 (0, 0)) (by (with_reducible repeat (first | refine blk_drewN ?_ _ | refine blk_drew ?_ | refine blk_alloc ?_ _)); refine blk_far ?_ (by have h_ := Kd.R_ne HO_4.out BK355.out (by decide); intro e_; exact h_ (by rw [e_]; rfl)) _; (with_reducible repeat (first | refine blk_drewN ?_ _ | refine blk_drew ?_ | refine blk_alloc ?_ _)); exact BK355.out) hg (Kd.R_ne HO_3.out BK355.out (by decide))); have n2_ := aM (blk_grown (g := gb360) (o := .cells #[.string ((rd_T64 l0_0 x14_1).f0), .bool true, .int .i64 ((rd_T64 l0_0 x14_1).f2)] 64 (0, 0)) (by (with_reducible repeat (first | refine blk_drewN ?_ _ | refine blk_drew ?_ | refine blk_alloc ?_ _)); refine blk_far ?_ (by have h_ := Kd.R_ne HO_4.out BK360.out (by decide); intro e_; exact h_ (by rw [e_]; rfl)) _; (with_reducible repeat (first | refine blk_drewN ?_ _ | refine blk_drew ?_ | refine blk_alloc ?_ _)); exact BK360.out) hg (Kd.R_ne HO_3.out BK360.out (by decide))); have n3_ := aM (hb); have n4_ := aM (ho); clear HO_4; clear BK355; clear BK360; clear HB; clear HO_3; have HO_4 := n0_; have BK355 := n1_; have BK360 := n2_; have HB := n3_; have HO366 := n4_; clear n0_ n1_ n2_ n3_ n4_; clear ho hb hg hat))
               go_roundg k1
               case measure => have := HK1.out; omega
               case rel => exact ⟨(y364), (y362), (wrap64 (x14_1 + 1)), (by first | rfl | (simp; done) | (simp [*]; done)), H', ⟨by have := HK1.out; omega⟩, ⟨by (with_reducible repeat (first | apply Kd.R_alloc | apply Kd.R_drewN | apply Kd.R_drew)); exact HO366.out⟩, ⟨by (with_reducible repeat (first | apply Kd.R_alloc | apply Kd.R_drewN | apply Kd.R_drew)); exact Kd.R_mono HO_4.out (fun _ hk => hk.2)⟩, ⟨by (with_reducible repeat (first | refine blk_drewN ?_ _ | refine blk_drew ?_ | refine blk_alloc ?_ _)); exact BK355.out⟩, ⟨by repeat (first | (with_reducible first | exact HB.out | apply below_alloc | apply pw_below_drewN | apply below_drew1 | refine below_set ?_ GE355.out | refine below_set ?_ GE360.out) | exact HB.out)⟩⟩
              ·
               rw [if_neg c21] at H
               exact absurd H (by simp)
             ·
              replace c19 := Bool.eq_false_iff.mpr c19
              subst c19
              have H1 : (spec_l13Names.l0 k1 x3_1 y362 l0_0 (l0_0.length : Int) (wrap64 (x14_1 + 1))) = some r := by rw [if_neg (show ¬ (false = true) by decide)] at H; exact H
              clear H
              have H := H1
              clear H1
              have H' := aM H
              clear H
              have p359 : 0 ≤ (x14_1 : Int) := of_decide_eq_true (by first | (with_reducible assumption) | assumption)
              have q359 : x14_1 < (l0_0.length : Int) := of_decide_eq_true (by first | (with_reducible assumption) | assumption)
              obtain ⟨ad359, e359, hx359_0, hx359_1, hx359_2⟩ := at_T64 HR0_0.out x14_1 p359 q359
              (try rw [← Nbq18.out] at hx359_1)
              cases e359
              try have hz_hx359_0 := aM hx359_0
              try have hz_hx359_1 := aM hx359_1
              try have hz_hx359_2 := aM hx359_2
              replace hx359_0 := (HB.out.cell (World.block_lt_of_cell? w _ hx359_0)).trans hx359_0
              replace hx359_1 := (HB.out.cell (World.block_lt_of_cell? w _ hx359_1)).trans hx359_1
              replace hx359_2 := (HB.out.cell (World.block_lt_of_cell? w _ hx359_2)).trans hx359_2
              replace p359 := eq_true p359
              replace q359 := eq_true q359
              try go_wp2_with (first | ((with_reducible refine gate_dst (N := 6) rfl ?_); refine box_event ?hg (N := 6) ?hd (cs := #[.string (⟨#[]⟩ : ByteArray), .bool false, .int .i64 0]) (t := 64) ?hr ?_; (case hd => rfl); (case hg => rfl); (case hr => first | (go_simp; done) | (go_simp; rfl)); intro gb360 hg w31 hbox hb; have n0_ := aM (Kd.R_below (by (with_reducible repeat (first | apply Kd.R_alloc | apply Kd.R_drewN | apply Kd.R_drew)); exact HO_3.out) hb); have n1_ := aM (Kd.R_below (by (with_reducible repeat (first | apply Kd.R_alloc | apply Kd.R_drewN | apply Kd.R_drew)); exact HO_4.out) hb); have n2_ := aM (blk_below (g := gb355) (o := .cells #[.slice (some ad359) l0_0.length c0_0] 26 (0, 0)) (by (with_reducible repeat (first | refine blk_drewN ?_ _ | refine blk_drew ?_ | refine blk_alloc ?_ _)); exact BK355.out) hb); have n3_ := aM (below_step (by repeat (first | (with_reducible first | exact HB.out | apply below_alloc | apply pw_below_drewN | apply below_drew1 | refine below_set ?_ GE355.out) | exact HB.out)) hb); have n4_ := aM (hbox); have n5_ := aM ((by rw [hg]; exact (below_size (by repeat (first | (with_reducible first | exact HB.out | apply below_alloc | apply pw_below_drewN | apply below_drew1 | refine below_set ?_ GE355.out) | exact HB.out))) : w.heap.size ≤ gb360)); have n6_ := aM ((by rw [hg]; exact (below_size (by repeat (first | (with_reducible first | exact HB.out | apply below_alloc | apply pw_below_drewN | apply below_drew1 | refine below_set ?_ GE355.out) | exact HB.out))) : w.heap.size ≤ gb360)); have n7_ := aM ((by rw [hg]; exact Nat.ne_of_lt (blk_lt (g := gb355) (o := .cells #[.slice (some ad359) l0_0.length c0_0] 26 (0, 0)) (by (with_reducible repeat (first | refine blk_drewN ?_ _ | refine blk_drew ?_ | refine blk_alloc ?_ _)); exact BK355.out)) : gb355 ≠ gb360)); have n8_ := aM ((by rw [hg]; exact Nat.ne_of_gt (blk_lt (g := gb355) (o := .cells #[.slice (some ad359) l0_0.length c0_0] 26 (0, 0)) (by (with_reducible repeat (first | refine blk_drewN ?_ _ | refine blk_drew ?_ | refine blk_alloc ?_ _)); exact BK355.out)) : gb360 ≠ gb355)); clear HO_3; clear HO_4; clear BK355; clear HB; have HO_3 := n0_; have HO_4 := n1_; have BK355 := n2_; have HB := n3_; have BK360 := n4_; have GW360 := n5_; have GE360 := n6_; have NB355_360 := n7_; have NB360_355 := n8_; clear n0_ n1_ n2_ n3_ n4_ n5_ n6_ n7_ n8_; clear hb hbox hg; have hnb32 := NB360_355.out; have hnc32 := NB355_360.out; have hcz33_0 : w31.cell? ⟨gb360, 0, none⟩ = some (.string (⟨#[]⟩ : ByteArray)) := (blk_cell BK360.out 0).trans rfl; have hcz33_1 : w31.cell? ⟨gb360, 1, none⟩ = some (.bool false) := (blk_cell BK360.out 1).trans rfl; have hcz33_2 : w31.cell? ⟨gb360, 2, none⟩ = some (.int .i64 0) := (blk_cell BK360.out 2).trans rfl; have hfz33_0 := blk_frozen BK360.out 0; have hfz33_1 := blk_frozen BK360.out 1; have hfz33_2 := blk_frozen BK360.out 2))
              have n0_ : Aside0 (Kd.R Kd.string 9 (((w31.setCell ⟨gb360, 0, none⟩ (.string ((rd_T64 l0_0 x14_1).f0))).setCell ⟨gb360, 1, none⟩ (.bool false)).setCell ⟨gb360, 2, none⟩ (.int .i64 ((rd_T64 l0_0 x14_1).f2))) w.heap.size (fun k_ => some k_ ≠ (v357 : Value).ownBlock) u3 x3_1) := ⟨by (with_reducible repeat (first | apply Kd.R_alloc | apply Kd.R_drewN | apply Kd.R_drew)); exact Kd.R_mono (Kd.R_far (p := ⟨gb360, 2, none⟩) (Kd.R_far (p := ⟨gb360, 1, none⟩) (Kd.R_far (p := ⟨gb360, 0, none⟩) (Kd.R_types HO_3.out BK360.out (by decide)) (fun _ hk => hk.2) (.string ((rd_T64 l0_0 x14_1).f0))) (fun _ hk => hk.2) (.bool false)) (fun _ hk => hk.2) (.int .i64 ((rd_T64 l0_0 x14_1).f2))) (fun _ hk => hk.1)⟩
              have n1_ : Aside0 (Kd.R Kd.string 9 (((w31.setCell ⟨gb360, 0, none⟩ (.string ((rd_T64 l0_0 x14_1).f0))).setCell ⟨gb360, 1, none⟩ (.bool false)).setCell ⟨gb360, 2, none⟩ (.int .i64 ((rd_T64 l0_0 x14_1).f2))) w.heap.size (fun k_ => some k_ ≠ (u3 : Value).ownBlock) v357 x4_1) := ⟨by (with_reducible repeat (first | apply Kd.R_alloc | apply Kd.R_drewN | apply Kd.R_drew)); exact Kd.R_mono (Kd.R_far (p := ⟨gb360, 2, none⟩) (Kd.R_far (p := ⟨gb360, 1, none⟩) (Kd.R_far (p := ⟨gb360, 0, none⟩) (Kd.R_types HO_4.out BK360.out (by decide)) (fun _ hk => hk.2) (.string ((rd_T64 l0_0 x14_1).f0))) (fun _ hk => hk.2) (.bool false)) (fun _ hk => hk.2) (.int .i64 ((rd_T64 l0_0 x14_1).f2))) (fun _ hk => hk.1)⟩
              have n2_ : Aside0 ((((w31.setCell ⟨gb360, 0, none⟩ (.string ((rd_T64 l0_0 x14_1).f0))).setCell ⟨gb360, 1, none⟩ (.bool false)).setCell ⟨gb360, 2, none⟩ (.int .i64 ((rd_T64 l0_0 x14_1).f2))).heap[gb355]? = some (.cells #[.slice (some ad359) l0_0.length c0_0] 26 (0, 0))) := ⟨by (with_reducible repeat (first | refine blk_drewN ?_ _ | refine blk_drew ?_ | refine blk_alloc ?_ _)); refine blk_far ?_ NB355_360.out _; (with_reducible repeat (first | refine blk_drewN ?_ _ | refine blk_drew ?_ | refine blk_alloc ?_ _)); refine blk_far ?_ NB355_360.out _; (with_reducible repeat (first | refine blk_drewN ?_ _ | refine blk_drew ?_ | refine blk_alloc ?_ _)); refine blk_far ?_ NB355_360.out _; (with_reducible repeat (first | refine blk_drewN ?_ _ | refine blk_drew ?_ | refine blk_alloc ?_ _)); exact BK355.out⟩
              have n3_ : Aside0 ((((w31.setCell ⟨gb360, 0, none⟩ (.string ((rd_T64 l0_0 x14_1).f0))).setCell ⟨gb360, 1, none⟩ (.bool false)).setCell ⟨gb360, 2, none⟩ (.int .i64 ((rd_T64 l0_0 x14_1).f2))).heap[gb360]? = some (.cells #[.string ((rd_T64 l0_0 x14_1).f0), .bool false, .int .i64 ((rd_T64 l0_0 x14_1).f2)] 64 (0, 0))) := ⟨by (with_reducible repeat (first | refine blk_drewN ?_ _ | refine blk_drew ?_ | refine blk_alloc ?_ _)); refine blk_put (cs := #[.string ((rd_T64 l0_0 x14_1).f0), .bool false, .int .i64 0]) ?_ 2 _ rfl; (with_reducible repeat (first | refine blk_drewN ?_ _ | refine blk_drew ?_ | refine blk_alloc ?_ _)); refine blk_put (cs := #[.string ((rd_T64 l0_0 x14_1).f0), .bool false, .int .i64 0]) ?_ 1 _ rfl; (with_reducible repeat (first | refine blk_drewN ?_ _ | refine blk_drew ?_ | refine blk_alloc ?_ _)); refine blk_put (cs := #[.string (⟨#[]⟩ : ByteArray), .bool false, .int .i64 0]) ?_ 0 _ rfl; (with_reducible repeat (first | refine blk_drewN ?_ _ | refine blk_drew ?_ | refine blk_alloc ?_ _)); exact BK360.out⟩
              have n4_ : Aside0 (Below w.heap.size w (((w31.setCell ⟨gb360, 0, none⟩ (.string ((rd_T64 l0_0 x14_1).f0))).setCell ⟨gb360, 1, none⟩ (.bool false)).setCell ⟨gb360, 2, none⟩ (.int .i64 ((rd_T64 l0_0 x14_1).f2)))) := ⟨by repeat (first | (with_reducible first | exact HB.out | apply below_alloc | apply pw_below_drewN | apply below_drew1 | refine below_set ?_ GE355.out | refine below_set ?_ GE360.out) | exact HB.out)⟩
              (try clear HO_3)
              (try clear HO_4)
              (try clear BK355)
              (try clear BK360)
              (try clear HB)
              generalize (((w31.setCell ⟨gb360, 0, none⟩ (.string ((rd_T64 l0_0 x14_1).f0))).setCell ⟨gb360, 1, none⟩ (.bool false)).setCell ⟨gb360, 2, none⟩ (.int .i64 ((rd_T64 l0_0 x14_1).f2))) = w34 at n0_ n1_ n2_ n3_ n4_ ⊢
              have HO_3 := n0_
              have HO_4 := n1_
              have BK355 := n2_
              have BK360 := n3_
              have HB := n4_
              clear n0_ n1_ n2_ n3_ n4_
              have n0_ := aM (Kd.R_drew HO_3.out)
              have n1_ := aM (Kd.R_drew HO_4.out)
              have n2_ := aM (blk_drew BK355.out)
              have n3_ := aM (blk_drew BK360.out)
              have n4_ := aM (below_drew1 HB.out)
              clear HO_3
              clear HO_4
              clear BK355
              clear BK360
              clear HB
              have HO_3 := n0_
              have HO_4 := n1_
              have BK355 := n2_
              have BK360 := n3_
              have HB := n4_
              clear n0_ n1_ n2_ n3_ n4_
              obtain ⟨Ao36, co36, eo36⟩ := Kd.R_slice HO_4.out
              (first | subst eo36 | (injection eo36 with f1_ f2_ f3_; have f4_ := f1_.symm; have f5_ := f3_.symm; clear f1_ f2_ f3_; subst f4_; subst f5_))
              have p361 : 0 ≤ (((rd_T64 l0_0 x14_1).f2) : Int) := of_decide_eq_true (by first | (with_reducible assumption) | assumption)
              have q361 : ((rd_T64 l0_0 x14_1).f2) < (x4_1.length : Int) := of_decide_eq_true (by first | (with_reducible assumption) | assumption)
              obtain ⟨ad361, e361, hx361_0⟩ := Kd.at_string (Kd.R_reads' HO_4.out).2.2 ((rd_T64 l0_0 x14_1).f2) p361 q361
              cases e361
              replace p361 := eq_true p361
              replace q361 := eq_true q361
              have p17 : 0 ≤ (x14_1 : Int) := of_decide_eq_true (by first | (with_reducible assumption) | assumption)
              have q17 : (x14_1 : Int) < ((x4_1.length : Int) : Int) := of_decide_eq_true (by first | (with_reducible assumption) | assumption)
              obtain ⟨go17, co17, eo17, gb17, gl17, cl17, HG17⟩ := Kd.R_form HO_4.out (by omega)
              (first | cases eo17 | (injection eo17 with ea_ en_ ec_; (first | subst ea_ | (injection ea_ with ea_; subst ea_)); subst ec_; clear en_))
              have GB17 := aM gb17
              have GG17 := aM HG17
              clear gb17 gl17 HG17
              (first | simp only [add_plain] at hx361_0 | skip)
              obtain ⟨hx17_0, hf17_0⟩ := Kd.R_celln (⟨#[]⟩ : ByteArray) HO_4.out (x14_1 : Int) p17 q17
              replace p17 := eq_true p17
              replace q17 := eq_true q17
              have HP37 := Kd.R_putn HO_4.out (x14_1 : Int) ((rdOf ByteArray.empty x4_1 ((rd_T64 l0_0 x14_1).f2)) ++ ((rd_T64 l0_0 x14_1).f0))
              rw [← Ny362.out] at HP37
              have HQ37 := aM HP37
              clear HP37
              refine start_ (n := 12) (S := fun w' => w'.cell? ⟨gb360, 0, none⟩ = some (.string ((rd_T64 l0_0 x14_1).f0)) ∧ w'.cell? ⟨gb360, 1, none⟩ = some (.bool false) ∧ w'.cell? ⟨gb360, 2, none⟩ = some (.int .i64 ((rd_T64 l0_0 x14_1).f2)) ∧ w'.cell? ⟨go17, (((rd_T64 l0_0 x14_1).f2)).toNat, none⟩ = some (.string (rdOf ByteArray.empty x4_1 ((rd_T64 l0_0 x14_1).f2)))) (ds := [11]) (bq 12 0) (by kernel_rfl) rfl (by kernel_rfl) ⟨(blk_cell BK360.out 0).trans rfl, (blk_cell BK360.out 1).trans rfl, (blk_cell BK360.out 2).trans rfl, hx361_0⟩ (fun hHeld => ?_); refine with_tabW spec_l13Names.tab7 spec_l13Names.bits7 (fun HT_ HW_ => ?_)
              generalize w34.drew = w35 at HO_3 HO_4 BK355 BK360 HB GG17 HQ37 hf17_0 hx17_0 hx361_0 hHeld ⊢
              refine pure_ (i := 0) (N := some 21) (v := ?_) (a' := ?_) (bq 12 1) rfl rfl (any_of HT_.out (by kernel_rfl)) (fun _ _ _ h => h) (Or.inl ⟨by rfl, ?_⟩) ?_ ?_; rotate_left; (intro w'; go_simp; (with_reducible rfl)); rotate_left; (simp only [Act.put, zSA, zSB, zSC, i64_w, i32_w]; rfl)
              refine pure_ (i := 1) (N := some 22) (v := ?_) (a' := ?_) (bq 12 3) rfl rfl (any_of HT_.out (by kernel_rfl)) (fun _ _ _ h => h) (Or.inl ⟨by rfl, ?_⟩) ?_ ?_; rotate_left; (intro w'; go_simp; (with_reducible rfl)); rotate_left; (simp only [Act.put, zSA, zSB, zSC, i64_w, i32_w]; rfl)
              refine pure_ (i := 2) (N := some 23) (v := ?_) (a' := ?_) (bq 12 7) rfl rfl (any_of HT_.out (by kernel_rfl)) (fun _ _ _ h => h) (Or.inl ⟨by rfl, ?_⟩) ?_ ?_; rotate_left; (intro w'; go_simp; (with_reducible rfl)); rotate_left; (simp only [Act.put, zSA, zSB, zSC, i64_w, i32_w]; rfl)
              refine pure_ (i := 3) (N := some 24) (v := ?_) (a' := ?_) (bq 12 15) rfl rfl (any_of HT_.out (by kernel_rfl)) (fun _ _ _ h => h) (Or.inl ⟨by rfl, ?_⟩) ?_ ?_; rotate_left; (intro w'; go_simp; (with_reducible rfl)); rotate_left; (simp only [Act.put, zSA, zSB, zSC, i64_w, i32_w]; rfl)
              refine pure_ (i := 7) (N := some 28) (v := ?_) (a' := ?_) (bq 12 143) rfl rfl (any_of HT_.out (by kernel_rfl)) (fun _ _ _ h => h) (Or.inl ⟨by rfl, ?_⟩) ?_ ?_; rotate_left; (intro w'; go_simp; (with_reducible rfl)); rotate_left; (simp only [Act.put, zSA, zSB, zSC, i64_w, i32_w]; rfl)
              refine take_ (i := 4) (N := some 25) (v := ?_) (a' := ?_) (bq 12 159) rfl rfl (take_ofW HT_.out HW_.out (by kernel_rfl)) (fun _ _ _ h => h) (Or.inl ⟨by rfl, ?_⟩) hHeld ?_ ?_; rotate_left; (rintro w' ⟨s0, s1, s2, s3⟩; go_simp; (with_reducible rfl)); rotate_left; (simp only [Act.put, zSA, zSB, zSC, i64_w, i32_w]; rfl)
              refine pure_ (i := 5) (N := some 26) (v := ?_) (a' := ?_) (bq 12 191) rfl rfl (any_of HT_.out (by kernel_rfl)) (fun _ _ _ h => h) (Or.inl ⟨by rfl, ?_⟩) ?_ ?_; rotate_left; (intro w'; go_simp; (with_reducible rfl)); rotate_left; (simp only [Act.put, zSA, zSB, zSC, i64_w, i32_w]; rfl)
              refine take_ (i := 6) (N := some 27) (v := ?_) (a' := ?_) (bq 12 255) rfl rfl (take_ofW HT_.out HW_.out (by kernel_rfl)) (fun _ _ _ h => h) (Or.inl ⟨by rfl, ?_⟩) hHeld ?_ ?_; rotate_left; (rintro w' ⟨s0, s1, s2, s3⟩; go_simp; (with_reducible rfl)); rotate_left; (simp only [Act.put, zSA, zSB, zSC, i64_w, i32_w]; rfl)
              refine take_ (i := 8) (N := some 29) (v := ?_) (a' := ?_) (bq 12 511) rfl rfl (take_ofW HT_.out HW_.out (by kernel_rfl)) (fun _ _ _ h => h) (Or.inl ⟨by rfl, ?_⟩) hHeld ?_ ?_; rotate_left; (rintro w' ⟨s0, s1, s2, s3⟩; go_simp; (with_reducible rfl)); rotate_left; (simp only [Act.put, zSA, zSB, zSC, i64_w, i32_w]; rfl)
              refine pure_ (i := 9) (N := some 30) (v := ?_) (a' := ?_) (bq 12 1023) rfl rfl (any_of HT_.out (by kernel_rfl)) (fun _ _ _ h => h) (Or.inl ⟨by rfl, ?_⟩) ?_ ?_; rotate_left; (intro w'; go_simp; (with_reducible rfl)); rotate_left; (simp only [Act.put, zSA, zSB, zSC, i64_w, i32_w]; rfl)
              refine pure_ (i := 10) (N := some 31) (v := ?_) (a' := ?_) (bq 12 2047) rfl rfl (any_of HT_.out (by kernel_rfl)) (fun _ _ _ h => h) (Or.inl ⟨by rfl, ?_⟩) ?_ ?_; rotate_left; (intro w'; go_simp; (with_reducible rfl)); rotate_left; (simp only [Act.put, zSA, zSB, zSC, i64_w, i32_w]; rfl)
              refine last_ (i := 11) (N := none) #[true, true, true, true, true, true, true, true, true, true, true, true] rfl rfl (one_of HT_.out (by kernel_rfl)) (by decide) (fun K hK => ?_)
              refine skip_ (w1 := ?_) (by rfl) rfl ?_ ?_
              rotate_left
              ·
               go_simp
               rfl
              refine hK.out _ _ ?_
              clear hK K
              refine done_ (done_of HT_.out (by kernel_rfl)) ?_
              try have hnz38 : ¬ gb360 = go17 := fun e_ => Kd.R_ne HO_4.out BK360.out (by decide) (by rw [e_]; rfl)
              try have hmz38 : ¬ go17 = gb360 := fun e_ => hnz38 e_.symm
              have hcz38_0 : w35.cell? ⟨gb360, 0, none⟩ = some (.string ((rd_T64 l0_0 x14_1).f0)) := (blk_cell BK360.out 0).trans rfl
              have hcz38_1 : w35.cell? ⟨gb360, 1, none⟩ = some (.bool false) := (blk_cell BK360.out 1).trans rfl
              have hcz38_2 : w35.cell? ⟨gb360, 2, none⟩ = some (.int .i64 ((rd_T64 l0_0 x14_1).f2)) := (blk_cell BK360.out 2).trans rfl
              have hfz38_0 := blk_frozen BK360.out 0
              have hfz38_1 := blk_frozen BK360.out 1
              have hfz38_2 := blk_frozen BK360.out 2
              try go_wp2
              go_roundg k1
              case measure => have := HK1.out; omega
              case rel => exact ⟨(x3_1), (y362), (wrap64 (x14_1 + 1)), (by first | rfl | (simp; done) | (simp [*]; done)), H', ⟨by have := HK1.out; omega⟩, ⟨by (with_reducible repeat (first | apply Kd.R_alloc | apply Kd.R_drewN | apply Kd.R_drew)); exact Kd.R_mono (Kd.R_far (p := ⟨go17, (x14_1 : Int).toNat, none⟩) (Kd.R_mono HO_3.out (fun k_ hk => (⟨hk, fun e_ => hk (by rw [e_]; rfl)⟩ : _ ∧ k_ ≠ go17))) (fun _ hk => hk.2) (.string ((rdOf ByteArray.empty x4_1 ((rd_T64 l0_0 x14_1).f2)) ++ ((rd_T64 l0_0 x14_1).f0)))) (fun _ hk => hk.1)⟩, ⟨by (with_reducible repeat (first | apply Kd.R_alloc | apply Kd.R_drewN | apply Kd.R_drew)); exact HQ37.out⟩, ⟨by (with_reducible repeat (first | refine blk_drewN ?_ _ | refine blk_drew ?_ | refine blk_alloc ?_ _)); refine blk_far ?_ (by have h_ := Kd.R_ne HO_4.out BK355.out (by decide); intro e_; exact h_ (by rw [e_]; rfl)) _; (with_reducible repeat (first | refine blk_drewN ?_ _ | refine blk_drew ?_ | refine blk_alloc ?_ _)); exact BK355.out⟩, ⟨by repeat (first | (with_reducible first | exact HB.out | apply below_alloc | apply pw_below_drewN | apply below_drew1 | refine below_set ?_ GB17.out | refine below_set ?_ GE355.out | refine below_set ?_ GE360.out) | exact HB.out)⟩⟩
            ·
             rw [if_neg c16] at H
             exact absurd H (by simp)
           ·
            rw [if_neg c15] at H
            exact absurd H (by simp)
          ·
           rw [if_neg c14] at H
           exact absurd H (by simp)
         ·
          rw [if_neg c13] at H
          exact absurd H (by simp)
        ·
         rw [if_neg c12] at H
         have c12b0 : decide (0 < x14_1) = false := decide_eq_false c12
         clear c12
         obtain ⟨bq39, hbq39⟩ : ∃ b_ : Bool, b_ = ((rd_T64 l0_0 x14_1).f1) := ⟨_, rfl⟩
         replace H : (if bq39 = true then (if x14_1 < (x4_1.length : Int) then (if x3_1.length < 8796093022208 then (spec_l13Names.l0 k1 (x3_1 ++ [rdOf ByteArray.empty x4_1 x14_1]) x4_1 l0_0 (l0_0.length : Int) (wrap64 (x14_1 + 1))) else (none)) else (none)) else (spec_l13Names.l0 k1 x3_1 x4_1 l0_0 (l0_0.length : Int) (wrap64 (x14_1 + 1)))) = some r := by rw [← hbq39] at H; exact H
         have Nbq39 := aM hbq39
         clear hbq39
         by_cases c40 : bq39 = true
         ·
          subst c40
          have H1 : (if x14_1 < (x4_1.length : Int) then (if x3_1.length < 8796093022208 then (spec_l13Names.l0 k1 (x3_1 ++ [rdOf ByteArray.empty x4_1 x14_1]) x4_1 l0_0 (l0_0.length : Int) (wrap64 (x14_1 + 1))) else (none)) else (none)) = some r := by rw [if_pos rfl] at H; exact H
          clear H
          have H := H1
          clear H1
          by_cases c41 : x14_1 < (x4_1.length : Int)
          ·
           rw [if_pos c41] at H
           have c41b0 : decide (x14_1 < (x4_1.length : Int)) = true := decide_eq_true c41
           clear c41
           by_cases c42 : x3_1.length < 8796093022208
           ·
            rw [if_pos c42] at H
            have LMc42 := aM c42
            clear c42
            obtain ⟨y368, hy368⟩ : ∃ y_ : List ByteArray, y_ = (x3_1 ++ [rdOf ByteArray.empty x4_1 x14_1]) := ⟨_, rfl⟩
            replace H : (spec_l13Names.l0 k1 y368 x4_1 l0_0 (l0_0.length : Int) (wrap64 (x14_1 + 1))) = some r := by first | (rw [hy368]; with_reducible exact H) | (have H2_ := (Option.bind_some _ _).symm.trans H; rw [hy368]; with_reducible exact H2_) | (have H2_ := (Option.bind_some _ _).symm.trans H; with_reducible exact H2_) | with_reducible exact H | (rw [hy368]; exact H) | exact H
            have Ny368 := aM hy368
            clear hy368
            have H' := aM H
            clear H
            have p359 : 0 ≤ (x14_1 : Int) := of_decide_eq_true (by first | (with_reducible assumption) | assumption)
            have q359 : x14_1 < (l0_0.length : Int) := of_decide_eq_true (by first | (with_reducible assumption) | assumption)
            obtain ⟨ad359, e359, hx359_0, hx359_1, hx359_2⟩ := at_T64 HR0_0.out x14_1 p359 q359
            (try rw [← Nbq39.out] at hx359_1)
            cases e359
            try have hz_hx359_0 := aM hx359_0
            try have hz_hx359_1 := aM hx359_1
            try have hz_hx359_2 := aM hx359_2
            replace hx359_0 := (HB.out.cell (World.block_lt_of_cell? w _ hx359_0)).trans hx359_0
            replace hx359_1 := (HB.out.cell (World.block_lt_of_cell? w _ hx359_1)).trans hx359_1
            replace hx359_2 := (HB.out.cell (World.block_lt_of_cell? w _ hx359_2)).trans hx359_2
            replace p359 := eq_true p359
            replace q359 := eq_true q359
            go_wp2_with (first | ((with_reducible refine gate_dst (N := 6) rfl ?_); refine box_event ?hg (N := 6) ?hd (cs := #[.string (⟨#[]⟩ : ByteArray), .bool false, .int .i64 0]) (t := 64) ?hr ?_; (case hd => rfl); (case hg => rfl); (case hr => first | (go_simp; done) | (go_simp; rfl)); intro gb360 hg w43 hbox hb; have n0_ := aM (Kd.R_below (by (with_reducible repeat (first | apply Kd.R_alloc | apply Kd.R_drewN | apply Kd.R_drew)); exact HO_3.out) hb); have n1_ := aM (Kd.R_below (by (with_reducible repeat (first | apply Kd.R_alloc | apply Kd.R_drewN | apply Kd.R_drew)); exact HO_4.out) hb); have n2_ := aM (blk_below (g := gb355) (o := .cells #[.slice (some ad359) l0_0.length c0_0] 26 (0, 0)) (by (with_reducible repeat (first | refine blk_drewN ?_ _ | refine blk_drew ?_ | refine blk_alloc ?_ _)); exact BK355.out) hb); have n3_ := aM (below_step (by repeat (first | (with_reducible first | exact HB.out | apply below_alloc | apply pw_below_drewN | apply below_drew1 | refine below_set ?_ GE355.out) | exact HB.out)) hb); have n4_ := aM (hbox); have n5_ := aM ((by rw [hg]; exact (below_size (by repeat (first | (with_reducible first | exact HB.out | apply below_alloc | apply pw_below_drewN | apply below_drew1 | refine below_set ?_ GE355.out) | exact HB.out))) : w.heap.size ≤ gb360)); have n6_ := aM ((by rw [hg]; exact (below_size (by repeat (first | (with_reducible first | exact HB.out | apply below_alloc | apply pw_below_drewN | apply below_drew1 | refine below_set ?_ GE355.out) | exact HB.out))) : w.heap.size ≤ gb360)); have n7_ := aM ((by rw [hg]; exact Nat.ne_of_lt (blk_lt (g := gb355) (o := .cells #[.slice (some ad359) l0_0.length c0_0] 26 (0, 0)) (by (with_reducible repeat (first | refine blk_drewN ?_ _ | refine blk_drew ?_ | refine blk_alloc ?_ _)); exact BK355.out)) : gb355 ≠ gb360)); have n8_ := aM ((by rw [hg]; exact Nat.ne_of_gt (blk_lt (g := gb355) (o := .cells #[.slice (some ad359) l0_0.length c0_0] 26 (0, 0)) (by (with_reducible repeat (first | refine blk_drewN ?_ _ | refine blk_drew ?_ | refine blk_alloc ?_ _)); exact BK355.out)) : gb360 ≠ gb355)); clear HO_3; clear HO_4; clear BK355; clear HB; have HO_3 := n0_; have HO_4 := n1_; have BK355 := n2_; have HB := n3_; have BK360 := n4_; have GW360 := n5_; have GE360 := n6_; have NB355_360 := n7_; have NB360_355 := n8_; clear n0_ n1_ n2_ n3_ n4_ n5_ n6_ n7_ n8_; clear hb hbox hg; have hnb44 := NB360_355.out; have hnc44 := NB355_360.out; have hcz45_0 : w43.cell? ⟨gb360, 0, none⟩ = some (.string (⟨#[]⟩ : ByteArray)) := (blk_cell BK360.out 0).trans rfl; have hcz45_1 : w43.cell? ⟨gb360, 1, none⟩ = some (.bool false) := (blk_cell BK360.out 1).trans rfl; have hcz45_2 : w43.cell? ⟨gb360, 2, none⟩ = some (.int .i64 0) := (blk_cell BK360.out 2).trans rfl; have hfz45_0 := blk_frozen BK360.out 0; have hfz45_1 := blk_frozen BK360.out 1; have hfz45_2 := blk_frozen BK360.out 2; obtain ⟨Ao46, co46, eo46⟩ := Kd.R_slice HO_4.out; subst eo46; have p367 : 0 ≤ (x14_1 : Int) := of_decide_eq_true (by first | (with_reducible assumption) | assumption); have q367 : x14_1 < (x4_1.length : Int) := of_decide_eq_true (by first | (with_reducible assumption) | assumption); obtain ⟨ad367, e367, hx367_0⟩ := Kd.at_string (Kd.R_reads' HO_4.out).2.2 x14_1 p367 q367; cases e367; have hn367_0 : ad367.block ≠ gb360 := (by first | exact Kd.own_blk (Kd.R_ne HO_4.out BK360.out (by decide)) | exact (HO_4.out.1 _ rfl).2); have hn367_1 : ad367.block ≠ gb360 := (by first | exact Kd.own_blk (Kd.R_ne HO_4.out BK360.out (by decide)) | exact (HO_4.out.1 _ rfl).2); have hn367_2 : ad367.block ≠ gb360 := (by first | exact Kd.own_blk (Kd.R_ne HO_4.out BK360.out (by decide)) | exact (HO_4.out.1 _ rfl).2); replace hx367_0 := (cell_far (p := ⟨gb360, 0, none⟩) (by first | (rw [add_block]; exact hn367_0) | (show (Addr.add _ _).block ≠ _; rw [add_block]; exact hn367_0) | exact hn367_0) (.string ((rd_T64 l0_0 x14_1).f0))).trans hx367_0; replace hx367_0 := (cell_far (p := ⟨gb360, 1, none⟩) (by first | (rw [add_block]; exact hn367_1) | (show (Addr.add _ _).block ≠ _; rw [add_block]; exact hn367_1) | exact hn367_1) (.bool true)).trans hx367_0; replace hx367_0 := (cell_far (p := ⟨gb360, 2, none⟩) (by first | (rw [add_block]; exact hn367_2) | (show (Addr.add _ _).block ≠ _; rw [add_block]; exact hn367_2) | exact hn367_2) (.int .i64 ((rd_T64 l0_0 x14_1).f2))).trans hx367_0; clear hn367_0; clear hn367_1; clear hn367_2; replace p367 := eq_true p367; replace q367 := eq_true q367) | ((with_reducible refine gate_builtin (b := .append) (xs := #[.tmp 34, .tmp 39]) rfl ?_); at_builtin; refine Kd.R_append Kd.string (w0 := w) w.heap.size rfl (.tmp 34) (.tmp 39) 22 9 (.string ⟨#[]⟩) 16 rfl Try.underlying22 info9 rfl (by decide) (by omega) u3 x3_1 (rdOf ByteArray.empty x4_1 x14_1) [.string (rdOf ByteArray.empty x4_1 x14_1)] (fun k_ => some k_ ≠ (.slice (some ad367) x4_1.length co46 : Value).ownBlock) (fun _ => False) rfl (by first | (go_simp; done) | (go_simp; rfl)) ?aP (fun _ hk => hk.elim) ?aF ?aO ?aB ?aS ?aL ?_; (case aP => exact rfl); (case aB => exact (by repeat (first | (with_reducible first | exact HB.out | apply below_alloc | apply pw_below_drewN | apply below_drew1 | refine below_set ?_ GE355.out | refine below_set ?_ GE360.out) | exact HB.out))); (case aF => exact (fun k_ hk => Kd.fresh' (Kd.R_lt (by (with_reducible repeat (first | apply Kd.R_alloc | apply Kd.R_drewN | apply Kd.R_drew)); exact (Kd.R_mono (Kd.R_far (p := ⟨gb360, 2, none⟩) (Kd.R_far (p := ⟨gb360, 1, none⟩) (Kd.R_far (p := ⟨gb360, 0, none⟩) (Kd.R_types HO_4.out BK360.out (by decide)) (fun _ hk => hk.2) (.string ((rd_T64 l0_0 x14_1).f0))) (fun _ hk => hk.2) (.bool true)) (fun _ hk => hk.2) (.int .i64 ((rd_T64 l0_0 x14_1).f2))) (fun _ h_ => h_.1)))) k_ hk)); (case aO => exact (by (with_reducible repeat (first | apply Kd.R_alloc | apply Kd.R_drewN | apply Kd.R_drew)); exact Kd.R_mono (Kd.R_far (p := ⟨gb360, 2, none⟩) (Kd.R_far (p := ⟨gb360, 1, none⟩) (Kd.R_far (p := ⟨gb360, 0, none⟩) (Kd.R_types HO_3.out BK360.out (by decide)) (fun _ hk => hk.2) (.string ((rd_T64 l0_0 x14_1).f0))) (fun _ hk => hk.2) (.bool true)) (fun _ hk => hk.2) (.int .i64 ((rd_T64 l0_0 x14_1).f2))) (fun _ hk => hk.1))); (case aS => exact (below_size (by repeat (first | (with_reducible first | exact HB.out | apply below_alloc | apply pw_below_drewN | apply below_drew1 | refine below_set ?_ GE355.out | refine below_set ?_ GE360.out) | exact HB.out)))); (case aL => have := LMc42.out; omega); intro v369 w47 ho hb hg hat; rw [← Ny368.out] at ho; have n0_ := aM (Kd.R_after (ok := (fun _ => True)) (by (with_reducible repeat (first | apply Kd.R_alloc | apply Kd.R_drewN | apply Kd.R_drew)); exact Kd.R_mono (Kd.R_far (p := ⟨gb360, 2, none⟩) (Kd.R_far (p := ⟨gb360, 1, none⟩) (Kd.R_far (p := ⟨gb360, 0, none⟩) (Kd.R_types HO_4.out BK360.out (by decide)) (fun _ hk => hk.2) (.string ((rd_T64 l0_0 x14_1).f0))) (fun _ hk => hk.2) (.bool true)) (fun _ hk => hk.2) (.int .i64 ((rd_T64 l0_0 x14_1).f2))) (fun _ hk => ⟨trivial, hk.1⟩)) hg hat); have n1_ := aM (blk_grown (g := gb355) (o := .cells #[.slice (some ad359) l0_0.length c0_0] 26 (0, 0)) (by (with_reducible repeat (first | refine blk_drewN ?_ _ | refine blk_drew ?_ | refine blk_alloc ?_ _)); refine blk_far ?_ NB355_360.out _; (with_reducible repeat (first | refine blk_drewN ?_ _ | refine blk_drew ?_ | refine blk_alloc ?_ _)); refine blk_far ?_ NB355_360.out _; (with_reducible repeat (first | refine blk_drewN ?_ _ | refine blk_drew ?_ | refine blk_alloc ?_ _)); refine blk_far ?_ NB355_360.out _; (with_reducible repeat (first | refine blk_drewN ?_ _ | refine blk_drew ?_ | refine blk_alloc ?_ _)); exact BK355.out) hg (Kd.R_ne HO_3.out BK355.out (by decide))); have n2_ := aM (blk_grown (g := gb360) (o := .cells #[.string ((rd_T64 l0_0 x14_1).f0), .bool true, .int .i64 ((rd_T64 l0_0 x14_1).f2)] 64 (0, 0)) (by (with_reducible repeat (first | refine blk_drewN ?_ _ | refine blk_drew ?_ | refine blk_alloc ?_ _)); refine blk_put (cs := #[.string ((rd_T64 l0_0 x14_1).f0), .bool true, .int .i64 0]) ?_ 2 _ rfl; (with_reducible repeat (first | refine blk_drewN ?_ _ | refine blk_drew ?_ | refine blk_alloc ?_ _)); refine blk_put (cs := #[.string ((rd_T64 l0_0 x14_1).f0), .bool false, .int .i64 0]) ?_ 1 _ rfl; (with_reducible repeat (first | refine blk_drewN ?_ _ | refine blk_drew ?_ | refine blk_alloc ?_ _)); refine blk_put (cs := #[.string (⟨#[]⟩ : ByteArray), .bool false, .int .i64 0]) ?_ 0 _ rfl; (with_reducible repeat (first | refine blk_drewN ?_ _ | refine blk_drew ?_ | refine blk_alloc ?_ _)); exact BK360.out) hg (Kd.R_ne HO_3.out BK360.out (by decide))); have n3_ := aM (hb); have n4_ := aM (ho); clear HO_4; clear BK355; clear BK360; clear HB; clear HO_3; have HO_4 := n0_; have BK355 := n1_; have BK360 := n2_; have HB := n3_; have HO370 := n4_; clear n0_ n1_ n2_ n3_ n4_; clear ho hb hg hat))
            go_roundg k1
            case measure => have := HK1.out; omega
            case rel => exact ⟨(y368), (x4_1), (wrap64 (x14_1 + 1)), (by first | rfl | (simp; done) | (simp [*]; done)), H', ⟨by have := HK1.out; omega⟩, ⟨by (with_reducible repeat (first | apply Kd.R_alloc | apply Kd.R_drewN | apply Kd.R_drew)); exact HO370.out⟩, ⟨by (with_reducible repeat (first | apply Kd.R_alloc | apply Kd.R_drewN | apply Kd.R_drew)); exact Kd.R_mono HO_4.out (fun _ hk => hk.2)⟩, ⟨by (with_reducible repeat (first | refine blk_drewN ?_ _ | refine blk_drew ?_ | refine blk_alloc ?_ _)); exact BK355.out⟩, ⟨by repeat (first | (with_reducible first | exact HB.out | apply below_alloc | apply pw_below_drewN | apply below_drew1 | refine below_set ?_ GE355.out | refine below_set ?_ GE360.out) | exact HB.out)⟩⟩
           ·
            rw [if_neg c42] at H
            exact absurd H (by simp)
          ·
           rw [if_neg c41] at H
           exact absurd H (by simp)
         ·
          replace c40 := Bool.eq_false_iff.mpr c40
          subst c40
          have H1 : (spec_l13Names.l0 k1 x3_1 x4_1 l0_0 (l0_0.length : Int) (wrap64 (x14_1 + 1))) = some r := by rw [if_neg (show ¬ (false = true) by decide)] at H; exact H
          clear H
          have H := H1
          clear H1
          have H' := aM H
          clear H
          have p359 : 0 ≤ (x14_1 : Int) := of_decide_eq_true (by first | (with_reducible assumption) | assumption)
          have q359 : x14_1 < (l0_0.length : Int) := of_decide_eq_true (by first | (with_reducible assumption) | assumption)
          obtain ⟨ad359, e359, hx359_0, hx359_1, hx359_2⟩ := at_T64 HR0_0.out x14_1 p359 q359
          (try rw [← Nbq39.out] at hx359_1)
          cases e359
          try have hz_hx359_0 := aM hx359_0
          try have hz_hx359_1 := aM hx359_1
          try have hz_hx359_2 := aM hx359_2
          replace hx359_0 := (HB.out.cell (World.block_lt_of_cell? w _ hx359_0)).trans hx359_0
          replace hx359_1 := (HB.out.cell (World.block_lt_of_cell? w _ hx359_1)).trans hx359_1
          replace hx359_2 := (HB.out.cell (World.block_lt_of_cell? w _ hx359_2)).trans hx359_2
          replace p359 := eq_true p359
          replace q359 := eq_true q359
          go_wp2_with (first | ((with_reducible refine gate_dst (N := 6) rfl ?_); refine box_event ?hg (N := 6) ?hd (cs := #[.string (⟨#[]⟩ : ByteArray), .bool false, .int .i64 0]) (t := 64) ?hr ?_; (case hd => rfl); (case hg => rfl); (case hr => first | (go_simp; done) | (go_simp; rfl)); intro gb360 hg w48 hbox hb; have n0_ := aM (Kd.R_below (by (with_reducible repeat (first | apply Kd.R_alloc | apply Kd.R_drewN | apply Kd.R_drew)); exact HO_3.out) hb); have n1_ := aM (Kd.R_below (by (with_reducible repeat (first | apply Kd.R_alloc | apply Kd.R_drewN | apply Kd.R_drew)); exact HO_4.out) hb); have n2_ := aM (blk_below (g := gb355) (o := .cells #[.slice (some ad359) l0_0.length c0_0] 26 (0, 0)) (by (with_reducible repeat (first | refine blk_drewN ?_ _ | refine blk_drew ?_ | refine blk_alloc ?_ _)); exact BK355.out) hb); have n3_ := aM (below_step (by repeat (first | (with_reducible first | exact HB.out | apply below_alloc | apply pw_below_drewN | apply below_drew1 | refine below_set ?_ GE355.out) | exact HB.out)) hb); have n4_ := aM (hbox); have n5_ := aM ((by rw [hg]; exact (below_size (by repeat (first | (with_reducible first | exact HB.out | apply below_alloc | apply pw_below_drewN | apply below_drew1 | refine below_set ?_ GE355.out) | exact HB.out))) : w.heap.size ≤ gb360)); have n6_ := aM ((by rw [hg]; exact (below_size (by repeat (first | (with_reducible first | exact HB.out | apply below_alloc | apply pw_below_drewN | apply below_drew1 | refine below_set ?_ GE355.out) | exact HB.out))) : w.heap.size ≤ gb360)); have n7_ := aM ((by rw [hg]; exact Nat.ne_of_lt (blk_lt (g := gb355) (o := .cells #[.slice (some ad359) l0_0.length c0_0] 26 (0, 0)) (by (with_reducible repeat (first | refine blk_drewN ?_ _ | refine blk_drew ?_ | refine blk_alloc ?_ _)); exact BK355.out)) : gb355 ≠ gb360)); have n8_ := aM ((by rw [hg]; exact Nat.ne_of_gt (blk_lt (g := gb355) (o := .cells #[.slice (some ad359) l0_0.length c0_0] 26 (0, 0)) (by (with_reducible repeat (first | refine blk_drewN ?_ _ | refine blk_drew ?_ | refine blk_alloc ?_ _)); exact BK355.out)) : gb360 ≠ gb355)); clear HO_3; clear HO_4; clear BK355; clear HB; have HO_3 := n0_; have HO_4 := n1_; have BK355 := n2_; have HB := n3_; have BK360 := n4_; have GW360 := n5_; have GE360 := n6_; have NB355_360 := n7_; have NB360_355 := n8_; clear n0_ n1_ n2_ n3_ n4_ n5_ n6_ n7_ n8_; clear hb hbox hg; have hnb49 := NB360_355.out; have hnc49 := NB355_360.out; have hcz50_0 : w48.cell? ⟨gb360, 0, none⟩ = some (.string (⟨#[]⟩ : ByteArray)) := (blk_cell BK360.out 0).trans rfl; have hcz50_1 : w48.cell? ⟨gb360, 1, none⟩ = some (.bool false) := (blk_cell BK360.out 1).trans rfl; have hcz50_2 : w48.cell? ⟨gb360, 2, none⟩ = some (.int .i64 0) := (blk_cell BK360.out 2).trans rfl; have hfz50_0 := blk_frozen BK360.out 0; have hfz50_1 := blk_frozen BK360.out 1; have hfz50_2 := blk_frozen BK360.out 2))
          go_roundg k1
          case measure => have := HK1.out; omega
          case rel => exact ⟨(x3_1), (x4_1), (wrap64 (x14_1 + 1)), (by first | rfl | (simp; done) | (simp [*]; done)), H', ⟨by have := HK1.out; omega⟩, ⟨by (with_reducible repeat (first | apply Kd.R_alloc | apply Kd.R_drewN | apply Kd.R_drew)); exact Kd.R_mono (Kd.R_far (p := ⟨gb360, 2, none⟩) (Kd.R_far (p := ⟨gb360, 1, none⟩) (Kd.R_far (p := ⟨gb360, 0, none⟩) (Kd.R_types HO_3.out BK360.out (by decide)) (fun _ hk => hk.2) (.string ((rd_T64 l0_0 x14_1).f0))) (fun _ hk => hk.2) (.bool false)) (fun _ hk => hk.2) (.int .i64 ((rd_T64 l0_0 x14_1).f2))) (fun _ hk => hk.1)⟩, ⟨by (with_reducible repeat (first | apply Kd.R_alloc | apply Kd.R_drewN | apply Kd.R_drew)); exact Kd.R_mono (Kd.R_far (p := ⟨gb360, 2, none⟩) (Kd.R_far (p := ⟨gb360, 1, none⟩) (Kd.R_far (p := ⟨gb360, 0, none⟩) (Kd.R_types HO_4.out BK360.out (by decide)) (fun _ hk => hk.2) (.string ((rd_T64 l0_0 x14_1).f0))) (fun _ hk => hk.2) (.bool false)) (fun _ hk => hk.2) (.int .i64 ((rd_T64 l0_0 x14_1).f2))) (fun _ hk => hk.1)⟩, ⟨by (with_reducible repeat (first | refine blk_drewN ?_ _ | refine blk_drew ?_ | refine blk_alloc ?_ _)); refine blk_far ?_ NB355_360.out _; (with_reducible repeat (first | refine blk_drewN ?_ _ | refine blk_drew ?_ | refine blk_alloc ?_ _)); refine blk_far ?_ NB355_360.out _; (with_reducible repeat (first | refine blk_drewN ?_ _ | refine blk_drew ?_ | refine blk_alloc ?_ _)); refine blk_far ?_ NB355_360.out _; (with_reducible repeat (first | refine blk_drewN ?_ _ | refine blk_drew ?_ | refine blk_alloc ?_ _)); exact BK355.out⟩, ⟨by repeat (first | (with_reducible first | exact HB.out | apply below_alloc | apply pw_below_drewN | apply below_drew1 | refine below_set ?_ GE355.out | refine below_set ?_ GE360.out) | exact HB.out)⟩⟩
       ·
        rw [if_neg c11] at H
        exact absurd H (by simp)
      ·
       rw [if_neg c10] at H
       exact absurd H (by simp)
     ·
      rw [if_neg c9] at H
      have c9b0 : decide (x14_1 < (l0_0.length : Int)) = false := decide_eq_false c9
      clear c9
      obtain rfl := Option.some.inj H
      go_wp2
      go_ret
      exact ⟨_, by first | rfl | (simp [errW_none, errW_some] <;> rfl) | (simp [*, errW_none, errW_some] <;> rfl), by (with_reducible repeat (first | apply Kd.R_alloc | apply Kd.R_drewN | apply Kd.R_drew)); exact Kd.R_mono HO_3.out (fun _ hk => trivial), by repeat (first | (with_reducible first | exact HB.out | apply below_alloc | apply pw_below_drewN | apply below_drew1 | refine below_set ?_ GE355.out) | exact HB.out)⟩
  ·
   rw [if_neg c3] at H
   exact absurd H (by simp)
 ·
  rw [if_neg c2] at H
  exact absurd H (by simp)

def laws_eqEdge.f (a0_0 : ByteArray) (a0_1 : Bool) (a0_2 : Int) (a1_0 : ByteArray) (a1_1 : Bool) (a1_2 : Int) : Option (Bool) := if a0_0.toList = a1_0.toList then (if (a0_1 != a1_1) = true then (some false) else (if a0_2 = a1_2 then (some true) else (some false))) else (some false)
set_option maxHeartbeats 8000000 in
set_option maxRecDepth 100000 in
theorem laws_eqEdge.calls (a0_0 : ByteArray) (a0_1 : Bool) (a0_2 : Int) (a1_0 : ByteArray) (a1_1 : Bool) (a1_2 : Int) (r : Bool) (w : World) (h : laws_eqEdge.f a0_0 a0_1 a0_2 a1_0 a1_1 a1_2 = some r) :
  Calls Try.prog 73 #[.agg #[.string a0_0, .bool a0_1, .int .i64 a0_2], .agg #[.string a1_0, .bool a1_1, .int .i64 a1_2]] w fun e w' => e = .returned (.bool r) ∧ Below w.heap.size w w' := by
 have hu64 := Try.underlying64
 have HB := aM (Below.refl w.heap.size w)
 have H : (if a0_0.toList = a1_0.toList then (if (a0_1 != a1_1) = true then (some false) else (if a0_2 = a1_2 then (some true) else (some false))) else (some false)) = some r := h
 clear h
 by_cases c3 : a0_0.toList = a1_0.toList
 ·
  rw [if_pos c3] at H
  have c3b0 : (a0_0.toList == a1_0.toList) = true := beq_iff_eq.mpr c3
  have c3b1 : (a0_0.toList != a1_0.toList) = false := bne_eq_false_iff_eq.mpr c3
  clear c3
  by_cases c4 : (a0_1 != a1_1) = true
  ·
   rw [if_pos c4] at H
   have c4b0 : (a0_1 != a1_1) = true := c4
   (try (have c4b1 : decide (a0_1 = a1_1) = false := by simpa using c4))
   (try (have c4b2 : (a0_1 == a1_1) = false := by simpa using c4))
   (try (have c4b3 : ¬ (a0_1 = a1_1) := by simpa using c4))
   clear c4
   obtain rfl := Option.some.inj H
   go_enter Try.func73, Try.ntmps73
   go_wp2_with (first | ((with_reducible refine gate_dst (N := 2) rfl ?_); refine box_event ?hg (N := 2) ?hd (cs := #[.string a0_0, .bool a0_1, .int .i64 a0_2]) (t := 64) ?hr ?_; (case hd => rfl); (case hg => rfl); (case hr => first | (go_simp; done) | (go_simp; rfl)); intro gb487 hg w5 hbox hb; have n0_ := aM (below_step (by repeat (first | (with_reducible first | exact HB.out | apply below_alloc | apply pw_below_drewN | apply below_drew1) | exact HB.out)) hb); have n1_ := aM (hbox); have n2_ := aM ((by rw [hg]; exact (below_size (by repeat (first | (with_reducible first | exact HB.out | apply below_alloc | apply pw_below_drewN | apply below_drew1) | exact HB.out))) : w.heap.size ≤ gb487)); have n3_ := aM ((by rw [hg]; exact (below_size (by repeat (first | (with_reducible first | exact HB.out | apply below_alloc | apply pw_below_drewN | apply below_drew1) | exact HB.out))) : w.heap.size ≤ gb487)); clear HB; have HB := n0_; have BK487 := n1_; have GW487 := n2_; have GE487 := n3_; clear n0_ n1_ n2_ n3_; clear hb hbox hg) | ((with_reducible refine gate_dst (N := 3) rfl ?_); refine box_event ?hg (N := 3) ?hd (cs := #[.string a1_0, .bool a1_1, .int .i64 a1_2]) (t := 64) ?hr ?_; (case hd => rfl); (case hg => rfl); (case hr => first | (go_simp; done) | (go_simp; rfl)); intro gb488 hg w6 hbox hb; have n0_ := aM (blk_below (g := gb487) (o := .cells #[.string a0_0, .bool a0_1, .int .i64 a0_2] 64 (0, 0)) (by (with_reducible repeat (first | refine blk_drewN ?_ _ | refine blk_drew ?_ | refine blk_alloc ?_ _)); exact BK487.out) hb); have n1_ := aM (below_step (by repeat (first | (with_reducible first | exact HB.out | apply below_alloc | apply pw_below_drewN | apply below_drew1 | refine below_set ?_ GE487.out) | exact HB.out)) hb); have n2_ := aM (hbox); have n3_ := aM ((by rw [hg]; exact (below_size (by repeat (first | (with_reducible first | exact HB.out | apply below_alloc | apply pw_below_drewN | apply below_drew1 | refine below_set ?_ GE487.out) | exact HB.out))) : w.heap.size ≤ gb488)); have n4_ := aM ((by rw [hg]; exact (below_size (by repeat (first | (with_reducible first | exact HB.out | apply below_alloc | apply pw_below_drewN | apply below_drew1 | refine below_set ?_ GE487.out) | exact HB.out))) : w.heap.size ≤ gb488)); have n5_ := aM ((by rw [hg]; exact Nat.ne_of_lt (blk_lt (g := gb487) (o := .cells #[.string a0_0, .bool a0_1, .int .i64 a0_2] 64 (0, 0)) (by (with_reducible repeat (first | refine blk_drewN ?_ _ | refine blk_drew ?_ | refine blk_alloc ?_ _)); exact BK487.out)) : gb487 ≠ gb488)); have n6_ := aM ((by rw [hg]; exact Nat.ne_of_gt (blk_lt (g := gb487) (o := .cells #[.string a0_0, .bool a0_1, .int .i64 a0_2] 64 (0, 0)) (by (with_reducible repeat (first | refine blk_drewN ?_ _ | refine blk_drew ?_ | refine blk_alloc ?_ _)); exact BK487.out)) : gb488 ≠ gb487)); clear BK487; clear HB; have BK487 := n0_; have HB := n1_; have BK488 := n2_; have GW488 := n3_; have GE488 := n4_; have NB487_488 := n5_; have NB488_487 := n6_; clear n0_ n1_ n2_ n3_ n4_ n5_ n6_; clear hb hbox hg; have hnb7 := NB487_488.out; have hnc7 := NB488_487.out; have hcz8_0 : w6.cell? ⟨gb487, 0, none⟩ = some (.string a0_0) := (blk_cell BK487.out 0).trans rfl; have hcz8_1 : w6.cell? ⟨gb487, 1, none⟩ = some (.bool a0_1) := (blk_cell BK487.out 1).trans rfl; have hcz8_2 : w6.cell? ⟨gb487, 2, none⟩ = some (.int .i64 a0_2) := (blk_cell BK487.out 2).trans rfl; have hfz8_0 := blk_frozen BK487.out 0; have hfz8_1 := blk_frozen BK487.out 1; have hfz8_2 := blk_frozen BK487.out 2; have hcz9_0 : w6.cell? ⟨gb488, 0, none⟩ = some (.string a1_0) := (blk_cell BK488.out 0).trans rfl; have hcz9_1 : w6.cell? ⟨gb488, 1, none⟩ = some (.bool a1_1) := (blk_cell BK488.out 1).trans rfl; have hcz9_2 : w6.cell? ⟨gb488, 2, none⟩ = some (.int .i64 a1_2) := (blk_cell BK488.out 2).trans rfl; have hfz9_0 := blk_frozen BK488.out 0; have hfz9_1 := blk_frozen BK488.out 1; have hfz9_2 := blk_frozen BK488.out 2))
   go_ret
   exact ⟨by first | rfl | (simp [errW_none, errW_some] <;> rfl) | (simp [*, errW_none, errW_some] <;> rfl), by repeat (first | (with_reducible first | exact HB.out | apply below_alloc | apply pw_below_drewN | apply below_drew1 | refine below_set ?_ GE487.out | refine below_set ?_ GE488.out) | exact HB.out)⟩
  ·
   rw [if_neg c4] at H
   have c4b0 : (a0_1 != a1_1) = false := by simpa using c4
   (try (have c4b1 : decide (a0_1 = a1_1) = true := by simpa using c4))
   (try (have c4b2 : (a0_1 == a1_1) = true := by simpa using c4))
   clear c4
   by_cases c10 : a0_2 = a1_2
   ·
    rw [if_pos c10] at H
    have c10b0 : (a0_2 == a1_2) = true := beq_iff_eq.mpr c10
    have c10b1 : (a0_2 != a1_2) = false := bne_eq_false_iff_eq.mpr c10
    clear c10
    obtain rfl := Option.some.inj H
    go_enter Try.func73, Try.ntmps73
    go_wp2_with (first | ((with_reducible refine gate_dst (N := 2) rfl ?_); refine box_event ?hg (N := 2) ?hd (cs := #[.string a0_0, .bool a0_1, .int .i64 a0_2]) (t := 64) ?hr ?_; (case hd => rfl); (case hg => rfl); (case hr => first | (go_simp; done) | (go_simp; rfl)); intro gb487 hg w11 hbox hb; have n0_ := aM (below_step (by repeat (first | (with_reducible first | exact HB.out | apply below_alloc | apply pw_below_drewN | apply below_drew1) | exact HB.out)) hb); have n1_ := aM (hbox); have n2_ := aM ((by rw [hg]; exact (below_size (by repeat (first | (with_reducible first | exact HB.out | apply below_alloc | apply pw_below_drewN | apply below_drew1) | exact HB.out))) : w.heap.size ≤ gb487)); have n3_ := aM ((by rw [hg]; exact (below_size (by repeat (first | (with_reducible first | exact HB.out | apply below_alloc | apply pw_below_drewN | apply below_drew1) | exact HB.out))) : w.heap.size ≤ gb487)); clear HB; have HB := n0_; have BK487 := n1_; have GW487 := n2_; have GE487 := n3_; clear n0_ n1_ n2_ n3_; clear hb hbox hg) | ((with_reducible refine gate_dst (N := 3) rfl ?_); refine box_event ?hg (N := 3) ?hd (cs := #[.string a1_0, .bool a1_1, .int .i64 a1_2]) (t := 64) ?hr ?_; (case hd => rfl); (case hg => rfl); (case hr => first | (go_simp; done) | (go_simp; rfl)); intro gb488 hg w12 hbox hb; have n0_ := aM (blk_below (g := gb487) (o := .cells #[.string a0_0, .bool a0_1, .int .i64 a0_2] 64 (0, 0)) (by (with_reducible repeat (first | refine blk_drewN ?_ _ | refine blk_drew ?_ | refine blk_alloc ?_ _)); exact BK487.out) hb); have n1_ := aM (below_step (by repeat (first | (with_reducible first | exact HB.out | apply below_alloc | apply pw_below_drewN | apply below_drew1 | refine below_set ?_ GE487.out) | exact HB.out)) hb); have n2_ := aM (hbox); have n3_ := aM ((by rw [hg]; exact (below_size (by repeat (first | (with_reducible first | exact HB.out | apply below_alloc | apply pw_below_drewN | apply below_drew1 | refine below_set ?_ GE487.out) | exact HB.out))) : w.heap.size ≤ gb488)); have n4_ := aM ((by rw [hg]; exact (below_size (by repeat (first | (with_reducible first | exact HB.out | apply below_alloc | apply pw_below_drewN | apply below_drew1 | refine below_set ?_ GE487.out) | exact HB.out))) : w.heap.size ≤ gb488)); have n5_ := aM ((by rw [hg]; exact Nat.ne_of_lt (blk_lt (g := gb487) (o := .cells #[.string a0_0, .bool a0_1, .int .i64 a0_2] 64 (0, 0)) (by (with_reducible repeat (first | refine blk_drewN ?_ _ | refine blk_drew ?_ | refine blk_alloc ?_ _)); exact BK487.out)) : gb487 ≠ gb488)); have n6_ := aM ((by rw [hg]; exact Nat.ne_of_gt (blk_lt (g := gb487) (o := .cells #[.string a0_0, .bool a0_1, .int .i64 a0_2] 64 (0, 0)) (by (with_reducible repeat (first | refine blk_drewN ?_ _ | refine blk_drew ?_ | refine blk_alloc ?_ _)); exact BK487.out)) : gb488 ≠ gb487)); clear BK487; clear HB; have BK487 := n0_; have HB := n1_; have BK488 := n2_; have GW488 := n3_; have GE488 := n4_; have NB487_488 := n5_; have NB488_487 := n6_; clear n0_ n1_ n2_ n3_ n4_ n5_ n6_; clear hb hbox hg; have hnb13 := NB487_488.out; have hnc13 := NB488_487.out; have hcz14_0 : w12.cell? ⟨gb487, 0, none⟩ = some (.string a0_0) := (blk_cell BK487.out 0).trans rfl; have hcz14_1 : w12.cell? ⟨gb487, 1, none⟩ = some (.bool a0_1) := (blk_cell BK487.out 1).trans rfl; have hcz14_2 : w12.cell? ⟨gb487, 2, none⟩ = some (.int .i64 a0_2) := (blk_cell BK487.out 2).trans rfl; have hfz14_0 := blk_frozen BK487.out 0; have hfz14_1 := blk_frozen BK487.out 1; have hfz14_2 := blk_frozen BK487.out 2; have hcz15_0 : w12.cell? ⟨gb488, 0, none⟩ = some (.string a1_0) := (blk_cell BK488.out 0).trans rfl; have hcz15_1 : w12.cell? ⟨gb488, 1, none⟩ = some (.bool a1_1) := (blk_cell BK488.out 1).trans rfl; have hcz15_2 : w12.cell? ⟨gb488, 2, none⟩ = some (.int .i64 a1_2) := (blk_cell BK488.out 2).trans rfl; have hfz15_0 := blk_frozen BK488.out 0; have hfz15_1 := blk_frozen BK488.out 1; have hfz15_2 := blk_frozen BK488.out 2))
    go_ret
    exact ⟨by first | rfl | (simp [errW_none, errW_some] <;> rfl) | (simp [*, errW_none, errW_some] <;> rfl), by repeat (first | (with_reducible first | exact HB.out | apply below_alloc | apply pw_below_drewN | apply below_drew1 | refine below_set ?_ GE487.out | refine below_set ?_ GE488.out) | exact HB.out)⟩
   ·
    rw [if_neg c10] at H
    have c10b0 : (a0_2 == a1_2) = false := beq_eq_false_iff_ne.mpr c10
    have c10b1 : (a0_2 != a1_2) = true := bne_iff_ne.mpr c10
    obtain rfl := Option.some.inj H
    go_enter Try.func73, Try.ntmps73
    go_wp2_with (first | ((with_reducible refine gate_dst (N := 2) rfl ?_); refine box_event ?hg (N := 2) ?hd (cs := #[.string a0_0, .bool a0_1, .int .i64 a0_2]) (t := 64) ?hr ?_; (case hd => rfl); (case hg => rfl); (case hr => first | (go_simp; done) | (go_simp; rfl)); intro gb487 hg w16 hbox hb; have n0_ := aM (below_step (by repeat (first | (with_reducible first | exact HB.out | apply below_alloc | apply pw_below_drewN | apply below_drew1) | exact HB.out)) hb); have n1_ := aM (hbox); have n2_ := aM ((by rw [hg]; exact (below_size (by repeat (first | (with_reducible first | exact HB.out | apply below_alloc | apply pw_below_drewN | apply below_drew1) | exact HB.out))) : w.heap.size ≤ gb487)); have n3_ := aM ((by rw [hg]; exact (below_size (by repeat (first | (with_reducible first | exact HB.out | apply below_alloc | apply pw_below_drewN | apply below_drew1) | exact HB.out))) : w.heap.size ≤ gb487)); clear HB; have HB := n0_; have BK487 := n1_; have GW487 := n2_; have GE487 := n3_; clear n0_ n1_ n2_ n3_; clear hb hbox hg) | ((with_reducible refine gate_dst (N := 3) rfl ?_); refine box_event ?hg (N := 3) ?hd (cs := #[.string a1_0, .bool a1_1, .int .i64 a1_2]) (t := 64) ?hr ?_; (case hd => rfl); (case hg => rfl); (case hr => first | (go_simp; done) | (go_simp; rfl)); intro gb488 hg w17 hbox hb; have n0_ := aM (blk_below (g := gb487) (o := .cells #[.string a0_0, .bool a0_1, .int .i64 a0_2] 64 (0, 0)) (by (with_reducible repeat (first | refine blk_drewN ?_ _ | refine blk_drew ?_ | refine blk_alloc ?_ _)); exact BK487.out) hb); have n1_ := aM (below_step (by repeat (first | (with_reducible first | exact HB.out | apply below_alloc | apply pw_below_drewN | apply below_drew1 | refine below_set ?_ GE487.out) | exact HB.out)) hb); have n2_ := aM (hbox); have n3_ := aM ((by rw [hg]; exact (below_size (by repeat (first | (with_reducible first | exact HB.out | apply below_alloc | apply pw_below_drewN | apply below_drew1 | refine below_set ?_ GE487.out) | exact HB.out))) : w.heap.size ≤ gb488)); have n4_ := aM ((by rw [hg]; exact (below_size (by repeat (first | (with_reducible first | exact HB.out | apply below_alloc | apply pw_below_drewN | apply below_drew1 | refine below_set ?_ GE487.out) | exact HB.out))) : w.heap.size ≤ gb488)); have n5_ := aM ((by rw [hg]; exact Nat.ne_of_lt (blk_lt (g := gb487) (o := .cells #[.string a0_0, .bool a0_1, .int .i64 a0_2] 64 (0, 0)) (by (with_reducible repeat (first | refine blk_drewN ?_ _ | refine blk_drew ?_ | refine blk_alloc ?_ _)); exact BK487.out)) : gb487 ≠ gb488)); have n6_ := aM ((by rw [hg]; exact Nat.ne_of_gt (blk_lt (g := gb487) (o := .cells #[.string a0_0, .bool a0_1, .int .i64 a0_2] 64 (0, 0)) (by (with_reducible repeat (first | refine blk_drewN ?_ _ | refine blk_drew ?_ | refine blk_alloc ?_ _)); exact BK487.out)) : gb488 ≠ gb487)); clear BK487; clear HB; have BK487 := n0_; have HB := n1_; have BK488 := n2_; have GW488 := n3_; have GE488 := n4_; have NB487_488 := n5_; have NB488_487 := n6_; clear n0_ n1_ n2_ n3_ n4_ n5_ n6_; clear hb hbox hg; have hnb18 := NB487_488.out; have hnc18 := NB488_487.out; have hcz19_0 : w17.cell? ⟨gb487, 0, none⟩ = some (.string a0_0) := (blk_cell BK487.out 0).trans rfl; have hcz19_1 : w17.cell? ⟨gb487, 1, none⟩ = some (.bool a0_1) := (blk_cell BK487.out 1).trans rfl; have hcz19_2 : w17.cell? ⟨gb487, 2, none⟩ = some (.int .i64 a0_2) := (blk_cell BK487.out 2).trans rfl; have hfz19_0 := blk_frozen BK487.out 0; have hfz19_1 := blk_frozen BK487.out 1; have hfz19_2 := blk_frozen BK487.out 2; have hcz20_0 : w17.cell? ⟨gb488, 0, none⟩ = some (.string a1_0) := (blk_cell BK488.out 0).trans rfl; have hcz20_1 : w17.cell? ⟨gb488, 1, none⟩ = some (.bool a1_1) := (blk_cell BK488.out 1).trans rfl; have hcz20_2 : w17.cell? ⟨gb488, 2, none⟩ = some (.int .i64 a1_2) := (blk_cell BK488.out 2).trans rfl; have hfz20_0 := blk_frozen BK488.out 0; have hfz20_1 := blk_frozen BK488.out 1; have hfz20_2 := blk_frozen BK488.out 2))
    go_ret
    exact ⟨by first | rfl | (simp [errW_none, errW_some] <;> rfl) | (simp [*, errW_none, errW_some] <;> rfl), by repeat (first | (with_reducible first | exact HB.out | apply below_alloc | apply pw_below_drewN | apply below_drew1 | refine below_set ?_ GE487.out | refine below_set ?_ GE488.out) | exact HB.out)⟩
 ·
  rw [if_neg c3] at H
  have c3b0 : (a0_0.toList == a1_0.toList) = false := beq_eq_false_iff_ne.mpr c3
  have c3b1 : (a0_0.toList != a1_0.toList) = true := bne_iff_ne.mpr c3
  obtain rfl := Option.some.inj H
  go_enter Try.func73, Try.ntmps73
  go_wp2_with (first | ((with_reducible refine gate_dst (N := 2) rfl ?_); refine box_event ?hg (N := 2) ?hd (cs := #[.string a0_0, .bool a0_1, .int .i64 a0_2]) (t := 64) ?hr ?_; (case hd => rfl); (case hg => rfl); (case hr => first | (go_simp; done) | (go_simp; rfl)); intro gb487 hg w21 hbox hb; have n0_ := aM (below_step (by repeat (first | (with_reducible first | exact HB.out | apply below_alloc | apply pw_below_drewN | apply below_drew1) | exact HB.out)) hb); have n1_ := aM (hbox); have n2_ := aM ((by rw [hg]; exact (below_size (by repeat (first | (with_reducible first | exact HB.out | apply below_alloc | apply pw_below_drewN | apply below_drew1) | exact HB.out))) : w.heap.size ≤ gb487)); have n3_ := aM ((by rw [hg]; exact (below_size (by repeat (first | (with_reducible first | exact HB.out | apply below_alloc | apply pw_below_drewN | apply below_drew1) | exact HB.out))) : w.heap.size ≤ gb487)); clear HB; have HB := n0_; have BK487 := n1_; have GW487 := n2_; have GE487 := n3_; clear n0_ n1_ n2_ n3_; clear hb hbox hg) | ((with_reducible refine gate_dst (N := 3) rfl ?_); refine box_event ?hg (N := 3) ?hd (cs := #[.string a1_0, .bool a1_1, .int .i64 a1_2]) (t := 64) ?hr ?_; (case hd => rfl); (case hg => rfl); (case hr => first | (go_simp; done) | (go_simp; rfl)); intro gb488 hg w22 hbox hb; have n0_ := aM (blk_below (g := gb487) (o := .cells #[.string a0_0, .bool a0_1, .int .i64 a0_2] 64 (0, 0)) (by (with_reducible repeat (first | refine blk_drewN ?_ _ | refine blk_drew ?_ | refine blk_alloc ?_ _)); exact BK487.out) hb); have n1_ := aM (below_step (by repeat (first | (with_reducible first | exact HB.out | apply below_alloc | apply pw_below_drewN | apply below_drew1 | refine below_set ?_ GE487.out) | exact HB.out)) hb); have n2_ := aM (hbox); have n3_ := aM ((by rw [hg]; exact (below_size (by repeat (first | (with_reducible first | exact HB.out | apply below_alloc | apply pw_below_drewN | apply below_drew1 | refine below_set ?_ GE487.out) | exact HB.out))) : w.heap.size ≤ gb488)); have n4_ := aM ((by rw [hg]; exact (below_size (by repeat (first | (with_reducible first | exact HB.out | apply below_alloc | apply pw_below_drewN | apply below_drew1 | refine below_set ?_ GE487.out) | exact HB.out))) : w.heap.size ≤ gb488)); have n5_ := aM ((by rw [hg]; exact Nat.ne_of_lt (blk_lt (g := gb487) (o := .cells #[.string a0_0, .bool a0_1, .int .i64 a0_2] 64 (0, 0)) (by (with_reducible repeat (first | refine blk_drewN ?_ _ | refine blk_drew ?_ | refine blk_alloc ?_ _)); exact BK487.out)) : gb487 ≠ gb488)); have n6_ := aM ((by rw [hg]; exact Nat.ne_of_gt (blk_lt (g := gb487) (o := .cells #[.string a0_0, .bool a0_1, .int .i64 a0_2] 64 (0, 0)) (by (with_reducible repeat (first | refine blk_drewN ?_ _ | refine blk_drew ?_ | refine blk_alloc ?_ _)); exact BK487.out)) : gb488 ≠ gb487)); clear BK487; clear HB; have BK487 := n0_; have HB := n1_; have BK488 := n2_; have GW488 := n3_; have GE488 := n4_; have NB487_488 := n5_; have NB488_487 := n6_; clear n0_ n1_ n2_ n3_ n4_ n5_ n6_; clear hb hbox hg; have hnb23 := NB487_488.out; have hnc23 := NB488_487.out; have hcz24_0 : w22.cell? ⟨gb487, 0, none⟩ = some (.string a0_0) := (blk_cell BK487.out 0).trans rfl; have hcz24_1 : w22.cell? ⟨gb487, 1, none⟩ = some (.bool a0_1) := (blk_cell BK487.out 1).trans rfl; have hcz24_2 : w22.cell? ⟨gb487, 2, none⟩ = some (.int .i64 a0_2) := (blk_cell BK487.out 2).trans rfl; have hfz24_0 := blk_frozen BK487.out 0; have hfz24_1 := blk_frozen BK487.out 1; have hfz24_2 := blk_frozen BK487.out 2; have hcz25_0 : w22.cell? ⟨gb488, 0, none⟩ = some (.string a1_0) := (blk_cell BK488.out 0).trans rfl; have hcz25_1 : w22.cell? ⟨gb488, 1, none⟩ = some (.bool a1_1) := (blk_cell BK488.out 1).trans rfl; have hcz25_2 : w22.cell? ⟨gb488, 2, none⟩ = some (.int .i64 a1_2) := (blk_cell BK488.out 2).trans rfl; have hfz25_0 := blk_frozen BK488.out 0; have hfz25_1 := blk_frozen BK488.out 1; have hfz25_2 := blk_frozen BK488.out 2))
  go_ret
  exact ⟨by first | rfl | (simp [errW_none, errW_some] <;> rfl) | (simp [*, errW_none, errW_some] <;> rfl), by repeat (first | (with_reducible first | exact HB.out | apply below_alloc | apply pw_below_drewN | apply below_drew1 | refine below_set ?_ GE487.out | refine below_set ?_ GE488.out) | exact HB.out)⟩

end Go.Proofs.Ytcngebfcpobnnaa.PQ
end
