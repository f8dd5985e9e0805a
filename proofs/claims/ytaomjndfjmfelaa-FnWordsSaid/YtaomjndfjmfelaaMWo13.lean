/- Several texts in one: what the claim's last text rests on. No conditions. -/
import Derived.Test.YtaomjndfjmfelaaMWo12
import Derived.Test.YtaomjndfjmfelaaMWo11
section
namespace Go.Proofs.Ytaomjndfjmfelaa.EntW
set_option linter.unusedVariables false
set_option linter.unusedSimpArgs false
open Go.RowKit Go.Proofs.Ytaomjndfjmfelaa.PQ Go.Proofs.YtaomjndfjmfelaaW.PrintWords Go.Proofs.YtaomjndfjmfelaaW.PrintLast Go.Proofs.YtaomjndfjmfelaaW.PrintMore Go.Proofs.Ytaomjndfjmfelaa.Pre Go.Proofs.Ytaomjndfjmfelaa.Posts Go.Proofs.Ytaomjndfjmfelaa.GoodW Go.Proofs.Ytaomjndfjmfelaa.CmpL
theorem cl_calls (s t : ByteArray) (A : Option Addr) (n c : Nat) (w : World) : Calls Try.prog 128 #[.agg #[.string s, .slice A n c], .string t] w fun e w' => e = .returned (.int .i64 (cmpS s t)) ∧ Below w.heap.size w w' := by
 have HB := aM (below_alloc (Below.refl w.heap.size w) (.cells #[.string s, .slice A n c] 102))
 go_enter Try.func128, Try.ntmps128
 go_wp2_with (first | (go_at_call 129; go_loud ((with_reducible refine (compare_q s t _).mono ?_); rintro e w2 ⟨rfl, rfl⟩)))
 go_ret
 exact ⟨rfl, HB.out⟩
/-- Entries rise by their words. -/
def Rise (l : List En) : Prop := ∀ i j (hj : j < l.length) (h : i < j), ltS (l[i]'(by omega)).f0 l[j].f0 = true
/-- Where a word stands, or would stand. -/
def At (l : List En) (t : ByteArray) (i : Nat) : Prop := i ≤ l.length ∧ (∀ j (h : j < l.length), j < i → ltS l[j].f0 t = true) ∧ (∀ j (h : j < l.length), i ≤ j → ltS l[j].f0 t = false)
def isAt (l : List En) (t : ByteArray) (i : Nat) : Bool := decide (∃ h : i < l.length, l[i].f0 = t)
theorem cmp_neg (a b : ByteArray) : decide (cmpS a b < 0) = ltS a b := cmp_lt a b
theorem cmp_zero (a b : ByteArray) : (cmpS a b == 0) = decide (a = b) := by
 unfold cmpS
 by_cases h : ltS a b = true
 ·rw [if_pos h]
  have : ¬ a = b := fun e => by rw [e, ltS_irrefl] at h; cases h
  rw [decide_eq_false this]
  rfl
 ·rw [if_neg h]
  by_cases h2 : ltS b a = true
  ·rw [if_pos h2]
   have : ¬ a = b := fun e => by rw [e, ltS_irrefl] at h2; cases h2
   rw [decide_eq_false this]
   rfl
  ·rw [if_neg h2]
   have : a = b := ltS_tri (Bool.eq_false_iff.2 h) (Bool.eq_false_iff.2 h2)
   rw [decide_eq_true this]
   rfl
theorem mid_eq (i j m : Nat) (hm : m = (i + j) / 2) (h : i + j ≤ 4194304) : wrap64 (IntKind.u64.wrap (wrap64 ((i : Int) + (j : Int))) / 2) = (m : Int) := by
 rw [w64 (n := (i : Int) + (j : Int)) (by omega) (by omega)]
 have e : IntKind.u64.wrap ((i : Int) + (j : Int)) = (i : Int) + (j : Int) := by
  simp only [IntKind.wrap, IntKind.signed, IntKind.bits, Bool.false_and, Bool.false_eq_true, if_false]
  omega
 rw [e, w64 (by omega) (by omega)]
 omega
set_option maxHeartbeats 2000000 in
set_option maxRecDepth 100000 in
theorem search_calls (A : Option Addr) (c : Nat) (l : List En) (t : ByteArray) (w : World) (hr : Kd.C k102 w A l.length l) (hc : l.length ≤ c) (hl : l.length ≤ 1048576) (hs : Rise l) :
  Calls Try.prog 127 #[.slice A l.length c, .string t, .func (.func 128) #[] #[]] w fun e w' => ∃ i : Nat, At l t i ∧ e = .returned (.tuple #[.int .i64 (i : Int), .bool (isAt l t i)]) ∧ Below w.heap.size w w' := by
 have HR := aM hr
 have HC := aM hc
 have HL := aM hl
 have HS := aM hs
 clear hr hc hl hs
 go_enter Try.func127, Try.ntmps127
 go_wp2
 go_loopg [9, 10, 11] l.length (fun kq v9 v10 v11 w' => ∃ i j : Nat, v9 = .int .i64 (i : Int) ∧ v10 = .int .i64 (j : Int) ∧ i ≤ j ∧ j ≤ l.length ∧ kq = j - i ∧ Aside0 (∀ x (h : x < l.length), x < i → ltS l[x].f0 t = true) ∧ Aside0 (∀ x (h : x < l.length), j ≤ x → ltS l[x].f0 t = false) ∧ Aside0 (Below w.heap.size w w'))
 case atStart => exact ⟨0, l.length, rfl, rfl, by omega, by omega, by omega, ⟨fun x h h0 => by omega⟩, ⟨fun x h h0 => by omega⟩, ⟨Below.refl _ _⟩⟩
 case round =>
  obtain ⟨i, j, rfl, rfl, hij, hj, hk, H1, H2, HB⟩ := hrel
  by_cases hlt : i < j
  ·have hltb : (i : Int) < (j : Int) := by omega
   obtain ⟨m, hm⟩ : ∃ m, m = (i + j) / 2 := ⟨_, rfl⟩
   have hmi : i ≤ m := by omega
   have hmj : m < j := by omega
   have hmv : wrap64 (IntKind.u64.wrap (wrap64 ((i : Int) + (j : Int))) / 2) = (m : Int) := mid_eq i j m hm (by have := HL.out; omega)
   have HM := aM (And.intro hmi hmj)
   have HI := aM (And.intro hij hj)
   have hml : m < l.length := by omega
   have p1 : (0 : Int) ≤ (m : Int) := by omega
   have q1 : (m : Int) < (l.length : Int) := by omega
   obtain ⟨ad, A1, c1, rfl, hx0, hx1, hl1, hC1⟩ := at_T102 HR.out (m : Int) p1 q1
   replace hx0 := (HB.out.cell (World.block_lt_of_cell? w _ hx0)).trans hx0
   replace hx1 := (HB.out.cell (World.block_lt_of_cell? w _ hx1)).trans hx1
   rw [Int.toNat_natCast] at hx0 hx1
   rw [rd_en l m hml] at hx0 hx1 hl1
   have HE := aM (HS.out)
   clear hl1 hC1 hm
   replace p1 := eq_true p1
   replace q1 := eq_true q1
   obtain ⟨x, hxe⟩ : ∃ x, x = l[m] := ⟨_, rfl⟩
   rw [← hxe] at hx0 hx1
   have HX := aM hxe
   clear hxe
   have hw3 : wrap64 ((m : Int) + 1) = (m : Int) + 1 := by have := HL.out; rw [w64 (by omega) (by omega)]
   by_cases hc : ltS x.f0 t = true
   ·have hcb : decide (cmpS x.f0 t < 0) = true := by rw [cmp_neg]; exact hc
    have HC2 := aM hc
    clear hc
    go_wp2_with (first | (go_at_call 128; go_loud ((with_reducible refine (cl_calls x.f0 t A1 x.f1.length c1 _).mono ?_); rintro e w2 ⟨rfl, hb⟩; have HB2 := aM (below_step HB.out hb); clear hb)))
    go_roundg (j - (m + 1))
    case measure => have := HM.out; omega
    case rel => exact ⟨m + 1, j, by go_num, rfl, by have := HM.out; omega, by have := HI.out; omega, rfl, ⟨fun y h hy => by
      rcases Nat.lt_or_ge y m with h1 | h1
      ·exact ltS_trans (HS.out y m hml h1) (by rw [← HX.out]; exact HC2.out)
      ·obtain rfl : y = m := by omega
       rw [← HX.out]
       exact HC2.out⟩, H2, HB2⟩
   ·have hcb : decide (cmpS x.f0 t < 0) = false := by rw [cmp_neg]; exact Bool.eq_false_iff.2 hc
    have HC2 := aM (Bool.eq_false_iff.2 hc)
    clear hc
    go_wp2_with (first | (go_at_call 128; go_loud ((with_reducible refine (cl_calls x.f0 t A1 x.f1.length c1 _).mono ?_); rintro e w2 ⟨rfl, hb⟩; have HB2 := aM (below_step HB.out hb); clear hb)))
    go_roundg (m - i)
    case measure => have := HM.out; omega
    case rel => exact ⟨i, m, rfl, rfl, by have := HM.out; omega, by have := HI.out; have := HM.out; omega, rfl, H1, ⟨fun y h hy => by
      rcases Nat.lt_or_ge m y with h1 | h1
      ·cases hq : ltS l[y].f0 t with
       | false => rfl
       | true =>
        have h3 := ltS_trans (HS.out m y h h1) hq
        rw [← HX.out, HC2.out] at h3
        cases h3
      ·obtain rfl : y = m := by omega
       rw [← HX.out]
       exact HC2.out⟩, HB2⟩
  ·obtain rfl : i = j := by omega
   have HI := aM hj
   by_cases hil : i < l.length
   ·have hilb : decide ((i : Int) < (l.length : Int)) = true := decide_eq_true (by omega)
    have p1 : (0 : Int) ≤ (i : Int) := by omega
    have q1 : (i : Int) < (l.length : Int) := by omega
    obtain ⟨ad, A1, c1, rfl, hx0, hx1, hl1, hC1⟩ := at_T102 HR.out (i : Int) p1 q1
    replace hx0 := (HB.out.cell (World.block_lt_of_cell? w _ hx0)).trans hx0
    replace hx1 := (HB.out.cell (World.block_lt_of_cell? w _ hx1)).trans hx1
    rw [Int.toNat_natCast] at hx0 hx1
    rw [rd_en l i hil] at hx0 hx1 hl1
    clear hl1 hC1
    replace p1 := eq_true p1
    replace q1 := eq_true q1
    obtain ⟨x, hxe⟩ : ∃ x, x = l[i] := ⟨_, rfl⟩
    rw [← hxe] at hx0 hx1
    have hcb : (cmpS x.f0 t == 0) = isAt l t i := by
     rw [cmp_zero, hxe]
     unfold isAt
     congr 1
     simp [hil]
    clear hxe
    go_wp2_with (first | (go_at_call 128; go_loud ((with_reducible refine (cl_calls x.f0 t A1 x.f1.length c1 _).mono ?_); rintro e w2 ⟨rfl, hb⟩; have HB2 := aM (below_step HB.out hb); clear hb)))
    go_ret2
    exact ⟨i, ⟨HI.out, H1.out, H2.out⟩, rfl, HB2.out⟩
   ·have hilb : decide ((i : Int) < (l.length : Int)) = false := decide_eq_false (by omega)
    have hat : isAt l t i = false := decide_eq_false (fun h => hil h.1)
    go_wp2
    go_ret2
    exact ⟨i, ⟨HI.out, H1.out, H2.out⟩, by rw [hat]; rfl, HB.out⟩
end Go.Proofs.Ytaomjndfjmfelaa.EntW
end
