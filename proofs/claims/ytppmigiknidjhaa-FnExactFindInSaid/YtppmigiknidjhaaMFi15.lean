/- Several texts in one: what the claim's last text rests on. No conditions. -/
import Derived.Test.YtppmigiknidjhaaMFi14
import Derived.Test.YtppmigiknidjhaaMFi13
import Derived.Test.YtppmigiknidjhaaMFi7
import Derived.Test.YtppmigiknidjhaaMFi6
import Derived.Deep.QuietTactic
import Derived.BigQuiet
import Derived.OneCell
import Derived.Test.YtppmigiknidjhaaMFi10
section
/- impl.FindIn: where a text stands in another one, by halving. No conditions. -/
namespace Go.Proofs.Ytppmigiknidjhaa.Fi
attribute [local go_sem] Go.Proofs.Ytppmigiknidjhaa.StrO.leq_s Go.Proofs.Ytppmigiknidjhaa.StrO.gtr_s Go.Proofs.Ytppmigiknidjhaa.StrO.geq_s
set_option linter.unusedVariables false
set_option linter.unusedSimpArgs false
open Go.RowKit Go.Sort Go.Lib Go.Shelf Go.Proofs.Ytppmigiknidjhaa.PQ Go.Proofs.YtppmigiknidjhaaW.PrintWords Go.Proofs.YtppmigiknidjhaaW.PrintLast Go.Proofs.YtppmigiknidjhaaW.PrintMore Go.Proofs.Ytppmigiknidjhaa.Pre Go.Proofs.Ytppmigiknidjhaa.Srt Go.Proofs.Ytppmigiknidjhaa.Suf

/-- Halving, and how many looks it takes. -/
def hv (less : Nat → Bool) : Nat → Nat → Nat → Nat → Nat × Nat
  | 0, lo, _, c => (lo, c)
  | f + 1, lo, hi, c => if lo < hi then (if less ((lo + hi) / 2) = true then hv less f ((lo + hi) / 2 + 1) hi (c + 1) else hv less f lo ((lo + hi) / 2) (c + 1)) else (lo, c)
theorem hv_done (less : Nat → Bool) (f lo hi c : Nat) (h : ¬ lo < hi) : hv less f lo hi c = (lo, c) := by
  cases f with
  | zero => rfl
  | succ f => unfold hv; rw [if_neg h]
theorem hv_fuel (less : Nat → Bool) : ∀ (f g lo hi c : Nat), hi - lo ≤ f → hi - lo ≤ g → hv less f lo hi c = hv less g lo hi c
  | 0, g, lo, hi, c, h1, h2 => by rw [hv_done less g lo hi c (by omega)]; rfl
  | f + 1, 0, lo, hi, c, h1, h2 => by rw [hv_done less (f + 1) lo hi c (by omega)]; rfl
  | f + 1, g + 1, lo, hi, c, h1, h2 => by
    unfold hv
    by_cases h : lo < hi
    · rw [if_pos h, if_pos h, hv_fuel less f g _ _ _ (by omega) (by omega), hv_fuel less f g lo _ _ (by omega) (by omega)]
    · rw [if_neg h, if_neg h]
theorem hv_step (less : Nat → Bool) (lo hi c : Nat) (h : lo < hi) : hv less (hi - lo) lo hi c = if less ((lo + hi) / 2) = true then hv less (hi - ((lo + hi) / 2 + 1)) ((lo + hi) / 2 + 1) hi (c + 1) else hv less ((lo + hi) / 2 - lo) lo ((lo + hi) / 2) (c + 1) := by
  obtain ⟨f, hf⟩ : ∃ f, hi - lo = f + 1 := ⟨hi - lo - 1, by omega⟩
  rw [hf]
  conv => lhs; unfold hv
  rw [if_pos h]
  congr 1
  · exact hv_fuel less _ _ _ _ _ (by omega) (by omega)
  · exact hv_fuel less _ _ _ _ _ (by omega) (by omega)
theorem hv_bound (less : Nat → Bool) : ∀ (f lo hi c : Nat), lo ≤ hi → lo ≤ (hv less f lo hi c).1 ∧ (hv less f lo hi c).1 ≤ hi ∧ (hv less f lo hi c).2 ≤ c + f
  | 0, lo, hi, c, h => ⟨Nat.le_refl _, h, Nat.le_refl _⟩
  | f + 1, lo, hi, c, h => by
    unfold hv
    by_cases h1 : lo < hi
    · rw [if_pos h1]
      split
      · have := hv_bound less f ((lo + hi) / 2 + 1) hi (c + 1) (by omega)
        omega
      · have := hv_bound less f lo ((lo + hi) / 2) (c + 1) (by omega)
        omega
    · rw [if_neg h1]
      exact ⟨Nat.le_refl _, h, by omega⟩

theorem one_cell {w : World} {b : Nat} {v : Value} {t : TypeId} (h : w.heap[b]? = some (.cells #[v] t (0, 0))) : w.cell? ⟨b, 0, none⟩ = some v ∧ w.frozen? ⟨b, 0, none⟩ = false := ⟨by simp [World.cell?, h], by simp [World.frozen?, h]⟩
def cut (t p : ByteArray) : ByteArray := if t.size > p.size then t.extract 0 p.size else t
theorem low2 (t p : ByteArray) (B : Nat) (W : World) (hc : W.cell? ⟨B, 0, none⟩ = some (.string p)) :
    Calls Try.prog 55 #[.string t, .pointer (some ⟨B, 0, none⟩)] W fun e w' => e = .returned (.bool (ltS t p)) ∧ ∃ q, w' = W.drewN q := by
  unfold ltS
  go_enter Try.func55, Try.ntmps55
  go_wp2
  go_ret
  exact ⟨rfl, 0, rfl⟩
theorem low3 (t p : ByteArray) (B : Nat) (W : World) (hc : W.cell? ⟨B, 0, none⟩ = some (.string p)) :
    Calls Try.prog 56 #[.string t, .pointer (some ⟨B, 0, none⟩)] W fun e w' => e = .returned (.bool (!(ltS p (cut t p)))) ∧ ∃ q, w' = W.drewN q := by
  unfold ltS
  by_cases h : p.size < t.size
  · have e : cut t p = t.extract 0 p.size := if_pos h
    have h2 : (p.size : Int) < (t.size : Int) := by omega
    have h3 : ¬ ((t.size : Int) < (p.size : Int)) := by omega
    rw [e]
    clear e
    go_enter Try.func56, Try.ntmps56
    go_wp2
    go_quiet (fail)
    go_wp2
    go_ret
    refine ⟨?_, _, rfl⟩
    simp
    rw [show (min (t.size : Int) (p.size : Int)).toNat = p.size by omega, StrO.or_eq]
  · have e : cut t p = t.extract 0 t.size := by
      unfold cut
      rw [if_neg h, ByteArray.extract_zero_size]
    have h2 : (t.size : Int) ≤ (p.size : Int) := by omega
    rw [e]
    clear e
    go_enter Try.func56, Try.ntmps56
    go_wp2
    go_quiet (fail)
    go_wp2
    go_ret
    refine ⟨?_, _, rfl⟩
    simp
    rw [show (min (t.size : Int) (p.size : Int)).toNat = t.size by omega, ByteArray.extract_zero_size, StrO.or_eq]

set_option maxHeartbeats 2000000 in
set_option maxRecDepth 100000 in
theorem halve2 (s p : ByteArray) (A : Option Addr) (c : Nat) (l : List Int) (less : Nat → Bool) (B0 B1 B2 N9 : Nat) (lo cnt : Nat) (w0 w : World) (hC : Kd.C (Kd.int .i64) w0 A l.length l) (hB0 : Below w0.heap.size w0 w) (h09 : w0.heap.size ≤ N9) (h0 : B0 < N9) (h1 : B1 < N9) (h2 : B2 < N9)
    (hsc : w.cell? ⟨B0, 0, none⟩ = some (.string s)) (hlc : w.cell? ⟨B1, 0, none⟩ = some (.slice A l.length c)) (hpc : w.cell? ⟨B2, 0, none⟩ = some (.string p)) (hcnt : w.heap[N9]? = some (.cells #[.int .i64 (cnt : Int)] 3 (0, 0)))
    (hw : ∀ t : Nat, t < l.length → ∃ x : Nat, rd l (t : Int) = (x : Int) ∧ x ≤ s.size ∧ less t = ltS (suf s x) p) (hlo : lo ≤ l.length) (hll : l.length ≤ 1048576) (hcb : cnt ≤ 1048576) (hs : s.size ≤ 1048576) (hp : p.size ≤ 1048576) :
    Calls Try.prog 54 #[.int .i64 (lo : Int), .func (.func 55) #[] #[.pointer (some ⟨B2, 0, none⟩)], .pointer (some ⟨B1, 0, none⟩), .pointer (some ⟨N9, 0, none⟩), .pointer (some ⟨B0, 0, none⟩)] w fun e w' =>
      e = .returned (.int .i64 (((hv less (l.length - lo) lo l.length cnt).1 : Nat) : Int)) ∧ Below N9 w w' ∧ w'.heap[N9]? = some (.cells #[.int .i64 (((hv less (l.length - lo) lo l.length cnt).2 : Nat) : Int)] 3 (0, 0)) := by
  obtain ⟨R, hR⟩ : ∃ R, R = hv less (l.length - lo) lo l.length cnt := ⟨_, rfl⟩
  rw [← hR]
  have HRR := Aside0.mk hR.symm
  have HW := Aside0.mk hw
  have HC := Aside0.mk hC
  have HB0 := Aside0.mk hB0
  have HPC := Aside0.mk (fun (W : World) (hb : Below N9 w W) => (hb.cell (p := ⟨B2, 0, none⟩) h2).trans hpc)
  have HSC := Aside0.mk (fun (W : World) (hb : Below N9 w W) => (hb.cell (p := ⟨B0, 0, none⟩) h0).trans hsc)
  have HLC := Aside0.mk (fun (W : World) (hb : Below N9 w W) => (hb.cell (p := ⟨B1, 0, none⟩) h1).trans hlc)
  have HN := Aside0.mk (⟨h09, h0, h1, h2, hlo, hll, hcb⟩ : w0.heap.size ≤ N9 ∧ B0 < N9 ∧ B1 < N9 ∧ B2 < N9 ∧ lo ≤ l.length ∧ l.length ≤ 1048576 ∧ cnt ≤ 1048576)
  have HCN := Aside0.mk hcnt
  clear hR hw hC hB0 hsc hpc h09 h0 h1 h2 hlo hcnt hll hcb
  go_enter Try.func54, Try.ntmps54
  go_wp2
  go_loopg [0, 8] (l.length - lo) (fun kq v0 v8 w' => ∃ lo1 hi1 c1 : Nat, v0 = .int .i64 (lo1 : Int) ∧ v8 = .int .i64 (hi1 : Int) ∧ lo1 ≤ hi1 ∧ hi1 ≤ l.length ∧ kq = hi1 - lo1 ∧ c1 + (hi1 - lo1) ≤ cnt + l.length ∧ Aside0 (hv less (hi1 - lo1) lo1 hi1 c1 = R) ∧ Aside0 (Below N9 w w') ∧ Aside0 (w'.heap[N9]? = some (.cells #[.int .i64 (c1 : Int)] 3 (0, 0))))
  case atStart => exact ⟨lo, l.length, cnt, rfl, rfl, HN.out.2.2.2.2.1, Nat.le_refl _, rfl, by omega, HRR, ⟨Below.refl _ _⟩, HCN⟩
  case round =>
    obtain ⟨lo1, hi1, c1, rfl, rfl, hle, hhi, hk, hcb, HR, HB, HCW⟩ := hrel
    have hll : l.length ≤ 1048576 := HN.out.2.2.2.2.2.1
    have hc1 : (c1 : Int) ≤ 3000000 := by have := HN.out.2.2.2.2.2.2; omega
    by_cases hlt : lo1 < hi1
    · obtain ⟨m, hm⟩ : ∃ m, m = (lo1 + hi1) / 2 := ⟨_, rfl⟩
      obtain ⟨x, hx, hxs, hless⟩ := HW.out m (by omega)
      obtain ⟨ad, eA, hxc⟩ := Kd.at_int HC.out (m : Int) (by omega) (by omega)
      rw [hx, Int.toNat_natCast] at hxc
      clear hx
      subst eA
      obtain ⟨hcc, hff⟩ := one_cell HCW.out
      have HB2 := Aside0.mk (HB.out.setCell (p := ⟨N9, 0, none⟩) (Nat.le_refl _) (.int .i64 ((c1 : Int) + 1)))
      have hB00 := HB0.out.trans (HB2.out.mono HN.out.1)
      have hxc2 := (hB00.cell (World.block_lt_of_cell? w0 _ hxc)).trans hxc
      clear hB00 hxc
      have hlc2 := HLC.out _ HB2.out
      have hsc2 := HSC.out _ HB2.out
      have hq : Int.tdiv ((lo1 : Int) + (hi1 : Int)) 2 = (m : Int) := by rw [Int.tdiv_eq_ediv_of_nonneg (by omega)]; omega
      have hm1 : (m : Int) < (l.length : Int) := by omega
      have hx1 : (x : Int) ≤ (s.size : Int) := by omega
      have hst := hv_step less lo1 hi1 c1 hlt
      rw [← hm] at hst
      have HST := Aside0.mk hst
      have HM := Aside0.mk hm
      have hlt2 : (lo1 : Int) < (hi1 : Int) := by omega
      have hhi2 : (hi1 : Int) ≤ 1048576 := by omega
      clear hst
      have HCS := Aside0.mk (one_setCell HCW.out (u := .int .i64 ((c1 : Int) + 1)))
      cases hb : less m with
      | true =>
        have HL := Aside0.mk (fun (W : World) (hc : W.cell? ⟨B2, 0, none⟩ = some (.string p)) => low2 (suf s x) p B2 W hc)
        rw [← hless, hb] at HL
        unfold suf at HL
        clear hless hm
        go_wp2
        go_quiet ((go_at_call 55; exact Calls.quiet_of (HL.out _ (HPC.out _ (by repeat (first | exact HB2.out | apply pw_below_drewN))))))
        go_wp2
        go_roundg (hi1 - (m + 1))
        case measure => have := HM.out; omega
        case rel =>
          have hst := HST.out
          rw [if_pos hb] at hst
          exact ⟨m + 1, hi1, c1 + 1, by go_num, rfl, by have := HM.out; omega, by omega, rfl, by have := HM.out; omega, ⟨hst.symm.trans HR.out⟩, ⟨pw_below_drewN HB2.out _⟩, ⟨by have h9 := HCS.out; rw [show ((c1 + 1 : Nat) : Int) = (c1 : Int) + 1 by omega]; exact h9⟩⟩
      | false =>
        have HL := Aside0.mk (fun (W : World) (hc : W.cell? ⟨B2, 0, none⟩ = some (.string p)) => low2 (suf s x) p B2 W hc)
        rw [← hless, hb] at HL
        unfold suf at HL
        clear hless hm
        go_wp2
        go_quiet ((go_at_call 55; exact Calls.quiet_of (HL.out _ (HPC.out _ (by repeat (first | exact HB2.out | apply pw_below_drewN))))))
        go_wp2
        go_roundg (m - lo1)
        case measure => have := HM.out; omega
        case rel =>
          have hst := HST.out
          rw [if_neg (by rw [hb]; decide)] at hst
          exact ⟨lo1, m, c1 + 1, rfl, rfl, by have := HM.out; omega, by omega, rfl, by have := HM.out; omega, ⟨hst.symm.trans HR.out⟩, ⟨pw_below_drewN HB2.out _⟩, ⟨by have h9 := HCS.out; rw [show ((c1 + 1 : Nat) : Int) = (c1 : Int) + 1 by omega]; exact h9⟩⟩
    · have hr := HR.out
      rw [hv_done less _ lo1 hi1 c1 hlt] at hr
      subst hr
      have hge : ¬ ((lo1 : Int) < (hi1 : Int)) := by omega
      go_wp2
      go_ret
      exact ⟨rfl, HB.out, HCW.out⟩

set_option maxHeartbeats 2000000 in
set_option maxRecDepth 100000 in
theorem halve3 (s p : ByteArray) (A : Option Addr) (c : Nat) (l : List Int) (less : Nat → Bool) (B0 B1 B2 N9 : Nat) (lo cnt : Nat) (w0 w : World) (hC : Kd.C (Kd.int .i64) w0 A l.length l) (hB0 : Below w0.heap.size w0 w) (h09 : w0.heap.size ≤ N9) (h0 : B0 < N9) (h1 : B1 < N9) (h2 : B2 < N9)
    (hsc : w.cell? ⟨B0, 0, none⟩ = some (.string s)) (hlc : w.cell? ⟨B1, 0, none⟩ = some (.slice A l.length c)) (hpc : w.cell? ⟨B2, 0, none⟩ = some (.string p)) (hcnt : w.heap[N9]? = some (.cells #[.int .i64 (cnt : Int)] 3 (0, 0)))
    (hw : ∀ t : Nat, t < l.length → ∃ x : Nat, rd l (t : Int) = (x : Int) ∧ x ≤ s.size ∧ less t = !(ltS p (cut (suf s x) p))) (hlo : lo ≤ l.length) (hll : l.length ≤ 1048576) (hcb : cnt ≤ 1048576) (hs : s.size ≤ 1048576) (hp : p.size ≤ 1048576) :
    Calls Try.prog 54 #[.int .i64 (lo : Int), .func (.func 56) #[] #[.pointer (some ⟨B2, 0, none⟩)], .pointer (some ⟨B1, 0, none⟩), .pointer (some ⟨N9, 0, none⟩), .pointer (some ⟨B0, 0, none⟩)] w fun e w' =>
      e = .returned (.int .i64 (((hv less (l.length - lo) lo l.length cnt).1 : Nat) : Int)) ∧ Below N9 w w' ∧ w'.heap[N9]? = some (.cells #[.int .i64 (((hv less (l.length - lo) lo l.length cnt).2 : Nat) : Int)] 3 (0, 0)) := by
  obtain ⟨R, hR⟩ : ∃ R, R = hv less (l.length - lo) lo l.length cnt := ⟨_, rfl⟩
  rw [← hR]
  have HRR := Aside0.mk hR.symm
  have HW := Aside0.mk hw
  have HC := Aside0.mk hC
  have HB0 := Aside0.mk hB0
  have HPC := Aside0.mk (fun (W : World) (hb : Below N9 w W) => (hb.cell (p := ⟨B2, 0, none⟩) h2).trans hpc)
  have HSC := Aside0.mk (fun (W : World) (hb : Below N9 w W) => (hb.cell (p := ⟨B0, 0, none⟩) h0).trans hsc)
  have HLC := Aside0.mk (fun (W : World) (hb : Below N9 w W) => (hb.cell (p := ⟨B1, 0, none⟩) h1).trans hlc)
  have HN := Aside0.mk (⟨h09, h0, h1, h2, hlo, hll, hcb⟩ : w0.heap.size ≤ N9 ∧ B0 < N9 ∧ B1 < N9 ∧ B2 < N9 ∧ lo ≤ l.length ∧ l.length ≤ 1048576 ∧ cnt ≤ 1048576)
  have HCN := Aside0.mk hcnt
  clear hR hw hC hB0 hsc hpc h09 h0 h1 h2 hlo hcnt hll hcb
  go_enter Try.func54, Try.ntmps54
  go_wp2
  go_loopg [0, 8] (l.length - lo) (fun kq v0 v8 w' => ∃ lo1 hi1 c1 : Nat, v0 = .int .i64 (lo1 : Int) ∧ v8 = .int .i64 (hi1 : Int) ∧ lo1 ≤ hi1 ∧ hi1 ≤ l.length ∧ kq = hi1 - lo1 ∧ c1 + (hi1 - lo1) ≤ cnt + l.length ∧ Aside0 (hv less (hi1 - lo1) lo1 hi1 c1 = R) ∧ Aside0 (Below N9 w w') ∧ Aside0 (w'.heap[N9]? = some (.cells #[.int .i64 (c1 : Int)] 3 (0, 0))))
  case atStart => exact ⟨lo, l.length, cnt, rfl, rfl, HN.out.2.2.2.2.1, Nat.le_refl _, rfl, by omega, HRR, ⟨Below.refl _ _⟩, HCN⟩
  case round =>
    obtain ⟨lo1, hi1, c1, rfl, rfl, hle, hhi, hk, hcb, HR, HB, HCW⟩ := hrel
    have hll : l.length ≤ 1048576 := HN.out.2.2.2.2.2.1
    have hc1 : (c1 : Int) ≤ 3000000 := by have := HN.out.2.2.2.2.2.2; omega
    by_cases hlt : lo1 < hi1
    · obtain ⟨m, hm⟩ : ∃ m, m = (lo1 + hi1) / 2 := ⟨_, rfl⟩
      obtain ⟨x, hx, hxs, hless⟩ := HW.out m (by omega)
      obtain ⟨ad, eA, hxc⟩ := Kd.at_int HC.out (m : Int) (by omega) (by omega)
      rw [hx, Int.toNat_natCast] at hxc
      clear hx
      subst eA
      obtain ⟨hcc, hff⟩ := one_cell HCW.out
      have HB2 := Aside0.mk (HB.out.setCell (p := ⟨N9, 0, none⟩) (Nat.le_refl _) (.int .i64 ((c1 : Int) + 1)))
      have hB00 := HB0.out.trans (HB2.out.mono HN.out.1)
      have hxc2 := (hB00.cell (World.block_lt_of_cell? w0 _ hxc)).trans hxc
      clear hB00 hxc
      have hlc2 := HLC.out _ HB2.out
      have hsc2 := HSC.out _ HB2.out
      have hq : Int.tdiv ((lo1 : Int) + (hi1 : Int)) 2 = (m : Int) := by rw [Int.tdiv_eq_ediv_of_nonneg (by omega)]; omega
      have hm1 : (m : Int) < (l.length : Int) := by omega
      have hx1 : (x : Int) ≤ (s.size : Int) := by omega
      have hst := hv_step less lo1 hi1 c1 hlt
      rw [← hm] at hst
      have HST := Aside0.mk hst
      have HM := Aside0.mk hm
      have hlt2 : (lo1 : Int) < (hi1 : Int) := by omega
      have hhi2 : (hi1 : Int) ≤ 1048576 := by omega
      clear hst
      have HCS := Aside0.mk (one_setCell HCW.out (u := .int .i64 ((c1 : Int) + 1)))
      cases hb : less m with
      | true =>
        have HL := Aside0.mk (fun (W : World) (hc : W.cell? ⟨B2, 0, none⟩ = some (.string p)) => low3 (suf s x) p B2 W hc)
        rw [← hless, hb] at HL
        unfold suf at HL
        clear hless hm
        go_wp2
        go_quiet ((go_at_call 56; exact Calls.quiet_of (HL.out _ (HPC.out _ (by repeat (first | exact HB2.out | apply pw_below_drewN))))))
        go_wp2
        go_roundg (hi1 - (m + 1))
        case measure => have := HM.out; omega
        case rel =>
          have hst := HST.out
          rw [if_pos hb] at hst
          exact ⟨m + 1, hi1, c1 + 1, by go_num, rfl, by have := HM.out; omega, by omega, rfl, by have := HM.out; omega, ⟨hst.symm.trans HR.out⟩, ⟨pw_below_drewN HB2.out _⟩, ⟨by have h9 := HCS.out; rw [show ((c1 + 1 : Nat) : Int) = (c1 : Int) + 1 by omega]; exact h9⟩⟩
      | false =>
        have HL := Aside0.mk (fun (W : World) (hc : W.cell? ⟨B2, 0, none⟩ = some (.string p)) => low3 (suf s x) p B2 W hc)
        rw [← hless, hb] at HL
        unfold suf at HL
        clear hless hm
        go_wp2
        go_quiet ((go_at_call 56; exact Calls.quiet_of (HL.out _ (HPC.out _ (by repeat (first | exact HB2.out | apply pw_below_drewN))))))
        go_wp2
        go_roundg (m - lo1)
        case measure => have := HM.out; omega
        case rel =>
          have hst := HST.out
          rw [if_neg (by rw [hb]; decide)] at hst
          exact ⟨lo1, m, c1 + 1, rfl, rfl, by have := HM.out; omega, by omega, rfl, by have := HM.out; omega, ⟨hst.symm.trans HR.out⟩, ⟨pw_below_drewN HB2.out _⟩, ⟨by have h9 := HCS.out; rw [show ((c1 + 1 : Nat) : Int) = (c1 : Int) + 1 by omega]; exact h9⟩⟩
    · have hr := HR.out
      rw [hv_done less _ lo1 hi1 c1 hlt] at hr
      subst hr
      have hge : ¬ ((lo1 : Int) < (hi1 : Int)) := by omega
      go_wp2
      go_ret
      exact ⟨rfl, HB.out, HCW.out⟩
end Go.Proofs.Ytppmigiknidjhaa.Fi
end

section
/- impl.FindIn as a whole. No conditions. -/
namespace Go.Proofs.Ytppmigiknidjhaa.Fi
set_option linter.unusedVariables false
set_option linter.unusedSimpArgs false
open Go.RowKit Go.Sort Go.Lib Go.Shelf Go.Proofs.Ytppmigiknidjhaa.PQ Go.Proofs.YtppmigiknidjhaaW.PrintWords Go.Proofs.YtppmigiknidjhaaW.PrintLast Go.Proofs.YtppmigiknidjhaaW.PrintMore Go.Proofs.Ytppmigiknidjhaa.Pre Go.Proofs.Ytppmigiknidjhaa.Srt Go.Proofs.Ytppmigiknidjhaa.Suf

/-- What both answer. -/
def less2 (s p : ByteArray) (l : List Int) (t : Nat) : Bool := ltS (suf s (rd l (t : Int)).toNat) p
def less3 (s p : ByteArray) (l : List Int) (t : Nat) : Bool := !(ltS p (cut (suf s (rd l (t : Int)).toNat) p))
def fr (s p : ByteArray) (l : List Int) : Nat × Nat := hv (less2 s p l) (l.length - 0) 0 l.length 0
def tt (s p : ByteArray) (l : List Int) : Nat × Nat := hv (less3 s p l) (l.length - (fr s p l).1) (fr s p l).1 l.length (fr s p l).2
def mid (s p : ByteArray) (l : List Int) : List Int := (l.take (tt s p l).1).drop (fr s p l).1
def srt (l : List Int) : List Int := l.mergeSort (fun x y => decide (x ≤ y))
def okF (s : ByteArray) (l : List Int) (p : ByteArray) : Bool := decide ((s.size ≤ 120 ∧ l = sufs s) ∧ 1 ≤ p.size ∧ p.size ≤ 120)
def ansFind (s : ByteArray) (l : List Int) (p : ByteArray) : List Int × Int × Bool := if okF s l p = true then (srt (mid s p l), (((tt s p l).2 : Nat) : Int), true) else ([], 0, false)
theorem within_f (a lo hi : Int) : impl_within.f a lo hi = some (decide (lo ≤ a ∧ a ≤ hi)) := by
  unfold impl_within.f
  by_cases h : a ≥ lo
  · rw [if_pos h]
    simp [h]
  · rw [if_neg h]
    simp
    omega
theorem box_below (w : World) (a b c : Obj) : Below w.heap.size w (((w.alloc a).alloc b).alloc c) := below_alloc (below_alloc (below_alloc (Below.refl _ _) _) _) _

theorem alloc_one (W : World) (v : Value) (t : TypeId) : (W.alloc (.cells #[v] t)).heap[W.heap.size]? = some (.cells #[v] t (0, 0)) := by
  show (W.heap.push _)[W.heap.size]? = _
  simp
theorem alloc_old (W : World) (o : Obj) (k : Nat) (h : k < W.heap.size) : (W.alloc o).heap[k]? = W.heap[k]? := by
  show (W.heap.push _)[k]? = _
  rw [Array.getElem?_push, if_neg (by omega)]
theorem alloc_size (W : World) (o : Obj) : (W.alloc o).heap.size = W.heap.size + 1 := by
  show (W.heap.push _).size = _
  simp
theorem boxes (w : World) (a b c : Value) (t1 t2 t3 : TypeId) : (((w.alloc (.cells #[a] t1)).alloc (.cells #[b] t2)).alloc (.cells #[c] t3)).cell? ⟨w.heap.size, 0, none⟩ = some a ∧ (((w.alloc (.cells #[a] t1)).alloc (.cells #[b] t2)).alloc (.cells #[c] t3)).cell? ⟨w.heap.size + 1, 0, none⟩ = some b ∧
    (((w.alloc (.cells #[a] t1)).alloc (.cells #[b] t2)).alloc (.cells #[c] t3)).cell? ⟨w.heap.size + 1 + 1, 0, none⟩ = some c ∧ (((w.alloc (.cells #[a] t1)).alloc (.cells #[b] t2)).alloc (.cells #[c] t3)).heap.size = w.heap.size + 3 := by
  have s1 := alloc_size w (.cells #[a] t1)
  have s2 := alloc_size (w.alloc (.cells #[a] t1)) (.cells #[b] t2)
  have s3 := alloc_size ((w.alloc (.cells #[a] t1)).alloc (.cells #[b] t2)) (.cells #[c] t3)
  refine ⟨(one_cell (v := a) (t := t1) ?_).1, (one_cell (v := b) (t := t2) ?_).1, (one_cell (v := c) (t := t3) ?_).1, by omega⟩
  · rw [alloc_old _ _ _ (by omega), alloc_old _ _ _ (by omega)]
    exact alloc_one _ _ _
  · rw [alloc_old _ _ _ (by omega), ← s1]
    exact alloc_one _ _ _
  · rw [← s1, ← s2]
    exact alloc_one _ _ _

theorem start5 (w w1 : World) (nd : Nat) (a b c : Value) (t1 t2 t3 : TypeId) (hb : Below (((w.alloc (.cells #[a] t1)).alloc (.cells #[b] t2)).alloc (.cells #[c] t3)).heap.size (((w.alloc (.cells #[a] t1)).alloc (.cells #[b] t2)).alloc (.cells #[c] t3)) w1) :
    Below w.heap.size w (((w1.drewN nd).alloc (.cells #[.int .i64 0] 3)).setCell ⟨w1.heap.size, 0, none⟩ (.int .i64 0)) ∧
    (((w1.drewN nd).alloc (.cells #[.int .i64 0] 3)).setCell ⟨w1.heap.size, 0, none⟩ (.int .i64 0)).cell? ⟨w.heap.size, 0, none⟩ = some a ∧
    (((w1.drewN nd).alloc (.cells #[.int .i64 0] 3)).setCell ⟨w1.heap.size, 0, none⟩ (.int .i64 0)).cell? ⟨w.heap.size + 1, 0, none⟩ = some b ∧
    (((w1.drewN nd).alloc (.cells #[.int .i64 0] 3)).setCell ⟨w1.heap.size, 0, none⟩ (.int .i64 0)).cell? ⟨w.heap.size + 1 + 1, 0, none⟩ = some c ∧
    (((w1.drewN nd).alloc (.cells #[.int .i64 0] 3)).setCell ⟨w1.heap.size, 0, none⟩ (.int .i64 0)).heap[w1.heap.size]? = some (.cells #[.int .i64 ((0 : Nat) : Int)] 3 (0, 0)) ∧
    w.heap.size + 1 + 1 < w1.heap.size := by
  obtain ⟨b1, b2, b3, b4⟩ := boxes w a b c t1 t2 t3
  have hsz : w.heap.size + 3 ≤ w1.heap.size := by rw [← b4]; exact hb.size
  have hB : Below w1.heap.size w1 (((w1.drewN nd).alloc (.cells #[.int .i64 0] 3)).setCell ⟨w1.heap.size, 0, none⟩ (.int .i64 0)) := (below_alloc (pw_below_drewN (Below.refl _ _) nd) _).setCell (Nat.le_refl _) _
  refine ⟨(below_step (box_below w _ _ _) hb).trans (hB.mono (by omega)), ?_, ?_, ?_, ?_, by omega⟩
  · rw [hB.cell (by show w.heap.size < _; omega), hb.cell (by rw [b4]; show w.heap.size < _; omega)]
    exact b1
  · rw [hB.cell (by show w.heap.size + 1 < _; omega), hb.cell (by rw [b4]; show w.heap.size + 1 < _; omega)]
    exact b2
  · rw [hB.cell (by show w.heap.size + 1 + 1 < _; omega), hb.cell (by rw [b4]; show w.heap.size + 1 + 1 < _; omega)]
    exact b3
  · exact one_setCell (alloc_one (w1.drewN nd) (.int .i64 0) 3)
theorem grown_refl (W : World) (r : Option Nat) : W.grownBy W r := ⟨rfl, rfl, rfl, Nat.le_refl _, fun _ _ _ => rfl⟩
theorem sortI_calls (xs : List Int) (v : Value) (W : World) (base : Nat) (ok : Nat → Prop) (h : (Kd.int .i64).R 3 W base ok v xs) (hx : xs.length ≤ 1048576) :
    Calls Try.prog 58 #[v] W fun e w' => e = .returned (.tuple #[]) ∧ (Kd.int .i64).R 3 w' base ok v (srt xs) ∧ W.grownBy w' v.ownBlock := by
  rcases Nat.eq_zero_or_pos xs.length with hz | hp
  · obtain rfl : xs = [] := List.eq_nil_of_length_eq_zero hz
    obtain ⟨A, c, rfl, _, _⟩ := Kd.R_reads h
    refine (Try.slices_Sort_int_none_f58 A c W).mono ?_
    rintro e w' ⟨rfl, rfl⟩
    exact ⟨rfl, by unfold srt; rw [List.mergeSort_nil]; exact h, grown_refl _ _⟩
  · obtain ⟨g, cg, rfl, gb, gl, cells, HG⟩ := Kd.R_form h hp
    obtain ⟨hH, hgl, hgb⟩ := R_holds (enc := Value.int .i64) h
    refine (Try.slices_Sort_int_f58 g 0 cg xs W hH hgl (by omega)).mono ?_
    rintro e w' ⟨rfl, nq, os, rfl⟩
    exact ⟨rfl, R_sorted (enc := Value.int .i64) h (ys := srt xs) (by unfold srt; rw [List.length_mergeSort]) nq os, sort_grown (enc := Value.int .i64) nq os _⟩

set_option maxHeartbeats 2000000 in
set_option maxRecDepth 100000 in
theorem bad (s : ByteArray) (A : Option Addr) (c : Nat) (l : List Int) (p : ByteArray) (w : World) (hr : Kd.C (Kd.int .i64) w A l.length l) (hc : l.length ≤ c) (hok : okF s l p = false) :
    Calls Try.prog 35 #[.string s, .slice A l.length c, .string p] w fun e w' => ∃ v0_ : Value, e = .returned (.tuple #[v0_, .int .i64 0, .bool false]) ∧ Kd.R (Kd.int .i64) 3 w' w.heap.size (fun _ => True) v0_ [] ∧ Below w.heap.size w w' := by
  have HB := Aside0.mk (box_below w (.cells #[.string s] 9) (.cells #[.slice A l.length c] 22) (.cells #[.string p] 9))
  have HR := Aside0.mk (Kd.C_below hr HB.out)
  have HC := Aside0.mk hc
  obtain ⟨kk, hk⟩ := (implIs2_ev s l).ex
  by_cases h1 : s.size ≤ 120 ∧ l = sufs s
  · rw [decide_eq_true h1] at hk
    have HK := Aside0.mk hk
    have W2 := Aside0.mk ((within_f (p.size : Int) 1 120).trans (by rw [decide_eq_false (fun h => by
      unfold okF at hok
      have := of_decide_eq_false hok
      exact this ⟨h1, by omega, by omega⟩)]))
    clear hk hok h1 hr hc
    go_enter Try.func35, Try.ntmps35
    go_wp2_with (first | (go_at_call 50; go_loud ((with_reducible refine (impl_isSuffixes.calls kk s A c l true _ HR.out HC.out HK.out).mono ?_); rintro e w' ⟨rfl, hb⟩; have hpc := (hb.cell (p := ⟨w.heap.size + 1 + 1, 0, none⟩) (by rw [(boxes w _ _ _ _ _ _).2.2.2]; show w.heap.size + 1 + 1 < _; omega)).trans (boxes w _ _ _ _ _ _).2.2.1; have HB2 := Aside0.mk hb; clear hb)) | (go_at_call 44; go_loud ((with_reducible refine (impl_within.calls (p.size : Int) 1 120 false _ W2.out).mono ?_); rintro e w2 ⟨rfl, ⟨nd, rfl⟩⟩)))
    go_ret3
    exact ⟨_, rfl, Kd.R_nil _ _ _ _ _, pw_below_drewN (below_step HB.out HB2.out) _⟩
  · rw [decide_eq_false h1] at hk
    have HK := Aside0.mk hk
    clear hk hok h1 hr hc
    go_enter Try.func35, Try.ntmps35
    go_wp2_with (first | (go_at_call 50; go_loud ((with_reducible refine (impl_isSuffixes.calls kk s A c l false _ HR.out HC.out HK.out).mono ?_); rintro e w' ⟨rfl, hb⟩; have HB2 := Aside0.mk hb; clear hb)))
    go_ret3
    exact ⟨_, rfl, Kd.R_nil _ _ _ _ _, below_step HB.out HB2.out⟩

set_option maxHeartbeats 2000000 in
set_option maxRecDepth 100000 in
theorem good (s : ByteArray) (A : Option Addr) (c : Nat) (l : List Int) (p : ByteArray) (w : World) (hr : Kd.C (Kd.int .i64) w A l.length l) (hc : l.length ≤ c) (hs : s.size ≤ 120) (hl : l = sufs s) (hp : 1 ≤ p.size ∧ p.size ≤ 120) :
    Calls Try.prog 35 #[.string s, .slice A l.length c, .string p] w fun e w' => ∃ v0_ : Value, e = .returned (.tuple #[v0_, .int .i64 (((tt s p l).2 : Nat) : Int), .bool true]) ∧ Kd.R (Kd.int .i64) 3 w' w.heap.size (fun _ => True) v0_ (srt (mid s p l)) ∧ Below w.heap.size w w' := by
  have HB := Aside0.mk (box_below w (.cells #[.string s] 9) (.cells #[.slice A l.length c] 22) (.cells #[.string p] 9))
  have HR := Aside0.mk (Kd.C_below hr HB.out)
  have HR0 := Aside0.mk hr
  have HC := Aside0.mk hc
  obtain ⟨kk, hk⟩ := (implIs2_ev s l).ex
  rw [decide_eq_true ⟨hs, hl⟩] at hk
  have HK := Aside0.mk hk
  have W2 := Aside0.mk ((within_f (p.size : Int) 1 120).trans (by rw [decide_eq_true ⟨by omega, by omega⟩]))
  have HWI : Within s l := by rw [hl]; exact sufs_within s
  have HLL : l.length = s.size := by rw [hl]; exact sufs_len s
  have HW := Aside0.mk HWI
  have HS := Aside0.mk (⟨hs, HLL, hp.1, hp.2⟩ : s.size ≤ 120 ∧ l.length = s.size ∧ 1 ≤ p.size ∧ p.size ≤ 120)
  clear hk hr hc hs hl hp HWI HLL
  go_enter Try.func35, Try.ntmps35
  go_upto_region 5 with (first | (go_at_call 50; go_loud ((with_reducible refine (impl_isSuffixes.calls kk s A c l true _ HR.out HC.out HK.out).mono ?_); rintro e w1 ⟨rfl, hb⟩; have hpc := (hb.cell (p := ⟨w.heap.size + 1 + 1, 0, none⟩) (by rw [(boxes w _ _ _ _ _ _).2.2.2]; show w.heap.size + 1 + 1 < _; omega)).trans (boxes w _ _ _ _ _ _).2.2.1; have HB2 := Aside0.mk hb; clear hb)) | (go_at_call 44; go_loud ((with_reducible refine (impl_within.calls (p.size : Int) 1 120 true _ W2.out).mono ?_); rintro e w2 ⟨rfl, ⟨nd, rfl⟩⟩; have hcf := one_cell (alloc_one (w1.drewN nd) (.int .i64 0) 3); have hcf1 : ((w1.drewN nd).alloc (.cells #[.int .i64 0] 3)).cell? ⟨w1.heap.size, 0, none⟩ = some (.int .i64 0) := hcf.1; have hcf2 : ((w1.drewN nd).alloc (.cells #[.int .i64 0] 3)).frozen? ⟨w1.heap.size, 0, none⟩ = false := hcf.2; clear hcf)))
  obtain ⟨F1, F2, F3, F4, F5, F6⟩ := start5 w w1 nd _ _ _ _ _ _ HB2.out
  generalize ((w1.drewN nd).alloc (.cells #[.int .i64 0] 3)).setCell ⟨w1.heap.size, 0, none⟩ (.int .i64 0) = W5 at *
  have G1 := Aside0.mk F1
  have G2 := Aside0.mk F2
  have G3 := Aside0.mk F3
  have G4 := Aside0.mk F4
  have G5 := Aside0.mk F5
  have G6 := Aside0.mk F6
  have hcap : l.length ≤ c := HC.out
  clear F1 F2 F3 F4 F5 F6 hpc hcf1 hcf2 HB HR HK W2
  have hw2 : ∀ t : Nat, t < l.length → ∃ x : Nat, rd l (t : Int) = (x : Int) ∧ x ≤ s.size ∧ less2 s p l t = ltS (suf s x) p := by
    intro t ht
    obtain ⟨a1, a2, a3⟩ := within_get HW.out t ht
    exact ⟨(rd l (t : Int)).toNat, by omega, by omega, rfl⟩
  have hw3 : ∀ t : Nat, t < l.length → ∃ x : Nat, rd l (t : Int) = (x : Int) ∧ x ≤ s.size ∧ less3 s p l t = !(ltS p (cut (suf s x) p)) := by
    intro t ht
    obtain ⟨a1, a2, a3⟩ := within_get HW.out t ht
    exact ⟨(rd l (t : Int)).toNat, by omega, by omega, rfl⟩
  have H2 := (halve2 s p A c l (less2 s p l) w.heap.size (w.heap.size + 1) (w.heap.size + 1 + 1) w1.heap.size 0 0 w W5 HR0.out G1.out (by have := G6.out; omega) (by have := G6.out; omega) (by have := G6.out; omega) G6.out G2.out G3.out G4.out G5.out hw2 (Nat.zero_le _) (by have := HS.out; omega) (by omega) (by have := HS.out; omega) (by have := HS.out; omega)).mono (R' := fun e w' => e = .returned (.int .i64 (((fr s p l).1 : Nat) : Int)) ∧ Below w1.heap.size W5 w' ∧ w'.heap[w1.heap.size]? = some (.cells #[.int .i64 (((fr s p l).2 : Nat) : Int)] 3 (0, 0))) (fun e w' h => h)
  have e0 : ((0 : Nat) : Int) = 0 := rfl
  rw [e0] at H2
  have HH2 := Aside0.mk H2
  have HW3 := Aside0.mk hw3
  clear H2 e0 hw2 hw3
  go_upto_region 6 with (go_at_call 54; go_loud ((with_reducible refine HH2.out.mono ?_); rintro e w6 ⟨rfl, hb6, hc6⟩; have HB6 := Aside0.mk hb6; have HC6 := Aside0.mk hc6; clear hb6 hc6))
  have hfb := hv_bound (less2 s p l) (l.length - 0) 0 l.length 0 (Nat.zero_le _)
  have hfb2 : (fr s p l).1 ≤ l.length ∧ (fr s p l).2 ≤ l.length := ⟨hfb.2.1, by have := hfb.2.2; unfold fr; omega⟩
  have HFB := Aside0.mk hfb2
  have htb := hv_bound (less3 s p l) (l.length - (fr s p l).1) (fr s p l).1 l.length (fr s p l).2 hfb2.1
  have HTB := Aside0.mk (show (fr s p l).1 ≤ (tt s p l).1 ∧ (tt s p l).1 ≤ l.length from ⟨htb.1, htb.2.1⟩)
  have HH3 := Aside0.mk ((halve3 s p A c l (less3 s p l) w.heap.size (w.heap.size + 1) (w.heap.size + 1 + 1) w1.heap.size (fr s p l).1 (fr s p l).2 w w6 HR0.out (G1.out.trans (HB6.out.mono (by have := G6.out; omega))) (by have := G6.out; omega) (by have := G6.out; omega) (by have := G6.out; omega) G6.out
    ((HB6.out.cell (p := ⟨w.heap.size, 0, none⟩) (by show w.heap.size < _; have := G6.out; omega)).trans G2.out) ((HB6.out.cell (p := ⟨w.heap.size + 1, 0, none⟩) (by show w.heap.size + 1 < _; have := G6.out; omega)).trans G3.out) ((HB6.out.cell (p := ⟨w.heap.size + 1 + 1, 0, none⟩) (by show w.heap.size + 1 + 1 < _; have := G6.out; omega)).trans G4.out) HC6.out HW3.out hfb2.1 (by have := HS.out; omega) (by have := HS.out; omega) (by have := HS.out; omega) (by have := HS.out; omega)).mono (R' := fun e w' => e = .returned (.int .i64 (((tt s p l).1 : Nat) : Int)) ∧ Below w1.heap.size w6 w' ∧ w'.heap[w1.heap.size]? = some (.cells #[.int .i64 (((tt s p l).2 : Nat) : Int)] 3 (0, 0))) (fun e w' h => h))
  clear hfb hfb2 htb HH2 HW3
  go_upto_region 7 with (go_at_call 54; go_loud ((with_reducible refine HH3.out.mono ?_); rintro e w7 ⟨rfl, hb7, hc7⟩; have HB7 := Aside0.mk hb7; have HC7 := Aside0.mk hc7; clear hb7 hc7))
  have h73 := (HB7.out.cell (p := ⟨w.heap.size + 1, 0, none⟩) (by show w.heap.size + 1 < _; have := G6.out; omega)).trans ((HB6.out.cell (p := ⟨w.heap.size + 1, 0, none⟩) (by show w.heap.size + 1 < _; have := G6.out; omega)).trans G3.out)
  have HBW := Aside0.mk ((G1.out.trans (HB6.out.mono (by have := G6.out; omega))).trans (HB7.out.mono (by have := G6.out; omega)))
  obtain ⟨i032, hi032, _, hsz32, _⟩ := info_parts info3
  obtain ⟨A32, hcut32, hA32, hC32⟩ := print_mid_of (P := Try.prog) (Value.int .i64) 0 22 3 .i64 .i64 Try.underlying22 hi032 hsz32 A c l (((fr s p l).1 : Nat) : Int) (((tt s p l).1 : Nat) : Int) (by omega) (by have := HTB.out; omega) (by have := HTB.out; omega) hcap
  have HRM : Aside0 (Kd.C (Kd.int .i64) w7 A32 _ _) := Aside0.mk (Kd.C_of_reads (h1 := fun _ => rfl) (hA32 _ (Kd.reads_of_C (Kd.C_below HR0.out HBW.out))))
  clear hA32 hC32 hi032 hsz32
  rw [Int.toNat_natCast, Int.toNat_natCast] at HRM hcut32
  have hml : ((l.take (tt s p l).1).drop (fr s p l).1).length ≤ 1048576 := by
    have := HS.out
    simp
    omega
  have HML := Aside0.mk hml
  clear hml
  have emid : (l.take (tt s p l).1).drop (fr s p l).1 = mid s p l := rfl
  rw [emid] at HRM HML hcut32
  clear emid
  go_upto_region 8 with (go_at_call 57; go_loud ((with_reducible refine (Rws.clone_int A32 _ (mid s p l) _ HRM.out HML.out).mono ?_); rintro e w8 ⟨v8, rfl, ho, hb⟩; have HO8 := Aside0.mk ho; have HB8 := Aside0.mk hb; clear ho hb))
  have HN8 := Aside0.mk (fun (k : Nat) (hk : v8.ownBlock = some k) => ((Kd.R_bound HO8.out).1 k hk).2.1)
  have HBLT := Aside0.mk (show w1.heap.size < w7.heap.size from by
    by_cases h : w1.heap.size < w7.heap.size
    · exact h
    · have h9 := HC7.out
      rw [Array.getElem?_eq_none (by omega)] at h9
      cases h9)
  go_upto_region 9 with (go_at_call 58; go_loud ((with_reducible refine (sortI_calls (mid s p l) v8 _ _ _ HO8.out HML.out).mono ?_); rintro e w9 ⟨rfl, ho, hg⟩; have HO9 := Aside0.mk ho; have HG9 := Aside0.mk hg; clear ho hg))
  have HB9 := Aside0.mk ((below_step HBW.out HB8.out).grown HG9.out (by have h1 := HBW.out.size; have h2 := HB8.out.size; omega) (fun k hk => by have h1 := HN8.out k hk; have h2 := HBW.out.size; omega))
  have hcz : w9.cell? ⟨w1.heap.size, 0, none⟩ = some (.int .i64 (((tt s p l).2 : Nat) : Int)) := by
    have h1 := (one_cell HC7.out).1
    have h2 := HBLT.out
    have h3 := (HB8.out.cell (p := ⟨w1.heap.size, 0, none⟩) h2).trans h1
    refine (World.cell?_of_block (w := w8) (HG9.out.block w1.heap.size (by have := HB8.out.size; omega) (fun e => ?_))).trans h3
    have := HN8.out _ e.symm
    omega
  have HRE := Aside0.mk (Kd.R_lower HO9.out HBW.out.size)
  go_quiet (fail)
  go_wp2
  go_ret3
  exact ⟨_, rfl, Kd.R_drewN HRE.out _, pw_below_drewN HB9.out _⟩
theorem calls (s : ByteArray) (A : Option Addr) (c : Nat) (l : List Int) (p : ByteArray) (w : World) (hr : Kd.C (Kd.int .i64) w A l.length l) (hc : l.length ≤ c) :
    Calls Try.prog 35 #[.string s, .slice A l.length c, .string p] w fun e w' => ∃ v0_ : Value, e = .returned (.tuple #[v0_, .int .i64 (ansFind s l p).2.1, .bool (ansFind s l p).2.2]) ∧ Kd.R (Kd.int .i64) 3 w' w.heap.size (fun _ => True) v0_ (ansFind s l p).1 ∧ Below w.heap.size w w' := by
  unfold ansFind
  cases h : okF s l p with
  | true =>
    have h2 := of_decide_eq_true h
    exact good s A c l p w hr hc h2.1.1 h2.1.2 h2.2
  | false => exact bad s A c l p w hr hc h
end Go.Proofs.Ytppmigiknidjhaa.Fi
end

section
-- Written by a program of this session (pprint.py) out of the translation's print; Lean checks it.
namespace Go.Proofs.Ytppmigiknidjhaa.PQ
open Go.RowKit Go.Proofs.YtppmigiknidjhaaW.PrintWords Go.Proofs.YtppmigiknidjhaaW.PrintLast Go.Proofs.YtppmigiknidjhaaW.PrintMore
attribute [local go_sem] max2_int min2_int max_two min_two max_three min_three max_four min_four   -- for this text's walks alone
set_option linter.unusedVariables false
set_option linter.unusedSimpArgs false

--OWNPART impl_FindIn
/-! ### impl_FindIn: function 35, by hand -/
--NEEDS loop.example/g00274/impl.within
--NEEDS loop.example/g00274/impl.isSuffixes
--IMPORT FiV
def impl_FindIn.f (a0 : ByteArray) (l1 : List Int) (a2 : ByteArray) : Option (List Int × Int × Bool) := some (Fi.ansFind a0 l1 a2)
theorem impl_FindIn.calls (a0 : ByteArray) (A1 : Option Addr) (c1 : Nat) (l1 : List Int) (a2 : ByteArray) (r1 : List Int) (r2 : Int) (r3 : Bool) (w : World) (hr1 : Kd.C (Kd.int .i64) w A1 l1.length l1) (hc1 : l1.length ≤ c1) (h : impl_FindIn.f a0 l1 a2 = some (r1, r2, r3)) :
    Calls Try.prog 35 #[.string a0, .slice A1 l1.length c1, .string a2] w fun e w' => ∃ v0_ : Value, e = .returned (.tuple #[v0_, .int .i64 r2, .bool r3]) ∧ Kd.R (Kd.int .i64) 3 w' w.heap.size (fun _ => True) v0_ r1 ∧ Below w.heap.size w w' := by
  unfold impl_FindIn.f at h
  have h1 := Option.some.inj h
  have := Fi.calls a0 A1 c1 l1 a2 w hr1 hc1
  rw [h1] at this
  exact this

end Go.Proofs.Ytppmigiknidjhaa.PQ
end

section
-- Written by a program of this session (pprint.py) out of the translation's print; Lean checks it.
namespace Go.Proofs.Ytppmigiknidjhaa.PQ
open Go.RowKit Go.Proofs.YtppmigiknidjhaaW.PrintWords Go.Proofs.YtppmigiknidjhaaW.PrintLast Go.Proofs.YtppmigiknidjhaaW.PrintMore
attribute [local go_sem] max2_int min2_int max_two min_two max_three min_three max_four min_four   -- for this text's walks alone
set_option linter.unusedVariables false
set_option linter.unusedSimpArgs false

/-! ### laws_FnExactFindIn: function 12 -/
mutual
def laws_FnExactFindIn.j0 : Nat → ByteArray → List Int → ByteArray → List Int → Int → Bool → List Int → List Int → Int → Bool → Bool → Option (Bool)
  | 0, _, _, _, _, _, _, _, _, _, _, _ => none
  | k + 1, x0, x1, x2, x7, x8, x9, x10, x11, x12, x13, x61 => if x61 = true then (some false) else ((laws_toIntS.f k x1).bind fun t585 => ((laws_eqIntS.f k x10 t585).bind fun t588 => (if t588 = true then ((laws_markIntS.f k x10 1).bind fun bt589 => (if bt589.1 < 0 then (laws_FnExactFindIn.j1 k x0 x1 x2 x7 x8 x9 x11 true) else ((laws_eqIntS.f k x11 x7).bind fun t591 => (if t591 = true then (if x12 = x8 then (laws_FnExactFindIn.j1 k x0 x1 x2 x7 x8 x9 x11 (x13 != x9)) else (laws_FnExactFindIn.j1 k x0 x1 x2 x7 x8 x9 x11 true)) else (laws_FnExactFindIn.j1 k x0 x1 x2 x7 x8 x9 x11 true))))) else (some false))))
def laws_FnExactFindIn.j1 : Nat → ByteArray → List Int → ByteArray → List Int → Int → Bool → List Int → Bool → Option (Bool)
  | 0, _, _, _, _, _, _, _, _ => none
  | k + 1, x0, x1, x2, x7, x8, x9, x11, x87 => if x87 = true then (some false) else ((laws_markIntS.f k x11 1).bind fun bt592 => ((laws_heldIntS.f k bt592.2 1).bind fun t594 => (if t594 < 0 then (some false) else (if t594 = bt592.1 then ((laws_toIntS.f k x1).bind fun t595 => ((impl_FindIn.f x0 t595 x2).bind fun bt598 => ((laws_eqIntS.f k bt598.1 x7).bind fun t603 => (if t603 = true then (if bt598.2.1 = x8 then (laws_FnExactFindIn.j2 k bt592.2 bt592.1 (bt598.2.2 != x9)) else (laws_FnExactFindIn.j2 k bt592.2 bt592.1 true)) else (laws_FnExactFindIn.j2 k bt592.2 bt592.1 true))))) else (some false)))))
def laws_FnExactFindIn.j2 : Nat → List Int → Int → Bool → Option (Bool)
  | 0, _, _, _ => none
  | k + 1, x11, x15, x121 => if x121 = true then (some false) else ((laws_heldIntS.f k x11 1).bind fun t604 => (if t604 < 0 then (some false) else (if t604 = x15 then (some true) else (some false))))
end
def laws_FnExactFindIn.f (k : Nat) (a0 : ByteArray) (l1 : List Int) (a2 : ByteArray) : Option (Bool) := if (a0.size : Int) > 1048576 then (some true) else (if (l1.length : Int) > 1048576 then (some true) else (if (a2.size : Int) > 1048576 then (some true) else ((laws_toIntS.f k l1).bind fun t568 => ((spec_FindIn.f k a0 t568 a2).bind fun bt571 => ((laws_toIntS.f k l1).bind fun t576 => ((impl_FindIn.f a0 t576 a2).bind fun bt579 => ((laws_eqIntS.f k bt579.1 bt571.1).bind fun t584 => (if t584 = true then (if bt579.2.1 = bt571.2.1 then (laws_FnExactFindIn.j0 k a0 l1 a2 bt571.1 bt571.2.1 bt571.2.2 t576 bt579.1 bt579.2.1 bt579.2.2 (bt579.2.2 != bt571.2.2)) else (laws_FnExactFindIn.j0 k a0 l1 a2 bt571.1 bt571.2.1 bt571.2.2 t576 bt579.1 bt579.2.1 bt579.2.2 true)) else (laws_FnExactFindIn.j0 k a0 l1 a2 bt571.1 bt571.2.1 bt571.2.2 t576 bt579.1 bt579.2.1 bt579.2.2 true)))))))))
theorem laws_FnExactFindIn.mono_l : ∀ k, (∀ y0 y1 y2 y3 y4 y5 y6 y7 y8 y9 y10, LeO (laws_FnExactFindIn.j0 k y0 y1 y2 y3 y4 y5 y6 y7 y8 y9 y10) (laws_FnExactFindIn.j0 (k + 1) y0 y1 y2 y3 y4 y5 y6 y7 y8 y9 y10)) ∧ (∀ y0 y1 y2 y3 y4 y5 y6 y7, LeO (laws_FnExactFindIn.j1 k y0 y1 y2 y3 y4 y5 y6 y7) (laws_FnExactFindIn.j1 (k + 1) y0 y1 y2 y3 y4 y5 y6 y7)) ∧ (∀ y0 y1 y2, LeO (laws_FnExactFindIn.j2 k y0 y1 y2) (laws_FnExactFindIn.j2 (k + 1) y0 y1 y2))
  | 0 => ⟨fun _ _ _ _ _ _ _ _ _ _ _ r h => by simp [laws_FnExactFindIn.j0] at h, fun _ _ _ _ _ _ _ _ r h => by simp [laws_FnExactFindIn.j1] at h, fun _ _ _ r h => by simp [laws_FnExactFindIn.j2] at h⟩
  | k + 1 => by
    obtain ⟨ih0, ih1, ih2⟩ := laws_FnExactFindIn.mono_l k
    refine ⟨?_, ?_, ?_⟩
    · intro y0 y1 y2 y3 y4 y5 y6 y7 y8 y9 y10
      unfold laws_FnExactFindIn.j0
      repeat' first
      | (with_reducible exact ih0 _ _ _ _ _ _ _ _ _ _ _)
      | (with_reducible exact ih1 _ _ _ _ _ _ _ _)
      | (with_reducible exact ih2 _ _ _)
      | (with_reducible exact laws_eqIntS.mono _ _ _)
      | (with_reducible exact laws_heldIntS.mono _ _ _)
      | (with_reducible exact laws_markIntS.mono _ _ _)
      | (with_reducible exact laws_toIntS.mono _ _)
      | (with_reducible exact spec_FindIn.mono _ _ _ _)
      | (with_reducible exact LeO.refl _)
      | (with_reducible exact LeO.none _)
      | (with_reducible refine LeO.ite ?_ ?_)
      | (with_reducible refine LeO.bind ?_ (fun _ => ?_))
      | exact ih0 _ _ _ _ _ _ _ _ _ _ _
      | exact ih1 _ _ _ _ _ _ _ _
      | exact ih2 _ _ _
      | exact laws_eqIntS.mono _ _ _
      | exact laws_heldIntS.mono _ _ _
      | exact laws_markIntS.mono _ _ _
      | exact laws_toIntS.mono _ _
      | exact spec_FindIn.mono _ _ _ _
      | exact LeO.none _
      | refine LeO.ite ?_ ?_
      | refine LeO.bind ?_ (fun _ => ?_)
    · intro y0 y1 y2 y3 y4 y5 y6 y7
      unfold laws_FnExactFindIn.j1
      repeat' first
      | (with_reducible exact ih0 _ _ _ _ _ _ _ _ _ _ _)
      | (with_reducible exact ih1 _ _ _ _ _ _ _ _)
      | (with_reducible exact ih2 _ _ _)
      | (with_reducible exact laws_eqIntS.mono _ _ _)
      | (with_reducible exact laws_heldIntS.mono _ _ _)
      | (with_reducible exact laws_markIntS.mono _ _ _)
      | (with_reducible exact laws_toIntS.mono _ _)
      | (with_reducible exact spec_FindIn.mono _ _ _ _)
      | (with_reducible exact LeO.refl _)
      | (with_reducible exact LeO.none _)
      | (with_reducible refine LeO.ite ?_ ?_)
      | (with_reducible refine LeO.bind ?_ (fun _ => ?_))
      | exact ih0 _ _ _ _ _ _ _ _ _ _ _
      | exact ih1 _ _ _ _ _ _ _ _
      | exact ih2 _ _ _
      | exact laws_eqIntS.mono _ _ _
      | exact laws_heldIntS.mono _ _ _
      | exact laws_markIntS.mono _ _ _
      | exact laws_toIntS.mono _ _
      | exact spec_FindIn.mono _ _ _ _
      | exact LeO.none _
      | refine LeO.ite ?_ ?_
      | refine LeO.bind ?_ (fun _ => ?_)
    · intro y0 y1 y2
      unfold laws_FnExactFindIn.j2
      repeat' first
      | (with_reducible exact ih0 _ _ _ _ _ _ _ _ _ _ _)
      | (with_reducible exact ih1 _ _ _ _ _ _ _ _)
      | (with_reducible exact ih2 _ _ _)
      | (with_reducible exact laws_eqIntS.mono _ _ _)
      | (with_reducible exact laws_heldIntS.mono _ _ _)
      | (with_reducible exact laws_markIntS.mono _ _ _)
      | (with_reducible exact laws_toIntS.mono _ _)
      | (with_reducible exact spec_FindIn.mono _ _ _ _)
      | (with_reducible exact LeO.refl _)
      | (with_reducible exact LeO.none _)
      | (with_reducible refine LeO.ite ?_ ?_)
      | (with_reducible refine LeO.bind ?_ (fun _ => ?_))
      | exact ih0 _ _ _ _ _ _ _ _ _ _ _
      | exact ih1 _ _ _ _ _ _ _ _
      | exact ih2 _ _ _
      | exact laws_eqIntS.mono _ _ _
      | exact laws_heldIntS.mono _ _ _
      | exact laws_markIntS.mono _ _ _
      | exact laws_toIntS.mono _ _
      | exact spec_FindIn.mono _ _ _ _
      | exact LeO.none _
      | refine LeO.ite ?_ ?_
      | refine LeO.bind ?_ (fun _ => ?_)
theorem laws_FnExactFindIn.mono : ∀ a0 a1 a2 k, LeO (laws_FnExactFindIn.f k a0 a1 a2) (laws_FnExactFindIn.f (k + 1) a0 a1 a2) := by
  intro a0 a1 a2 k
  obtain ⟨ih0, ih1, ih2⟩ := laws_FnExactFindIn.mono_l k
  unfold laws_FnExactFindIn.f
  repeat' first
      | (with_reducible exact ih0 _ _ _ _ _ _ _ _ _ _ _)
      | (with_reducible exact ih1 _ _ _ _ _ _ _ _)
      | (with_reducible exact ih2 _ _ _)
      | (with_reducible exact laws_eqIntS.mono _ _ _)
      | (with_reducible exact laws_heldIntS.mono _ _ _)
      | (with_reducible exact laws_markIntS.mono _ _ _)
      | (with_reducible exact laws_toIntS.mono _ _)
      | (with_reducible exact spec_FindIn.mono _ _ _ _)
      | (with_reducible exact LeO.refl _)
      | (with_reducible exact LeO.none _)
      | (with_reducible refine LeO.ite ?_ ?_)
      | (with_reducible refine LeO.bind ?_ (fun _ => ?_))
      | exact ih0 _ _ _ _ _ _ _ _ _ _ _
      | exact ih1 _ _ _ _ _ _ _ _
      | exact ih2 _ _ _
      | exact laws_eqIntS.mono _ _ _
      | exact laws_heldIntS.mono _ _ _
      | exact laws_markIntS.mono _ _ _
      | exact laws_toIntS.mono _ _
      | exact spec_FindIn.mono _ _ _ _
      | exact LeO.none _
      | refine LeO.ite ?_ ?_
      | refine LeO.bind ?_ (fun _ => ?_)
set_option maxHeartbeats 8000000 in
set_option maxRecDepth 100000 in
theorem laws_FnExactFindIn.calls (k : Nat) (a0 : ByteArray) (A1 : Option Addr) (c1 : Nat) (l1 : List Int) (a2 : ByteArray) (r : Bool) (w : World) (hr1 : Kd.C (Kd.int .i64) w A1 l1.length l1) (hc1 : l1.length ≤ c1) (h : laws_FnExactFindIn.f k a0 l1 a2 = some r) :
    Calls Try.prog 12 #[.string a0, .slice A1 l1.length c1, .string a2] w fun e w' => e = .returned (.bool r) ∧ Below w.heap.size w w' := by
  have HR1 := Aside0.mk hr1
  have HC1 := Aside0.mk hc1
  clear hr1 hc1
  have HB := Aside0.mk (Below.refl w.heap.size w)
  have H : (if (a0.size : Int) > 1048576 then (some true) else (if (l1.length : Int) > 1048576 then (some true) else (if (a2.size : Int) > 1048576 then (some true) else ((laws_toIntS.f k l1).bind fun t568 => ((spec_FindIn.f k a0 t568 a2).bind fun bt571 => ((laws_toIntS.f k l1).bind fun t576 => ((impl_FindIn.f a0 t576 a2).bind fun bt579 => ((laws_eqIntS.f k bt579.1 bt571.1).bind fun t584 => (if t584 = true then (if bt579.2.1 = bt571.2.1 then (laws_FnExactFindIn.j0 k a0 l1 a2 bt571.1 bt571.2.1 bt571.2.2 t576 bt579.1 bt579.2.1 bt579.2.2 (bt579.2.2 != bt571.2.2)) else (laws_FnExactFindIn.j0 k a0 l1 a2 bt571.1 bt571.2.1 bt571.2.2 t576 bt579.1 bt579.2.1 bt579.2.2 true)) else (laws_FnExactFindIn.j0 k a0 l1 a2 bt571.1 bt571.2.1 bt571.2.2 t576 bt579.1 bt579.2.1 bt579.2.2 true)))))))))) = some r := h
  clear h
  by_cases c4 : (a0.size : Int) > 1048576
  · rw [if_pos c4] at H
    have c4b0 : decide (1048576 < (a0.size : Int)) = true := decide_eq_true c4
    have c4b1 : decide (1048576 < a0.size) = true := decide_eq_true (by omega)
    clear c4
    obtain rfl := Option.some.inj H
    go_enter Try.func12, Try.ntmps12
    go_wp2
    go_ret
    exact ⟨by first | rfl | (simp [errW_none, errW_some] <;> rfl) | (simp [*, errW_none, errW_some] <;> rfl), by repeat (first | (with_reducible first | exact HB.out | apply below_alloc | apply pw_below_drewN | apply below_drew1) | exact HB.out)⟩
  · rw [if_neg c4] at H
    have c4b0 : decide (1048576 < (a0.size : Int)) = false := decide_eq_false c4
    have c4b1 : decide (1048576 < a0.size) = false := decide_eq_false (by omega)
    clear c4
    by_cases c5 : (l1.length : Int) > 1048576
    · rw [if_pos c5] at H
      have c5b0 : decide (1048576 < (l1.length : Int)) = true := decide_eq_true c5
      have c5b1 : decide (1048576 < l1.length) = true := decide_eq_true (by omega)
      clear c5
      obtain rfl := Option.some.inj H
      go_enter Try.func12, Try.ntmps12
      go_wp2
      go_ret
      exact ⟨by first | rfl | (simp [errW_none, errW_some] <;> rfl) | (simp [*, errW_none, errW_some] <;> rfl), by repeat (first | (with_reducible first | exact HB.out | apply below_alloc | apply pw_below_drewN | apply below_drew1) | exact HB.out)⟩
    · rw [if_neg c5] at H
      have c5b0 : decide (1048576 < (l1.length : Int)) = false := decide_eq_false c5
      have c5b1 : decide (1048576 < l1.length) = false := decide_eq_false (by omega)
      clear c5
      by_cases c6 : (a2.size : Int) > 1048576
      · rw [if_pos c6] at H
        have c6b0 : decide (1048576 < (a2.size : Int)) = true := decide_eq_true c6
        have c6b1 : decide (1048576 < a2.size) = true := decide_eq_true (by omega)
        clear c6
        obtain rfl := Option.some.inj H
        go_enter Try.func12, Try.ntmps12
        go_wp2
        go_ret
        exact ⟨by first | rfl | (simp [errW_none, errW_some] <;> rfl) | (simp [*, errW_none, errW_some] <;> rfl), by repeat (first | (with_reducible first | exact HB.out | apply below_alloc | apply pw_below_drewN | apply below_drew1) | exact HB.out)⟩
      · rw [if_neg c6] at H
        have c6b0 : decide (1048576 < (a2.size : Int)) = false := decide_eq_false c6
        have c6b1 : decide (1048576 < a2.size) = false := decide_eq_false (by omega)
        clear c6
        replace H := Option.bind_eq_some_iff.mp H
        obtain ⟨t568, A70, H⟩ := H
        replace H : ((spec_FindIn.f k a0 t568 a2).bind fun bt571 => ((laws_toIntS.f k l1).bind fun t576 => ((impl_FindIn.f a0 t576 a2).bind fun bt579 => ((laws_eqIntS.f k bt579.1 bt571.1).bind fun t584 => (if t584 = true then (if bt579.2.1 = bt571.2.1 then (laws_FnExactFindIn.j0 k a0 l1 a2 bt571.1 bt571.2.1 bt571.2.2 t576 bt579.1 bt579.2.1 bt579.2.2 (bt579.2.2 != bt571.2.2)) else (laws_FnExactFindIn.j0 k a0 l1 a2 bt571.1 bt571.2.1 bt571.2.2 t576 bt579.1 bt579.2.1 bt579.2.2 true)) else (laws_FnExactFindIn.j0 k a0 l1 a2 bt571.1 bt571.2.1 bt571.2.2 t576 bt579.1 bt579.2.1 bt579.2.2 true)))))) = some r := H
        have A7 := Aside0.mk A70
        clear A70
        replace H := Option.bind_eq_some_iff.mp H
        obtain ⟨⟨t571, t572, t573⟩, A80, H⟩ := H
        replace H : ((laws_toIntS.f k l1).bind fun t576 => ((impl_FindIn.f a0 t576 a2).bind fun bt579 => ((laws_eqIntS.f k bt579.1 t571).bind fun t584 => (if t584 = true then (if bt579.2.1 = t572 then (laws_FnExactFindIn.j0 k a0 l1 a2 t571 t572 t573 t576 bt579.1 bt579.2.1 bt579.2.2 (bt579.2.2 != t573)) else (laws_FnExactFindIn.j0 k a0 l1 a2 t571 t572 t573 t576 bt579.1 bt579.2.1 bt579.2.2 true)) else (laws_FnExactFindIn.j0 k a0 l1 a2 t571 t572 t573 t576 bt579.1 bt579.2.1 bt579.2.2 true))))) = some r := H
        have A8 := Aside0.mk A80
        clear A80
        replace H := Option.bind_eq_some_iff.mp H
        obtain ⟨t576, A90, H⟩ := H
        replace H : ((impl_FindIn.f a0 t576 a2).bind fun bt579 => ((laws_eqIntS.f k bt579.1 t571).bind fun t584 => (if t584 = true then (if bt579.2.1 = t572 then (laws_FnExactFindIn.j0 k a0 l1 a2 t571 t572 t573 t576 bt579.1 bt579.2.1 bt579.2.2 (bt579.2.2 != t573)) else (laws_FnExactFindIn.j0 k a0 l1 a2 t571 t572 t573 t576 bt579.1 bt579.2.1 bt579.2.2 true)) else (laws_FnExactFindIn.j0 k a0 l1 a2 t571 t572 t573 t576 bt579.1 bt579.2.1 bt579.2.2 true)))) = some r := H
        have A9 := Aside0.mk A90
        clear A90
        replace H := Option.bind_eq_some_iff.mp H
        obtain ⟨⟨t579, t580, t581⟩, A100, H⟩ := H
        replace H : ((laws_eqIntS.f k t579 t571).bind fun t584 => (if t584 = true then (if t580 = t572 then (laws_FnExactFindIn.j0 k a0 l1 a2 t571 t572 t573 t576 t579 t580 t581 (t581 != t573)) else (laws_FnExactFindIn.j0 k a0 l1 a2 t571 t572 t573 t576 t579 t580 t581 true)) else (laws_FnExactFindIn.j0 k a0 l1 a2 t571 t572 t573 t576 t579 t580 t581 true))) = some r := H
        have A10 := Aside0.mk A100
        clear A100
        have HC11 := Aside0.mk H
        clear H
        go_enter Try.func12, Try.ntmps12
        go_upto_region 10 with (first | ((with_reducible refine gate_callee (f := 24) rfl ?_); refine goesL_ (some 32) rfl rfl Try.func24 (by kernel_rfl) rfl #[.slice A1 l1.length c1] rfl (by (try simp only [List.map_toArray, List.map_cons, List.map_nil]); first | done | rfl | (simp only [List.length_drop, List.length_take]; rfl)) ?_; (with_reducible refine (laws_toIntS.calls k _ _ l1 t568 _ ?side1 ?side2 A7.out).mono ?_); (case side1 => repeat (first | exact HR1.out | (with_reducible refine Kd.C_alloc ?_ _) | (with_reducible refine Kd.C_drewN ?_ _) | (with_reducible refine Kd.C_drew ?_))); (case side2 => exact HC1.out); rintro e w12 ⟨v569, rfl, ho0, hb⟩; refine ⟨_, rfl, ?_⟩; have n0_ := Aside0.mk (Kd.R_lower ho0 (below_size (by repeat (first | (with_reducible first | exact HB.out | apply below_alloc | apply pw_below_drewN | apply below_drew1) | exact HB.out)))); have n1_ := Aside0.mk (below_step (by repeat (first | (with_reducible first | exact HB.out | apply below_alloc | apply pw_below_drewN | apply below_drew1) | exact HB.out)) hb); clear HB; have HO570 := n0_; have HB := n1_; clear n0_ n1_; (try clear hb); (try clear hb2); (try clear hk); (try clear hi); (try clear ho0); obtain ⟨Ao13, co13, eo13⟩ := Kd.R_slice HO570.out; subst eo13) | ((with_reducible refine gate_callee (f := 34) rfl ?_); refine goesL_ (some 34) rfl rfl Try.func34 (by kernel_rfl) rfl #[.string a0, .slice Ao13 t568.length co13, .string a2] rfl (by (try simp only [List.map_toArray, List.map_cons, List.map_nil]); first | done | rfl | (simp only [List.length_drop, List.length_take]; rfl)) ?_; (with_reducible refine (spec_FindIn.calls k a0 _ _ t568 a2 t571 t572 t573 _ ?side1 ?side2 A8.out).mono ?_); (case side1 => repeat (first | exact (Kd.R_reads' HO570.out).2.2 | (with_reducible refine Kd.C_alloc ?_ _) | (with_reducible refine Kd.C_drewN ?_ _) | (with_reducible refine Kd.C_drew ?_))); (case side2 => exact (Kd.R_reads' HO570.out).2.1); rintro e w14 ⟨v574, rfl, ho0, hb⟩; refine ⟨_, rfl, ?_⟩; have n0_ := Aside0.mk (Kd.R_elder' (by (with_reducible repeat (first | apply Kd.R_alloc | apply Kd.R_drewN | apply Kd.R_drew)); exact HO570.out) (Kd.R_base ho0) hb); have n1_ := Aside0.mk (Kd.R_lower (Kd.R_new' ho0 (Kd.R_lt (by (with_reducible repeat (first | apply Kd.R_alloc | apply Kd.R_drewN | apply Kd.R_drew)); exact HO570.out))) (below_size (by repeat (first | (with_reducible first | exact HB.out | apply below_alloc | apply pw_below_drewN | apply below_drew1) | exact HB.out)))); have n2_ := Aside0.mk (below_step (by repeat (first | (with_reducible first | exact HB.out | apply below_alloc | apply pw_below_drewN | apply below_drew1) | exact HB.out)) hb); clear HO570; clear HB; have HO570 := n0_; have HO575 := n1_; have HB := n2_; clear n0_ n1_ n2_; (try clear hb); (try clear hb2); (try clear hk); (try clear hi); (try clear ho0)) | ((with_reducible refine gate_callee (f := 24) rfl ?_); refine goesL_ (some 39) rfl rfl Try.func24 (by kernel_rfl) rfl #[.slice A1 l1.length c1] rfl (by (try simp only [List.map_toArray, List.map_cons, List.map_nil]); first | done | rfl | (simp only [List.length_drop, List.length_take]; rfl)) ?_; (with_reducible refine (laws_toIntS.calls k _ _ l1 t576 _ ?side1 ?side2 A9.out).mono ?_); (case side1 => repeat (first | exact (Kd.C_below HR1.out HB.out) | (with_reducible refine Kd.C_alloc ?_ _) | (with_reducible refine Kd.C_drewN ?_ _) | (with_reducible refine Kd.C_drew ?_))); (case side2 => exact HC1.out); rintro e w15 ⟨v577, rfl, ho0, hb⟩; refine ⟨_, rfl, ?_⟩; have n0_ := Aside0.mk (Kd.R_elder' (by (with_reducible repeat (first | apply Kd.R_alloc | apply Kd.R_drewN | apply Kd.R_drew)); exact HO570.out) (Kd.R_base ho0) hb); have n1_ := Aside0.mk (Kd.R_elder' (by (with_reducible repeat (first | apply Kd.R_alloc | apply Kd.R_drewN | apply Kd.R_drew)); exact HO575.out) (Kd.R_base ho0) hb); have n2_ := Aside0.mk (Kd.R_lower (Kd.R_new' (Kd.R_new' ho0 (Kd.R_lt (by (with_reducible repeat (first | apply Kd.R_alloc | apply Kd.R_drewN | apply Kd.R_drew)); exact HO570.out))) (Kd.R_lt (by (with_reducible repeat (first | apply Kd.R_alloc | apply Kd.R_drewN | apply Kd.R_drew)); exact HO575.out))) (below_size (by repeat (first | (with_reducible first | exact HB.out | apply below_alloc | apply pw_below_drewN | apply below_drew1) | exact HB.out)))); have n3_ := Aside0.mk (below_step (by repeat (first | (with_reducible first | exact HB.out | apply below_alloc | apply pw_below_drewN | apply below_drew1) | exact HB.out)) hb); clear HO570; clear HO575; clear HB; have HO570 := n0_; have HO575 := n1_; have HO578 := n2_; have HB := n3_; clear n0_ n1_ n2_ n3_; (try clear hb); (try clear hb2); (try clear hk); (try clear hi); (try clear ho0); obtain ⟨Ao16, co16, eo16⟩ := Kd.R_slice HO578.out; subst eo16) | ((with_reducible refine gate_callee (f := 35) rfl ?_); refine goesL_ (some 44) rfl rfl Try.func35 (by kernel_rfl) rfl #[.string a0, .slice Ao16 t576.length co16, .string a2] rfl (by (try simp only [List.map_toArray, List.map_cons, List.map_nil]); first | done | rfl | (simp only [List.length_drop, List.length_take]; rfl)) ?_; (with_reducible refine (impl_FindIn.calls a0 _ _ t576 a2 t579 t580 t581 _ ?side1 ?side2 A10.out).mono ?_); (case side1 => repeat (first | exact (Kd.R_reads' HO578.out).2.2 | (with_reducible refine Kd.C_alloc ?_ _) | (with_reducible refine Kd.C_drewN ?_ _) | (with_reducible refine Kd.C_drew ?_))); (case side2 => exact (Kd.R_reads' HO578.out).2.1); rintro e w17 ⟨v582, rfl, ho0, hb⟩; refine ⟨_, rfl, ?_⟩; have n0_ := Aside0.mk (Kd.R_elder' (by (with_reducible repeat (first | apply Kd.R_alloc | apply Kd.R_drewN | apply Kd.R_drew)); exact HO570.out) (Kd.R_base ho0) hb); have n1_ := Aside0.mk (Kd.R_elder' (by (with_reducible repeat (first | apply Kd.R_alloc | apply Kd.R_drewN | apply Kd.R_drew)); exact HO575.out) (Kd.R_base ho0) hb); have n2_ := Aside0.mk (Kd.R_elder' (by (with_reducible repeat (first | apply Kd.R_alloc | apply Kd.R_drewN | apply Kd.R_drew)); exact HO578.out) (Kd.R_base ho0) hb); have n3_ := Aside0.mk (Kd.R_lower (Kd.R_new' (Kd.R_new' (Kd.R_new' ho0 (Kd.R_lt (by (with_reducible repeat (first | apply Kd.R_alloc | apply Kd.R_drewN | apply Kd.R_drew)); exact HO570.out))) (Kd.R_lt (by (with_reducible repeat (first | apply Kd.R_alloc | apply Kd.R_drewN | apply Kd.R_drew)); exact HO575.out))) (Kd.R_lt (by (with_reducible repeat (first | apply Kd.R_alloc | apply Kd.R_drewN | apply Kd.R_drew)); exact HO578.out))) (below_size (by repeat (first | (with_reducible first | exact HB.out | apply below_alloc | apply pw_below_drewN | apply below_drew1) | exact HB.out)))); have n4_ := Aside0.mk (below_step (by repeat (first | (with_reducible first | exact HB.out | apply below_alloc | apply pw_below_drewN | apply below_drew1) | exact HB.out)) hb); clear HO570; clear HO575; clear HO578; clear HB; have HO570 := n0_; have HO575 := n1_; have HO578 := n2_; have HO583 := n3_; have HB := n4_; clear n0_ n1_ n2_ n3_ n4_; (try clear hb); (try clear hb2); (try clear hk); (try clear hi); (try clear ho0)))
        (try simp only [Act.put, List.setIfInBounds_toArray, List.set_cons_zero, List.set_cons_succ])
        go_cut [61] (fun v61 wc => ∃ (kq : Nat) (x61_10 : Bool), v61 = .bool x61_10 ∧ Aside0 (laws_FnExactFindIn.j0 kq a0 l1 a2 t571 t572 t573 t576 t579 t580 t581 x61_10 = some r) ∧ Aside0 (kq ≤ k) ∧ Aside0 (Kd.R (Kd.int .i64) 3 wc w.heap.size (fun k_ => some k_ ≠ ((.slice Ao16 t576.length co16) : Value).ownBlock ∧ some k_ ≠ (v582 : Value).ownBlock) v574 t571) ∧ Aside0 (Kd.R (Kd.int .i64) 3 wc w.heap.size (fun k_ => some k_ ≠ (v574 : Value).ownBlock ∧ some k_ ≠ (v582 : Value).ownBlock) (.slice Ao16 t576.length co16) t576) ∧ Aside0 (Kd.R (Kd.int .i64) 3 wc w.heap.size (fun k_ => some k_ ≠ (v574 : Value).ownBlock ∧ some k_ ≠ ((.slice Ao16 t576.length co16) : Value).ownBlock) v582 t579) ∧ Aside0 (Below w.heap.size w wc))
        case first =>
          have H := HC11.out
          clear HC11
          replace H := Option.bind_eq_some_iff.mp H
          obtain ⟨t584, A180, H⟩ := H
          replace H : (if t584 = true then (if t580 = t572 then (laws_FnExactFindIn.j0 k a0 l1 a2 t571 t572 t573 t576 t579 t580 t581 (t581 != t573)) else (laws_FnExactFindIn.j0 k a0 l1 a2 t571 t572 t573 t576 t579 t580 t581 true)) else (laws_FnExactFindIn.j0 k a0 l1 a2 t571 t572 t573 t576 t579 t580 t581 true)) = some r := H
          have A18 := Aside0.mk A180
          clear A180
          by_cases c19 : t584 = true
          · subst c19
            have H1 : (if t580 = t572 then (laws_FnExactFindIn.j0 k a0 l1 a2 t571 t572 t573 t576 t579 t580 t581 (t581 != t573)) else (laws_FnExactFindIn.j0 k a0 l1 a2 t571 t572 t573 t576 t579 t580 t581 true)) = some r := by rw [if_pos rfl] at H; exact H
            clear H
            have H := H1
            clear H1
            by_cases c20 : t580 = t572
            · rw [if_pos c20] at H
              have c20b0 : (t580 == t572) = true := beq_iff_eq.mpr c20
              have c20b1 : (t580 != t572) = false := bne_eq_false_iff_eq.mpr c20
              clear c20
              (first | rw [c20b0] | (simp only [i64_w, i32_w]; rw [c20b0]) | skip)
              have H' := Aside0.mk H
              clear H
              obtain ⟨Ao21, co21, eo21⟩ := Kd.R_slice HO583.out
              subst eo21
              obtain ⟨Ao22, co22, eo22⟩ := Kd.R_slice HO575.out
              subst eo22
              go_wp2_with (first | ((with_reducible refine gate_callee (f := 16) rfl ?_); refine goesL_ (some 50) rfl rfl Try.func16 (by kernel_rfl) rfl #[.slice Ao21 t579.length co21, .slice Ao22 t571.length co22] rfl (by (try simp only [List.map_toArray, List.map_cons, List.map_nil]); first | done | rfl | (simp only [List.length_drop, List.length_take]; rfl)) ?_; (with_reducible refine (laws_eqIntS.calls k _ _ t579 _ _ t571 true _ ?side1 ?side2 ?side3 ?side4 A18.out).mono ?_); (case side1 => repeat (first | exact (Kd.R_reads' HO583.out).2.2 | (with_reducible refine Kd.C_alloc ?_ _) | (with_reducible refine Kd.C_drewN ?_ _) | (with_reducible refine Kd.C_drew ?_))); (case side2 => exact (Kd.R_reads' HO583.out).2.1); (case side3 => repeat (first | exact (Kd.R_reads' HO575.out).2.2 | (with_reducible refine Kd.C_alloc ?_ _) | (with_reducible refine Kd.C_drewN ?_ _) | (with_reducible refine Kd.C_drew ?_))); (case side4 => exact (Kd.R_reads' HO575.out).2.1); rintro e w' ⟨rfl, ⟨nd, rfl⟩⟩; refine ⟨_, rfl, ?_⟩))
              go_meet
              case rel => exact ⟨_, ((t581 != t573)), (by first | rfl | (simp; done) | (simp [*]; done)), H', ⟨by first | omega | exact Nat.le_refl _⟩, ⟨by (with_reducible repeat (first | apply Kd.R_alloc | apply Kd.R_drewN | apply Kd.R_drew)); exact Kd.R_mono HO575.out (fun _ hk => ⟨hk.1.2, hk.2⟩)⟩, ⟨by (with_reducible repeat (first | apply Kd.R_alloc | apply Kd.R_drewN | apply Kd.R_drew)); exact Kd.R_mono HO578.out (fun _ hk => ⟨hk.1.2, hk.2⟩)⟩, ⟨by (with_reducible repeat (first | apply Kd.R_alloc | apply Kd.R_drewN | apply Kd.R_drew)); exact Kd.R_mono HO583.out (fun _ hk => ⟨hk.1.2, hk.2⟩)⟩, ⟨by repeat (first | (with_reducible first | exact HB.out | apply below_alloc | apply pw_below_drewN | apply below_drew1) | exact HB.out)⟩⟩
            · rw [if_neg c20] at H
              have c20b0 : (t580 == t572) = false := beq_eq_false_iff_ne.mpr c20
              have c20b1 : (t580 != t572) = true := bne_iff_ne.mpr c20
              (first | rw [c20b0] | (simp only [i64_w, i32_w]; rw [c20b0]) | skip)
              have H' := Aside0.mk H
              clear H
              obtain ⟨Ao23, co23, eo23⟩ := Kd.R_slice HO583.out
              subst eo23
              obtain ⟨Ao24, co24, eo24⟩ := Kd.R_slice HO575.out
              subst eo24
              go_wp2_with (first | ((with_reducible refine gate_callee (f := 16) rfl ?_); refine goesL_ (some 50) rfl rfl Try.func16 (by kernel_rfl) rfl #[.slice Ao23 t579.length co23, .slice Ao24 t571.length co24] rfl (by (try simp only [List.map_toArray, List.map_cons, List.map_nil]); first | done | rfl | (simp only [List.length_drop, List.length_take]; rfl)) ?_; (with_reducible refine (laws_eqIntS.calls k _ _ t579 _ _ t571 true _ ?side1 ?side2 ?side3 ?side4 A18.out).mono ?_); (case side1 => repeat (first | exact (Kd.R_reads' HO583.out).2.2 | (with_reducible refine Kd.C_alloc ?_ _) | (with_reducible refine Kd.C_drewN ?_ _) | (with_reducible refine Kd.C_drew ?_))); (case side2 => exact (Kd.R_reads' HO583.out).2.1); (case side3 => repeat (first | exact (Kd.R_reads' HO575.out).2.2 | (with_reducible refine Kd.C_alloc ?_ _) | (with_reducible refine Kd.C_drewN ?_ _) | (with_reducible refine Kd.C_drew ?_))); (case side4 => exact (Kd.R_reads' HO575.out).2.1); rintro e w' ⟨rfl, ⟨nd, rfl⟩⟩; refine ⟨_, rfl, ?_⟩))
              go_meet
              case rel => exact ⟨_, (true), (by first | rfl | (simp; done) | (simp [*]; done)), H', ⟨by first | omega | exact Nat.le_refl _⟩, ⟨by (with_reducible repeat (first | apply Kd.R_alloc | apply Kd.R_drewN | apply Kd.R_drew)); exact Kd.R_mono HO575.out (fun _ hk => ⟨hk.1.2, hk.2⟩)⟩, ⟨by (with_reducible repeat (first | apply Kd.R_alloc | apply Kd.R_drewN | apply Kd.R_drew)); exact Kd.R_mono HO578.out (fun _ hk => ⟨hk.1.2, hk.2⟩)⟩, ⟨by (with_reducible repeat (first | apply Kd.R_alloc | apply Kd.R_drewN | apply Kd.R_drew)); exact Kd.R_mono HO583.out (fun _ hk => ⟨hk.1.2, hk.2⟩)⟩, ⟨by repeat (first | (with_reducible first | exact HB.out | apply below_alloc | apply pw_below_drewN | apply below_drew1) | exact HB.out)⟩⟩
          · replace c19 := Bool.eq_false_iff.mpr c19
            subst c19
            have H1 : (laws_FnExactFindIn.j0 k a0 l1 a2 t571 t572 t573 t576 t579 t580 t581 true) = some r := by rw [if_neg (show ¬ (false = true) by decide)] at H; exact H
            clear H
            have H := H1
            clear H1
            have H' := Aside0.mk H
            clear H
            obtain ⟨Ao25, co25, eo25⟩ := Kd.R_slice HO583.out
            subst eo25
            obtain ⟨Ao26, co26, eo26⟩ := Kd.R_slice HO575.out
            subst eo26
            go_wp2_with (first | ((with_reducible refine gate_callee (f := 16) rfl ?_); refine goesL_ (some 50) rfl rfl Try.func16 (by kernel_rfl) rfl #[.slice Ao25 t579.length co25, .slice Ao26 t571.length co26] rfl (by (try simp only [List.map_toArray, List.map_cons, List.map_nil]); first | done | rfl | (simp only [List.length_drop, List.length_take]; rfl)) ?_; (with_reducible refine (laws_eqIntS.calls k _ _ t579 _ _ t571 false _ ?side1 ?side2 ?side3 ?side4 A18.out).mono ?_); (case side1 => repeat (first | exact (Kd.R_reads' HO583.out).2.2 | (with_reducible refine Kd.C_alloc ?_ _) | (with_reducible refine Kd.C_drewN ?_ _) | (with_reducible refine Kd.C_drew ?_))); (case side2 => exact (Kd.R_reads' HO583.out).2.1); (case side3 => repeat (first | exact (Kd.R_reads' HO575.out).2.2 | (with_reducible refine Kd.C_alloc ?_ _) | (with_reducible refine Kd.C_drewN ?_ _) | (with_reducible refine Kd.C_drew ?_))); (case side4 => exact (Kd.R_reads' HO575.out).2.1); rintro e w' ⟨rfl, ⟨nd, rfl⟩⟩; refine ⟨_, rfl, ?_⟩))
            go_meet
            case rel => exact ⟨_, (true), (by first | rfl | (simp; done) | (simp [*]; done)), H', ⟨by first | omega | exact Nat.le_refl _⟩, ⟨by (with_reducible repeat (first | apply Kd.R_alloc | apply Kd.R_drewN | apply Kd.R_drew)); exact Kd.R_mono HO575.out (fun _ hk => ⟨hk.1.2, hk.2⟩)⟩, ⟨by (with_reducible repeat (first | apply Kd.R_alloc | apply Kd.R_drewN | apply Kd.R_drew)); exact Kd.R_mono HO578.out (fun _ hk => ⟨hk.1.2, hk.2⟩)⟩, ⟨by (with_reducible repeat (first | apply Kd.R_alloc | apply Kd.R_drewN | apply Kd.R_drew)); exact Kd.R_mono HO583.out (fun _ hk => ⟨hk.1.2, hk.2⟩)⟩, ⟨by repeat (first | (with_reducible first | exact HB.out | apply below_alloc | apply pw_below_drewN | apply below_drew1) | exact HB.out)⟩⟩
        case rest =>
          clear HC11
          try clear c1
          try clear c2
          try clear p2
          try clear c3
          try clear c4
          try clear c4b0
          try clear c4b1
          try clear c5
          try clear c5b0
          try clear c5b1
          try clear c6
          try clear c6b0
          try clear c6b1
          try clear c12
          try clear c16
          try clear c19
          try clear c20
          try clear c20b0
          try clear c20b1
          try clear c24
          obtain ⟨kq, x61_10, rfl, HA, HJ10, HO_7, HO_10, HO_11, HB⟩ := hcut
          cases kq with
          | zero => exact absurd HA.out (by simp [laws_FnExactFindIn.j0])
          | succ kj10 =>
            have H := HA.out
            clear HA
            simp only [laws_FnExactFindIn.j0] at H
            by_cases c27 : x61_10 = true
            · subst c27
              have H1 : (some false) = some r := by rw [if_pos rfl] at H; exact H
              clear H
              have H := H1
              clear H1
              obtain rfl := Option.some.inj H
              go_wp2
              go_ret
              exact ⟨by first | rfl | (simp [errW_none, errW_some] <;> rfl) | (simp [*, errW_none, errW_some] <;> rfl), by repeat (first | (with_reducible first | exact HB.out | apply below_alloc | apply pw_below_drewN | apply below_drew1) | exact HB.out)⟩
            · replace c27 := Bool.eq_false_iff.mpr c27
              subst c27
              have H1 : ((laws_toIntS.f kj10 l1).bind fun t585 => ((laws_eqIntS.f kj10 t576 t585).bind fun t588 => (if t588 = true then ((laws_markIntS.f kj10 t576 1).bind fun bt589 => (if bt589.1 < 0 then (laws_FnExactFindIn.j1 kj10 a0 l1 a2 t571 t572 t573 t579 true) else ((laws_eqIntS.f kj10 t579 t571).bind fun t591 => (if t591 = true then (if t580 = t572 then (laws_FnExactFindIn.j1 kj10 a0 l1 a2 t571 t572 t573 t579 (t581 != t573)) else (laws_FnExactFindIn.j1 kj10 a0 l1 a2 t571 t572 t573 t579 true)) else (laws_FnExactFindIn.j1 kj10 a0 l1 a2 t571 t572 t573 t579 true))))) else (some false)))) = some r := by rw [if_neg (show ¬ (false = true) by decide)] at H; exact H
              clear H
              have H := H1
              clear H1
              replace H := Option.bind_eq_some_iff.mp H
              obtain ⟨t585, A280, H⟩ := H
              replace H : ((laws_eqIntS.f kj10 t576 t585).bind fun t588 => (if t588 = true then ((laws_markIntS.f kj10 t576 1).bind fun bt589 => (if bt589.1 < 0 then (laws_FnExactFindIn.j1 kj10 a0 l1 a2 t571 t572 t573 t579 true) else ((laws_eqIntS.f kj10 t579 t571).bind fun t591 => (if t591 = true then (if t580 = t572 then (laws_FnExactFindIn.j1 kj10 a0 l1 a2 t571 t572 t573 t579 (t581 != t573)) else (laws_FnExactFindIn.j1 kj10 a0 l1 a2 t571 t572 t573 t579 true)) else (laws_FnExactFindIn.j1 kj10 a0 l1 a2 t571 t572 t573 t579 true))))) else (some false))) = some r := H
              have A28 := Aside0.mk A280
              clear A280
              replace H := Option.bind_eq_some_iff.mp H
              obtain ⟨t588, A290, H⟩ := H
              replace H : (if t588 = true then ((laws_markIntS.f kj10 t576 1).bind fun bt589 => (if bt589.1 < 0 then (laws_FnExactFindIn.j1 kj10 a0 l1 a2 t571 t572 t573 t579 true) else ((laws_eqIntS.f kj10 t579 t571).bind fun t591 => (if t591 = true then (if t580 = t572 then (laws_FnExactFindIn.j1 kj10 a0 l1 a2 t571 t572 t573 t579 (t581 != t573)) else (laws_FnExactFindIn.j1 kj10 a0 l1 a2 t571 t572 t573 t579 true)) else (laws_FnExactFindIn.j1 kj10 a0 l1 a2 t571 t572 t573 t579 true))))) else (some false)) = some r := H
              have A29 := Aside0.mk A290
              clear A290
              by_cases c30 : t588 = true
              · subst c30
                have H1 : ((laws_markIntS.f kj10 t576 1).bind fun bt589 => (if bt589.1 < 0 then (laws_FnExactFindIn.j1 kj10 a0 l1 a2 t571 t572 t573 t579 true) else ((laws_eqIntS.f kj10 t579 t571).bind fun t591 => (if t591 = true then (if t580 = t572 then (laws_FnExactFindIn.j1 kj10 a0 l1 a2 t571 t572 t573 t579 (t581 != t573)) else (laws_FnExactFindIn.j1 kj10 a0 l1 a2 t571 t572 t573 t579 true)) else (laws_FnExactFindIn.j1 kj10 a0 l1 a2 t571 t572 t573 t579 true))))) = some r := by rw [if_pos rfl] at H; exact H
                clear H
                have H := H1
                clear H1
                replace H := Option.bind_eq_some_iff.mp H
                obtain ⟨⟨t589, t590⟩, A310, H⟩ := H
                replace H : (if t589 < 0 then (laws_FnExactFindIn.j1 kj10 a0 l1 a2 t571 t572 t573 t579 true) else ((laws_eqIntS.f kj10 t579 t571).bind fun t591 => (if t591 = true then (if t580 = t572 then (laws_FnExactFindIn.j1 kj10 a0 l1 a2 t571 t572 t573 t579 (t581 != t573)) else (laws_FnExactFindIn.j1 kj10 a0 l1 a2 t571 t572 t573 t579 true)) else (laws_FnExactFindIn.j1 kj10 a0 l1 a2 t571 t572 t573 t579 true)))) = some r := H
                have A31 := Aside0.mk A310
                clear A310
                have HC32 := Aside0.mk H
                clear H
                go_upto_region 16 with (first | ((with_reducible refine gate_callee (f := 24) rfl ?_); refine goesL_ (some 64) rfl rfl Try.func24 (by kernel_rfl) rfl #[.slice A1 l1.length c1] rfl (by (try simp only [List.map_toArray, List.map_cons, List.map_nil]); first | done | rfl | (simp only [List.length_drop, List.length_take]; rfl)) ?_; (with_reducible refine (laws_toIntS.calls kj10 _ _ l1 t585 _ ?side1 ?side2 A28.out).mono ?_); (case side1 => repeat (first | exact (Kd.C_below HR1.out HB.out) | (with_reducible refine Kd.C_alloc ?_ _) | (with_reducible refine Kd.C_drewN ?_ _) | (with_reducible refine Kd.C_drew ?_))); (case side2 => exact HC1.out); rintro e w33 ⟨v586, rfl, ho0, hb⟩; refine ⟨_, rfl, ?_⟩; have n0_ := Aside0.mk (Kd.R_elder' (by (with_reducible repeat (first | apply Kd.R_alloc | apply Kd.R_drewN | apply Kd.R_drew)); exact HO_7.out) (Kd.R_base ho0) hb); have n1_ := Aside0.mk (Kd.R_elder' (by (with_reducible repeat (first | apply Kd.R_alloc | apply Kd.R_drewN | apply Kd.R_drew)); exact HO_10.out) (Kd.R_base ho0) hb); have n2_ := Aside0.mk (Kd.R_elder' (by (with_reducible repeat (first | apply Kd.R_alloc | apply Kd.R_drewN | apply Kd.R_drew)); exact HO_11.out) (Kd.R_base ho0) hb); have n3_ := Aside0.mk (Kd.R_lower (Kd.R_new' (Kd.R_new' (Kd.R_new' ho0 (Kd.R_lt (by (with_reducible repeat (first | apply Kd.R_alloc | apply Kd.R_drewN | apply Kd.R_drew)); exact HO_7.out))) (Kd.R_lt (by (with_reducible repeat (first | apply Kd.R_alloc | apply Kd.R_drewN | apply Kd.R_drew)); exact HO_10.out))) (Kd.R_lt (by (with_reducible repeat (first | apply Kd.R_alloc | apply Kd.R_drewN | apply Kd.R_drew)); exact HO_11.out))) (below_size (by repeat (first | (with_reducible first | exact HB.out | apply below_alloc | apply pw_below_drewN | apply below_drew1) | exact HB.out)))); have n4_ := Aside0.mk (below_step (by repeat (first | (with_reducible first | exact HB.out | apply below_alloc | apply pw_below_drewN | apply below_drew1) | exact HB.out)) hb); clear HO_7; clear HO_10; clear HO_11; clear HB; have HO_7 := n0_; have HO_10 := n1_; have HO_11 := n2_; have HO587 := n3_; have HB := n4_; clear n0_ n1_ n2_ n3_ n4_; (try clear hb); (try clear hb2); (try clear hk); (try clear hi); (try clear ho0); obtain ⟨Ao34, co34, eo34⟩ := Kd.R_slice HO587.out; subst eo34) | ((with_reducible refine gate_callee (f := 16) rfl ?_); refine goesL_ (some 65) rfl rfl Try.func16 (by kernel_rfl) rfl #[.slice Ao16 t576.length co16, .slice Ao34 t585.length co34] rfl (by (try simp only [List.map_toArray, List.map_cons, List.map_nil]); first | done | rfl | (simp only [List.length_drop, List.length_take]; rfl)) ?_; (with_reducible refine (laws_eqIntS.calls kj10 _ _ t576 _ _ t585 true _ ?side1 ?side2 ?side3 ?side4 A29.out).mono ?_); (case side1 => repeat (first | exact (Kd.R_reads' HO_10.out).2.2 | (with_reducible refine Kd.C_alloc ?_ _) | (with_reducible refine Kd.C_drewN ?_ _) | (with_reducible refine Kd.C_drew ?_))); (case side2 => exact (Kd.R_reads' HO_10.out).2.1); (case side3 => repeat (first | exact (Kd.R_reads' HO587.out).2.2 | (with_reducible refine Kd.C_alloc ?_ _) | (with_reducible refine Kd.C_drewN ?_ _) | (with_reducible refine Kd.C_drew ?_))); (case side4 => exact (Kd.R_reads' HO587.out).2.1); rintro e w' ⟨rfl, ⟨nd, rfl⟩⟩; refine ⟨_, rfl, ?_⟩) | ((with_reducible refine gate_callee (f := 17) rfl ?_); refine goesL_ (some 69) rfl rfl Try.func17 (by kernel_rfl) rfl #[.slice Ao16 t576.length co16, .int .i64 1] rfl (by (try simp only [List.map_toArray, List.map_cons, List.map_nil]); first | done | rfl | (simp only [List.length_drop, List.length_take]; rfl)) ?_; (with_reducible refine (laws_markIntS.calls kj10 (fun k_ => some k_ = (.slice Ao16 t576.length co16 : Value).ownBlock) (.slice Ao16 t576.length co16) t576 1 t589 t590 w _ ?side1 ?side2 A31.out).mono ?_); (case side1 => repeat (first | (with_reducible first | exact HB.out | apply below_alloc | apply pw_below_drewN | apply below_drew1) | exact HB.out)); (case side2 => exact Kd.R_tight rfl HO_10.out); rintro e w35 ⟨rfl, hy0, hb, hkp⟩; refine ⟨_, rfl, ?_⟩; have n0_ := Aside0.mk (Kd.R_mono (ok' := fun k_ => some k_ ≠ (.slice Ao16 t576.length co16 : Value).ownBlock ∧ some k_ ≠ (v582 : Value).ownBlock ∧ some k_ ≠ (.slice Ao34 t585.length co34 : Value).ownBlock) (Kd.R_keptB (HO_7.out) hkp (fun k_ hk_ hs_ => (hk_.1.1) hs_)) (fun k_ hk_ => ⟨hk_.1.1.1, hk_.1.1.2, hk_.1.2⟩)); have n1_ := Aside0.mk (Kd.R_reok rfl hy0 (fun k_ e_ => HO_10.out.1 k_ e_)); have n2_ := Aside0.mk (Kd.R_mono (ok' := fun k_ => some k_ ≠ (v574 : Value).ownBlock ∧ some k_ ≠ (.slice Ao16 t576.length co16 : Value).ownBlock ∧ some k_ ≠ (.slice Ao34 t585.length co34 : Value).ownBlock) (Kd.R_keptB (HO_11.out) hkp (fun k_ hk_ hs_ => (hk_.1.2) hs_)) (fun k_ hk_ => ⟨hk_.1.1.1, hk_.1.1.2, hk_.1.2⟩)); have n3_ := Aside0.mk (Kd.R_mono (ok' := fun k_ => some k_ ≠ (v574 : Value).ownBlock ∧ some k_ ≠ (.slice Ao16 t576.length co16 : Value).ownBlock ∧ some k_ ≠ (v582 : Value).ownBlock) (Kd.R_keptB (HO587.out) hkp (fun k_ hk_ hs_ => (hk_.1.2) hs_)) (fun k_ hk_ => ⟨hk_.1.1.1.2, hk_.1.1.2, hk_.1.2⟩)); have n4_ := Aside0.mk (hb); clear HO_7; clear HO_10; clear HO_11; clear HO587; clear HB; have HO_7 := n0_; have HO_10 := n1_; have HO_11 := n2_; have HO587 := n3_; have HB := n4_; clear n0_ n1_ n2_ n3_ n4_; (try clear hb); (try clear hkp); (try clear hy0)))
                (try simp only [Act.put, List.setIfInBounds_toArray, List.set_cons_zero, List.set_cons_succ])
                go_cut [87] (fun v87 wc => ∃ (kq : Nat) (x87_31 : Bool), v87 = .bool x87_31 ∧ Aside0 (laws_FnExactFindIn.j1 kq a0 l1 a2 t571 t572 t573 t579 x87_31 = some r) ∧ Aside0 (kq ≤ kj10) ∧ Aside0 (Kd.R (Kd.int .i64) 3 wc w.heap.size (fun k_ => some k_ ≠ (v582 : Value).ownBlock) v574 t571) ∧ Aside0 (Kd.R (Kd.int .i64) 3 wc w.heap.size (fun k_ => some k_ ≠ (v574 : Value).ownBlock) v582 t579) ∧ Aside0 (Below w.heap.size w wc))
                case first =>
                  have H := HC32.out
                  clear HC32
                  by_cases c36 : t589 < 0
                  · rw [if_pos c36] at H
                    have c36b0 : decide (t589 < 0) = true := decide_eq_true c36
                    clear c36
                    (first | rw [c36b0] | (simp only [i64_w, i32_w]; rw [c36b0]) | skip)
                    have H' := Aside0.mk H
                    clear H
                    go_wp2
                    go_meet
                    case rel => exact ⟨_, (true), (by first | rfl | (simp; done) | (simp [*]; done)), H', ⟨by have := HJ10.out; first | omega | exact Nat.le_refl _⟩, ⟨by (with_reducible repeat (first | apply Kd.R_alloc | apply Kd.R_drewN | apply Kd.R_drew)); exact Kd.R_mono HO_7.out (fun _ hk => hk.2.1)⟩, ⟨by (with_reducible repeat (first | apply Kd.R_alloc | apply Kd.R_drewN | apply Kd.R_drew)); exact Kd.R_mono HO_11.out (fun _ hk => hk.1)⟩, ⟨by repeat (first | (with_reducible first | exact HB.out | apply below_alloc | apply pw_below_drewN | apply below_drew1) | exact HB.out)⟩⟩
                  · rw [if_neg c36] at H
                    have c36b0 : decide (t589 < 0) = false := decide_eq_false c36
                    clear c36
                    (first | rw [c36b0] | (simp only [i64_w, i32_w]; rw [c36b0]) | skip)
                    replace H := Option.bind_eq_some_iff.mp H
                    obtain ⟨t591, A370, H⟩ := H
                    replace H : (if t591 = true then (if t580 = t572 then (laws_FnExactFindIn.j1 kj10 a0 l1 a2 t571 t572 t573 t579 (t581 != t573)) else (laws_FnExactFindIn.j1 kj10 a0 l1 a2 t571 t572 t573 t579 true)) else (laws_FnExactFindIn.j1 kj10 a0 l1 a2 t571 t572 t573 t579 true)) = some r := H
                    have A37 := Aside0.mk A370
                    clear A370
                    by_cases c38 : t591 = true
                    · subst c38
                      have H1 : (if t580 = t572 then (laws_FnExactFindIn.j1 kj10 a0 l1 a2 t571 t572 t573 t579 (t581 != t573)) else (laws_FnExactFindIn.j1 kj10 a0 l1 a2 t571 t572 t573 t579 true)) = some r := by rw [if_pos rfl] at H; exact H
                      clear H
                      have H := H1
                      clear H1
                      by_cases c39 : t580 = t572
                      · rw [if_pos c39] at H
                        have c39b0 : (t580 == t572) = true := beq_iff_eq.mpr c39
                        have c39b1 : (t580 != t572) = false := bne_eq_false_iff_eq.mpr c39
                        clear c39
                        have H' := Aside0.mk H
                        clear H
                        obtain ⟨Ao40, co40, eo40⟩ := Kd.R_slice HO_11.out
                        subst eo40
                        obtain ⟨Ao41, co41, eo41⟩ := Kd.R_slice HO_7.out
                        subst eo41
                        go_wp2_with (first | (go_at_call 16; (try simp only [i64_w]); (with_reducible refine (laws_eqIntS.calls kj10 _ _ t579 _ _ t571 true _ ?side1 ?side2 ?side3 ?side4 A37.out).mono ?_); (case side1 => repeat (first | exact (Kd.R_reads' HO_11.out).2.2 | (with_reducible refine Kd.C_alloc ?_ _) | (with_reducible refine Kd.C_drewN ?_ _) | (with_reducible refine Kd.C_drew ?_))); (case side2 => exact (Kd.R_reads' HO_11.out).2.1); (case side3 => repeat (first | exact (Kd.R_reads' HO_7.out).2.2 | (with_reducible refine Kd.C_alloc ?_ _) | (with_reducible refine Kd.C_drewN ?_ _) | (with_reducible refine Kd.C_drew ?_))); (case side4 => exact (Kd.R_reads' HO_7.out).2.1); rintro e w' ⟨rfl, ⟨nd, rfl⟩⟩))
                        go_meet
                        case rel => exact ⟨_, ((t581 != t573)), (by first | rfl | (simp; done) | (simp [*]; done)), H', ⟨by have := HJ10.out; first | omega | exact Nat.le_refl _⟩, ⟨by (with_reducible repeat (first | apply Kd.R_alloc | apply Kd.R_drewN | apply Kd.R_drew)); exact Kd.R_mono HO_7.out (fun _ hk => hk.2.1)⟩, ⟨by (with_reducible repeat (first | apply Kd.R_alloc | apply Kd.R_drewN | apply Kd.R_drew)); exact Kd.R_mono HO_11.out (fun _ hk => hk.1)⟩, ⟨by repeat (first | (with_reducible first | exact HB.out | apply below_alloc | apply pw_below_drewN | apply below_drew1) | exact HB.out)⟩⟩
                      · rw [if_neg c39] at H
                        have c39b0 : (t580 == t572) = false := beq_eq_false_iff_ne.mpr c39
                        have c39b1 : (t580 != t572) = true := bne_iff_ne.mpr c39
                        have H' := Aside0.mk H
                        clear H
                        obtain ⟨Ao42, co42, eo42⟩ := Kd.R_slice HO_11.out
                        subst eo42
                        obtain ⟨Ao43, co43, eo43⟩ := Kd.R_slice HO_7.out
                        subst eo43
                        go_wp2_with (first | (go_at_call 16; (try simp only [i64_w]); (with_reducible refine (laws_eqIntS.calls kj10 _ _ t579 _ _ t571 true _ ?side1 ?side2 ?side3 ?side4 A37.out).mono ?_); (case side1 => repeat (first | exact (Kd.R_reads' HO_11.out).2.2 | (with_reducible refine Kd.C_alloc ?_ _) | (with_reducible refine Kd.C_drewN ?_ _) | (with_reducible refine Kd.C_drew ?_))); (case side2 => exact (Kd.R_reads' HO_11.out).2.1); (case side3 => repeat (first | exact (Kd.R_reads' HO_7.out).2.2 | (with_reducible refine Kd.C_alloc ?_ _) | (with_reducible refine Kd.C_drewN ?_ _) | (with_reducible refine Kd.C_drew ?_))); (case side4 => exact (Kd.R_reads' HO_7.out).2.1); rintro e w' ⟨rfl, ⟨nd, rfl⟩⟩))
                        go_meet
                        case rel => exact ⟨_, (true), (by first | rfl | (simp; done) | (simp [*]; done)), H', ⟨by have := HJ10.out; first | omega | exact Nat.le_refl _⟩, ⟨by (with_reducible repeat (first | apply Kd.R_alloc | apply Kd.R_drewN | apply Kd.R_drew)); exact Kd.R_mono HO_7.out (fun _ hk => hk.2.1)⟩, ⟨by (with_reducible repeat (first | apply Kd.R_alloc | apply Kd.R_drewN | apply Kd.R_drew)); exact Kd.R_mono HO_11.out (fun _ hk => hk.1)⟩, ⟨by repeat (first | (with_reducible first | exact HB.out | apply below_alloc | apply pw_below_drewN | apply below_drew1) | exact HB.out)⟩⟩
                    · replace c38 := Bool.eq_false_iff.mpr c38
                      subst c38
                      have H1 : (laws_FnExactFindIn.j1 kj10 a0 l1 a2 t571 t572 t573 t579 true) = some r := by rw [if_neg (show ¬ (false = true) by decide)] at H; exact H
                      clear H
                      have H := H1
                      clear H1
                      have H' := Aside0.mk H
                      clear H
                      obtain ⟨Ao44, co44, eo44⟩ := Kd.R_slice HO_11.out
                      subst eo44
                      obtain ⟨Ao45, co45, eo45⟩ := Kd.R_slice HO_7.out
                      subst eo45
                      go_wp2_with (first | (go_at_call 16; (try simp only [i64_w]); (with_reducible refine (laws_eqIntS.calls kj10 _ _ t579 _ _ t571 false _ ?side1 ?side2 ?side3 ?side4 A37.out).mono ?_); (case side1 => repeat (first | exact (Kd.R_reads' HO_11.out).2.2 | (with_reducible refine Kd.C_alloc ?_ _) | (with_reducible refine Kd.C_drewN ?_ _) | (with_reducible refine Kd.C_drew ?_))); (case side2 => exact (Kd.R_reads' HO_11.out).2.1); (case side3 => repeat (first | exact (Kd.R_reads' HO_7.out).2.2 | (with_reducible refine Kd.C_alloc ?_ _) | (with_reducible refine Kd.C_drewN ?_ _) | (with_reducible refine Kd.C_drew ?_))); (case side4 => exact (Kd.R_reads' HO_7.out).2.1); rintro e w' ⟨rfl, ⟨nd, rfl⟩⟩))
                      go_meet
                      case rel => exact ⟨_, (true), (by first | rfl | (simp; done) | (simp [*]; done)), H', ⟨by have := HJ10.out; first | omega | exact Nat.le_refl _⟩, ⟨by (with_reducible repeat (first | apply Kd.R_alloc | apply Kd.R_drewN | apply Kd.R_drew)); exact Kd.R_mono HO_7.out (fun _ hk => hk.2.1)⟩, ⟨by (with_reducible repeat (first | apply Kd.R_alloc | apply Kd.R_drewN | apply Kd.R_drew)); exact Kd.R_mono HO_11.out (fun _ hk => hk.1)⟩, ⟨by repeat (first | (with_reducible first | exact HB.out | apply below_alloc | apply pw_below_drewN | apply below_drew1) | exact HB.out)⟩⟩
                case rest =>
                  clear HC32
                  try clear c1
                  try clear c2
                  try clear p2
                  try clear c3
                  try clear c4
                  try clear c4b0
                  try clear c4b1
                  try clear c5
                  try clear c5b0
                  try clear c5b1
                  try clear c6
                  try clear c6b0
                  try clear c6b1
                  try clear c12
                  try clear c16
                  try clear c17
                  try clear c19
                  try clear c20
                  try clear c20b0
                  try clear c20b1
                  try clear c24
                  try clear c27
                  try clear c30
                  try clear c34
                  try clear c35
                  try clear c36
                  try clear c36b0
                  try clear c38
                  try clear c39
                  try clear c39b0
                  try clear c39b1
                  try clear p2
                  obtain ⟨kq, x87_31, rfl, HA, HJ31, HO_7, HO_11, HB⟩ := hcut
                  cases kq with
                  | zero => exact absurd HA.out (by simp [laws_FnExactFindIn.j1])
                  | succ kj31 =>
                    have H := HA.out
                    clear HA
                    simp only [laws_FnExactFindIn.j1] at H
                    by_cases c46 : x87_31 = true
                    · subst c46
                      have H1 : (some false) = some r := by rw [if_pos rfl] at H; exact H
                      clear H
                      have H := H1
                      clear H1
                      obtain rfl := Option.some.inj H
                      go_wp2
                      go_ret
                      exact ⟨by first | rfl | (simp [errW_none, errW_some] <;> rfl) | (simp [*, errW_none, errW_some] <;> rfl), by repeat (first | (with_reducible first | exact HB.out | apply below_alloc | apply pw_below_drewN | apply below_drew1) | exact HB.out)⟩
                    · replace c46 := Bool.eq_false_iff.mpr c46
                      subst c46
                      have H1 : ((laws_markIntS.f kj31 t579 1).bind fun bt592 => ((laws_heldIntS.f kj31 bt592.2 1).bind fun t594 => (if t594 < 0 then (some false) else (if t594 = bt592.1 then ((laws_toIntS.f kj31 l1).bind fun t595 => ((impl_FindIn.f a0 t595 a2).bind fun bt598 => ((laws_eqIntS.f kj31 bt598.1 t571).bind fun t603 => (if t603 = true then (if bt598.2.1 = t572 then (laws_FnExactFindIn.j2 kj31 bt592.2 bt592.1 (bt598.2.2 != t573)) else (laws_FnExactFindIn.j2 kj31 bt592.2 bt592.1 true)) else (laws_FnExactFindIn.j2 kj31 bt592.2 bt592.1 true))))) else (some false))))) = some r := by rw [if_neg (show ¬ (false = true) by decide)] at H; exact H
                      clear H
                      have H := H1
                      clear H1
                      replace H := Option.bind_eq_some_iff.mp H
                      obtain ⟨⟨t592, t593⟩, A470, H⟩ := H
                      replace H : ((laws_heldIntS.f kj31 t593 1).bind fun t594 => (if t594 < 0 then (some false) else (if t594 = t592 then ((laws_toIntS.f kj31 l1).bind fun t595 => ((impl_FindIn.f a0 t595 a2).bind fun bt598 => ((laws_eqIntS.f kj31 bt598.1 t571).bind fun t603 => (if t603 = true then (if bt598.2.1 = t572 then (laws_FnExactFindIn.j2 kj31 t593 t592 (bt598.2.2 != t573)) else (laws_FnExactFindIn.j2 kj31 t593 t592 true)) else (laws_FnExactFindIn.j2 kj31 t593 t592 true))))) else (some false)))) = some r := H
                      have A47 := Aside0.mk A470
                      clear A470
                      replace H := Option.bind_eq_some_iff.mp H
                      obtain ⟨t594, A480, H⟩ := H
                      replace H : (if t594 < 0 then (some false) else (if t594 = t592 then ((laws_toIntS.f kj31 l1).bind fun t595 => ((impl_FindIn.f a0 t595 a2).bind fun bt598 => ((laws_eqIntS.f kj31 bt598.1 t571).bind fun t603 => (if t603 = true then (if bt598.2.1 = t572 then (laws_FnExactFindIn.j2 kj31 t593 t592 (bt598.2.2 != t573)) else (laws_FnExactFindIn.j2 kj31 t593 t592 true)) else (laws_FnExactFindIn.j2 kj31 t593 t592 true))))) else (some false))) = some r := H
                      have A48 := Aside0.mk A480
                      clear A480
                      by_cases c49 : t594 < 0
                      · rw [if_pos c49] at H
                        have c49b0 : decide (t594 < 0) = true := decide_eq_true c49
                        clear c49
                        obtain rfl := Option.some.inj H
                        obtain ⟨Ao50, co50, eo50⟩ := Kd.R_slice HO_11.out
                        subst eo50
                        go_wp2_with (first | ((with_reducible refine gate_callee (f := 17) rfl ?_); refine goesL_ (some 90) rfl rfl Try.func17 (by kernel_rfl) rfl #[.slice Ao50 t579.length co50, .int .i64 1] rfl (by (try simp only [List.map_toArray, List.map_cons, List.map_nil]); first | done | rfl | (simp only [List.length_drop, List.length_take]; rfl)) ?_; (with_reducible refine (laws_markIntS.calls kj31 (fun k_ => some k_ = (.slice Ao50 t579.length co50 : Value).ownBlock) (.slice Ao50 t579.length co50) t579 1 t592 t593 w _ ?side1 ?side2 A47.out).mono ?_); (case side1 => repeat (first | (with_reducible first | exact HB.out | apply below_alloc | apply pw_below_drewN | apply below_drew1) | exact HB.out)); (case side2 => exact Kd.R_tight rfl HO_11.out); rintro e w51 ⟨rfl, hy0, hb, hkp⟩; refine ⟨_, rfl, ?_⟩; have n0_ := Aside0.mk (Kd.R_mono (ok' := fun k_ => some k_ ≠ (.slice Ao50 t579.length co50 : Value).ownBlock) (Kd.R_keptB (HO_7.out) hkp (fun k_ hk_ hs_ => (hk_) hs_)) (fun k_ hk_ => hk_.1)); have n1_ := Aside0.mk (Kd.R_reok rfl hy0 (fun k_ e_ => HO_11.out.1 k_ e_)); have n2_ := Aside0.mk (hb); clear HO_7; clear HO_11; clear HB; have HO_7 := n0_; have HO_11 := n1_; have HB := n2_; clear n0_ n1_ n2_; (try clear hb); (try clear hkp); (try clear hy0)) | ((with_reducible refine gate_callee (f := 18) rfl ?_); refine goesL_ (some 93) rfl rfl Try.func18 (by kernel_rfl) rfl #[.slice Ao50 t593.length co50, .int .i64 1] rfl (by (try simp only [List.map_toArray, List.map_cons, List.map_nil]); first | done | (rw [show t593.length = t579.length from (Kd.R_reads' HO_11.out).1.symm] <;> rfl) | rfl | (simp only [List.length_drop, List.length_take]; rfl)) ?_; (with_reducible refine (laws_heldIntS.calls kj31 _ _ t593 1 t594 _ ?side1 ?side2 A48.out).mono ?_); (case side1 => repeat (first | exact (Kd.R_reads' HO_11.out).2.2 | (with_reducible refine Kd.C_alloc ?_ _) | (with_reducible refine Kd.C_drewN ?_ _) | (with_reducible refine Kd.C_drew ?_))); (case side2 => rw [show t593.length = t579.length from (Kd.R_reads' HO_11.out).1.symm]; exact (Kd.R_reads' HO_11.out).2.1); rintro e w' ⟨rfl, ⟨nd, rfl⟩⟩; refine ⟨_, rfl, ?_⟩))
                        go_ret
                        exact ⟨by first | rfl | (simp [errW_none, errW_some] <;> rfl) | (simp [*, errW_none, errW_some] <;> rfl), by repeat (first | (with_reducible first | exact HB.out | apply below_alloc | apply pw_below_drewN | apply below_drew1) | exact HB.out)⟩
                      · rw [if_neg c49] at H
                        have c49b0 : decide (t594 < 0) = false := decide_eq_false c49
                        clear c49
                        by_cases c52 : t594 = t592
                        · rw [if_pos c52] at H
                          have c52b0 : (t594 == t592) = true := beq_iff_eq.mpr c52
                          have c52b1 : (t594 != t592) = false := bne_eq_false_iff_eq.mpr c52
                          clear c52
                          replace H := Option.bind_eq_some_iff.mp H
                          obtain ⟨t595, A530, H⟩ := H
                          replace H : ((impl_FindIn.f a0 t595 a2).bind fun bt598 => ((laws_eqIntS.f kj31 bt598.1 t571).bind fun t603 => (if t603 = true then (if bt598.2.1 = t572 then (laws_FnExactFindIn.j2 kj31 t593 t592 (bt598.2.2 != t573)) else (laws_FnExactFindIn.j2 kj31 t593 t592 true)) else (laws_FnExactFindIn.j2 kj31 t593 t592 true)))) = some r := H
                          have A53 := Aside0.mk A530
                          clear A530
                          replace H := Option.bind_eq_some_iff.mp H
                          obtain ⟨⟨t598, t599, t600⟩, A540, H⟩ := H
                          replace H : ((laws_eqIntS.f kj31 t598 t571).bind fun t603 => (if t603 = true then (if t599 = t572 then (laws_FnExactFindIn.j2 kj31 t593 t592 (t600 != t573)) else (laws_FnExactFindIn.j2 kj31 t593 t592 true)) else (laws_FnExactFindIn.j2 kj31 t593 t592 true))) = some r := H
                          have A54 := Aside0.mk A540
                          clear A540
                          have HC55 := Aside0.mk H
                          clear H
                          obtain ⟨Ao56, co56, eo56⟩ := Kd.R_slice HO_11.out
                          subst eo56
                          go_upto_region 27 with (first | ((with_reducible refine gate_callee (f := 17) rfl ?_); refine goesL_ (some 90) rfl rfl Try.func17 (by kernel_rfl) rfl #[.slice Ao56 t579.length co56, .int .i64 1] rfl (by (try simp only [List.map_toArray, List.map_cons, List.map_nil]); first | done | rfl | (simp only [List.length_drop, List.length_take]; rfl)) ?_; (with_reducible refine (laws_markIntS.calls kj31 (fun k_ => some k_ = (.slice Ao56 t579.length co56 : Value).ownBlock) (.slice Ao56 t579.length co56) t579 1 t592 t593 w _ ?side1 ?side2 A47.out).mono ?_); (case side1 => repeat (first | (with_reducible first | exact HB.out | apply below_alloc | apply pw_below_drewN | apply below_drew1) | exact HB.out)); (case side2 => exact Kd.R_tight rfl HO_11.out); rintro e w57 ⟨rfl, hy0, hb, hkp⟩; refine ⟨_, rfl, ?_⟩; have n0_ := Aside0.mk (Kd.R_mono (ok' := fun k_ => some k_ ≠ (.slice Ao56 t579.length co56 : Value).ownBlock) (Kd.R_keptB (HO_7.out) hkp (fun k_ hk_ hs_ => (hk_) hs_)) (fun k_ hk_ => hk_.1)); have n1_ := Aside0.mk (Kd.R_reok rfl hy0 (fun k_ e_ => HO_11.out.1 k_ e_)); have n2_ := Aside0.mk (hb); clear HO_7; clear HO_11; clear HB; have HO_7 := n0_; have HO_11 := n1_; have HB := n2_; clear n0_ n1_ n2_; (try clear hb); (try clear hkp); (try clear hy0)) | ((with_reducible refine gate_callee (f := 18) rfl ?_); refine goesL_ (some 93) rfl rfl Try.func18 (by kernel_rfl) rfl #[.slice Ao56 t593.length co56, .int .i64 1] rfl (by (try simp only [List.map_toArray, List.map_cons, List.map_nil]); first | done | (rw [show t593.length = t579.length from (Kd.R_reads' HO_11.out).1.symm] <;> rfl) | rfl | (simp only [List.length_drop, List.length_take]; rfl)) ?_; (with_reducible refine (laws_heldIntS.calls kj31 _ _ t593 1 t594 _ ?side1 ?side2 A48.out).mono ?_); (case side1 => repeat (first | exact (Kd.R_reads' HO_11.out).2.2 | (with_reducible refine Kd.C_alloc ?_ _) | (with_reducible refine Kd.C_drewN ?_ _) | (with_reducible refine Kd.C_drew ?_))); (case side2 => rw [show t593.length = t579.length from (Kd.R_reads' HO_11.out).1.symm]; exact (Kd.R_reads' HO_11.out).2.1); rintro e w' ⟨rfl, ⟨nd, rfl⟩⟩; refine ⟨_, rfl, ?_⟩) | ((with_reducible refine gate_callee (f := 24) rfl ?_); refine goesL_ (some 102) rfl rfl Try.func24 (by kernel_rfl) rfl #[.slice A1 l1.length c1] rfl (by (try simp only [List.map_toArray, List.map_cons, List.map_nil]); first | done | rfl | (simp only [List.length_drop, List.length_take]; rfl)) ?_; (with_reducible refine (laws_toIntS.calls kj31 _ _ l1 t595 _ ?side1 ?side2 A53.out).mono ?_); (case side1 => repeat (first | exact (Kd.C_below HR1.out (by repeat (first | (with_reducible first | exact HB.out | apply below_alloc | apply pw_below_drewN | apply below_drew1) | exact HB.out))) | (with_reducible refine Kd.C_alloc ?_ _) | (with_reducible refine Kd.C_drewN ?_ _) | (with_reducible refine Kd.C_drew ?_))); (case side2 => exact HC1.out); rintro e w58 ⟨v596, rfl, ho0, hb⟩; refine ⟨_, rfl, ?_⟩; have n0_ := Aside0.mk (Kd.R_elder' (by (with_reducible repeat (first | apply Kd.R_alloc | apply Kd.R_drewN | apply Kd.R_drew)); exact HO_7.out) (Kd.R_base ho0) hb); have n1_ := Aside0.mk (Kd.R_elder' (by (with_reducible repeat (first | apply Kd.R_alloc | apply Kd.R_drewN | apply Kd.R_drew)); exact HO_11.out) (Kd.R_base ho0) hb); have n2_ := Aside0.mk (Kd.R_lower (Kd.R_new' (Kd.R_new' ho0 (Kd.R_lt (by (with_reducible repeat (first | apply Kd.R_alloc | apply Kd.R_drewN | apply Kd.R_drew)); exact HO_7.out))) (Kd.R_lt (by (with_reducible repeat (first | apply Kd.R_alloc | apply Kd.R_drewN | apply Kd.R_drew)); exact HO_11.out))) (below_size (by repeat (first | (with_reducible first | exact HB.out | apply below_alloc | apply pw_below_drewN | apply below_drew1) | exact HB.out)))); have n3_ := Aside0.mk (below_step (by repeat (first | (with_reducible first | exact HB.out | apply below_alloc | apply pw_below_drewN | apply below_drew1) | exact HB.out)) hb); clear HO_7; clear HO_11; clear HB; have HO_7 := n0_; have HO_11 := n1_; have HO597 := n2_; have HB := n3_; clear n0_ n1_ n2_ n3_; (try clear hb); (try clear hb2); (try clear hk); (try clear hi); (try clear ho0); obtain ⟨Ao59, co59, eo59⟩ := Kd.R_slice HO597.out; subst eo59) | ((with_reducible refine gate_callee (f := 35) rfl ?_); refine goesL_ (some 104) rfl rfl Try.func35 (by kernel_rfl) rfl #[.string a0, .slice Ao59 t595.length co59, .string a2] rfl (by (try simp only [List.map_toArray, List.map_cons, List.map_nil]); first | done | rfl | (simp only [List.length_drop, List.length_take]; rfl)) ?_; (with_reducible refine (impl_FindIn.calls a0 _ _ t595 a2 t598 t599 t600 _ ?side1 ?side2 A54.out).mono ?_); (case side1 => repeat (first | exact (Kd.R_reads' HO597.out).2.2 | (with_reducible refine Kd.C_alloc ?_ _) | (with_reducible refine Kd.C_drewN ?_ _) | (with_reducible refine Kd.C_drew ?_))); (case side2 => exact (Kd.R_reads' HO597.out).2.1); rintro e w60 ⟨v601, rfl, ho0, hb⟩; refine ⟨_, rfl, ?_⟩; have n0_ := Aside0.mk (Kd.R_elder' (by (with_reducible repeat (first | apply Kd.R_alloc | apply Kd.R_drewN | apply Kd.R_drew)); exact HO_7.out) (Kd.R_base ho0) hb); have n1_ := Aside0.mk (Kd.R_elder' (by (with_reducible repeat (first | apply Kd.R_alloc | apply Kd.R_drewN | apply Kd.R_drew)); exact HO_11.out) (Kd.R_base ho0) hb); have n2_ := Aside0.mk (Kd.R_elder' (by (with_reducible repeat (first | apply Kd.R_alloc | apply Kd.R_drewN | apply Kd.R_drew)); exact HO597.out) (Kd.R_base ho0) hb); have n3_ := Aside0.mk (Kd.R_lower (Kd.R_new' (Kd.R_new' (Kd.R_new' ho0 (Kd.R_lt (by (with_reducible repeat (first | apply Kd.R_alloc | apply Kd.R_drewN | apply Kd.R_drew)); exact HO_7.out))) (Kd.R_lt (by (with_reducible repeat (first | apply Kd.R_alloc | apply Kd.R_drewN | apply Kd.R_drew)); exact HO_11.out))) (Kd.R_lt (by (with_reducible repeat (first | apply Kd.R_alloc | apply Kd.R_drewN | apply Kd.R_drew)); exact HO597.out))) (below_size (by repeat (first | (with_reducible first | exact HB.out | apply below_alloc | apply pw_below_drewN | apply below_drew1) | exact HB.out)))); have n4_ := Aside0.mk (below_step (by repeat (first | (with_reducible first | exact HB.out | apply below_alloc | apply pw_below_drewN | apply below_drew1) | exact HB.out)) hb); clear HO_7; clear HO_11; clear HO597; clear HB; have HO_7 := n0_; have HO_11 := n1_; have HO597 := n2_; have HO602 := n3_; have HB := n4_; clear n0_ n1_ n2_ n3_ n4_; (try clear hb); (try clear hb2); (try clear hk); (try clear hi); (try clear ho0)))
                          (try simp only [Act.put, List.setIfInBounds_toArray, List.set_cons_zero, List.set_cons_succ])
                          go_cut [121] (fun v121 wc => ∃ (kq : Nat) (x121_54 : Bool), v121 = .bool x121_54 ∧ Aside0 (laws_FnExactFindIn.j2 kq t593 t592 x121_54 = some r) ∧ Aside0 (kq ≤ kj31) ∧ Aside0 (Kd.R (Kd.int .i64) 3 wc w.heap.size (fun _ => True) (.slice Ao56 t579.length co56) t593) ∧ Aside0 (Below w.heap.size w wc))
                          case first =>
                            have H := HC55.out
                            clear HC55
                            replace H := Option.bind_eq_some_iff.mp H
                            obtain ⟨t603, A610, H⟩ := H
                            replace H : (if t603 = true then (if t599 = t572 then (laws_FnExactFindIn.j2 kj31 t593 t592 (t600 != t573)) else (laws_FnExactFindIn.j2 kj31 t593 t592 true)) else (laws_FnExactFindIn.j2 kj31 t593 t592 true)) = some r := H
                            have A61 := Aside0.mk A610
                            clear A610
                            by_cases c62 : t603 = true
                            · subst c62
                              have H1 : (if t599 = t572 then (laws_FnExactFindIn.j2 kj31 t593 t592 (t600 != t573)) else (laws_FnExactFindIn.j2 kj31 t593 t592 true)) = some r := by rw [if_pos rfl] at H; exact H
                              clear H
                              have H := H1
                              clear H1
                              by_cases c63 : t599 = t572
                              · rw [if_pos c63] at H
                                have c63b0 : (t599 == t572) = true := beq_iff_eq.mpr c63
                                have c63b1 : (t599 != t572) = false := bne_eq_false_iff_eq.mpr c63
                                clear c63
                                (first | rw [c63b0] | (simp only [i64_w, i32_w]; rw [c63b0]) | skip)
                                have H' := Aside0.mk H
                                clear H
                                obtain ⟨Ao64, co64, eo64⟩ := Kd.R_slice HO602.out
                                subst eo64
                                obtain ⟨Ao65, co65, eo65⟩ := Kd.R_slice HO_7.out
                                subst eo65
                                go_wp2_with (first | ((with_reducible refine gate_callee (f := 16) rfl ?_); refine goesL_ (some 110) rfl rfl Try.func16 (by kernel_rfl) rfl #[.slice Ao64 t598.length co64, .slice Ao65 t571.length co65] rfl (by (try simp only [List.map_toArray, List.map_cons, List.map_nil]); first | done | rfl | (simp only [List.length_drop, List.length_take]; rfl)) ?_; (with_reducible refine (laws_eqIntS.calls kj31 _ _ t598 _ _ t571 true _ ?side1 ?side2 ?side3 ?side4 A61.out).mono ?_); (case side1 => repeat (first | exact (Kd.R_reads' HO602.out).2.2 | (with_reducible refine Kd.C_alloc ?_ _) | (with_reducible refine Kd.C_drewN ?_ _) | (with_reducible refine Kd.C_drew ?_))); (case side2 => exact (Kd.R_reads' HO602.out).2.1); (case side3 => repeat (first | exact (Kd.R_reads' HO_7.out).2.2 | (with_reducible refine Kd.C_alloc ?_ _) | (with_reducible refine Kd.C_drewN ?_ _) | (with_reducible refine Kd.C_drew ?_))); (case side4 => exact (Kd.R_reads' HO_7.out).2.1); rintro e w' ⟨rfl, ⟨nd, rfl⟩⟩; refine ⟨_, rfl, ?_⟩))
                                go_meet
                                case rel => exact ⟨_, ((t600 != t573)), (by first | rfl | (simp; done) | (simp [*]; done)), H', ⟨by have := HJ10.out; have := HJ31.out; first | omega | exact Nat.le_refl _⟩, ⟨by (with_reducible repeat (first | apply Kd.R_alloc | apply Kd.R_drewN | apply Kd.R_drew)); exact Kd.R_mono HO_11.out (fun _ hk => trivial)⟩, ⟨by repeat (first | (with_reducible first | exact HB.out | apply below_alloc | apply pw_below_drewN | apply below_drew1) | exact HB.out)⟩⟩
                              · rw [if_neg c63] at H
                                have c63b0 : (t599 == t572) = false := beq_eq_false_iff_ne.mpr c63
                                have c63b1 : (t599 != t572) = true := bne_iff_ne.mpr c63
                                (first | rw [c63b0] | (simp only [i64_w, i32_w]; rw [c63b0]) | skip)
                                have H' := Aside0.mk H
                                clear H
                                obtain ⟨Ao66, co66, eo66⟩ := Kd.R_slice HO602.out
                                subst eo66
                                obtain ⟨Ao67, co67, eo67⟩ := Kd.R_slice HO_7.out
                                subst eo67
                                go_wp2_with (first | ((with_reducible refine gate_callee (f := 16) rfl ?_); refine goesL_ (some 110) rfl rfl Try.func16 (by kernel_rfl) rfl #[.slice Ao66 t598.length co66, .slice Ao67 t571.length co67] rfl (by (try simp only [List.map_toArray, List.map_cons, List.map_nil]); first | done | rfl | (simp only [List.length_drop, List.length_take]; rfl)) ?_; (with_reducible refine (laws_eqIntS.calls kj31 _ _ t598 _ _ t571 true _ ?side1 ?side2 ?side3 ?side4 A61.out).mono ?_); (case side1 => repeat (first | exact (Kd.R_reads' HO602.out).2.2 | (with_reducible refine Kd.C_alloc ?_ _) | (with_reducible refine Kd.C_drewN ?_ _) | (with_reducible refine Kd.C_drew ?_))); (case side2 => exact (Kd.R_reads' HO602.out).2.1); (case side3 => repeat (first | exact (Kd.R_reads' HO_7.out).2.2 | (with_reducible refine Kd.C_alloc ?_ _) | (with_reducible refine Kd.C_drewN ?_ _) | (with_reducible refine Kd.C_drew ?_))); (case side4 => exact (Kd.R_reads' HO_7.out).2.1); rintro e w' ⟨rfl, ⟨nd, rfl⟩⟩; refine ⟨_, rfl, ?_⟩))
                                go_meet
                                case rel => exact ⟨_, (true), (by first | rfl | (simp; done) | (simp [*]; done)), H', ⟨by have := HJ10.out; have := HJ31.out; first | omega | exact Nat.le_refl _⟩, ⟨by (with_reducible repeat (first | apply Kd.R_alloc | apply Kd.R_drewN | apply Kd.R_drew)); exact Kd.R_mono HO_11.out (fun _ hk => trivial)⟩, ⟨by repeat (first | (with_reducible first | exact HB.out | apply below_alloc | apply pw_below_drewN | apply below_drew1) | exact HB.out)⟩⟩
                            · replace c62 := Bool.eq_false_iff.mpr c62
                              subst c62
                              have H1 : (laws_FnExactFindIn.j2 kj31 t593 t592 true) = some r := by rw [if_neg (show ¬ (false = true) by decide)] at H; exact H
                              clear H
                              have H := H1
                              clear H1
                              have H' := Aside0.mk H
                              clear H
                              obtain ⟨Ao68, co68, eo68⟩ := Kd.R_slice HO602.out
                              subst eo68
                              obtain ⟨Ao69, co69, eo69⟩ := Kd.R_slice HO_7.out
                              subst eo69
                              go_wp2_with (first | ((with_reducible refine gate_callee (f := 16) rfl ?_); refine goesL_ (some 110) rfl rfl Try.func16 (by kernel_rfl) rfl #[.slice Ao68 t598.length co68, .slice Ao69 t571.length co69] rfl (by (try simp only [List.map_toArray, List.map_cons, List.map_nil]); first | done | rfl | (simp only [List.length_drop, List.length_take]; rfl)) ?_; (with_reducible refine (laws_eqIntS.calls kj31 _ _ t598 _ _ t571 false _ ?side1 ?side2 ?side3 ?side4 A61.out).mono ?_); (case side1 => repeat (first | exact (Kd.R_reads' HO602.out).2.2 | (with_reducible refine Kd.C_alloc ?_ _) | (with_reducible refine Kd.C_drewN ?_ _) | (with_reducible refine Kd.C_drew ?_))); (case side2 => exact (Kd.R_reads' HO602.out).2.1); (case side3 => repeat (first | exact (Kd.R_reads' HO_7.out).2.2 | (with_reducible refine Kd.C_alloc ?_ _) | (with_reducible refine Kd.C_drewN ?_ _) | (with_reducible refine Kd.C_drew ?_))); (case side4 => exact (Kd.R_reads' HO_7.out).2.1); rintro e w' ⟨rfl, ⟨nd, rfl⟩⟩; refine ⟨_, rfl, ?_⟩))
                              go_meet
                              case rel => exact ⟨_, (true), (by first | rfl | (simp; done) | (simp [*]; done)), H', ⟨by have := HJ10.out; have := HJ31.out; first | omega | exact Nat.le_refl _⟩, ⟨by (with_reducible repeat (first | apply Kd.R_alloc | apply Kd.R_drewN | apply Kd.R_drew)); exact Kd.R_mono HO_11.out (fun _ hk => trivial)⟩, ⟨by repeat (first | (with_reducible first | exact HB.out | apply below_alloc | apply pw_below_drewN | apply below_drew1) | exact HB.out)⟩⟩
                          case rest =>
                            clear HC55
                            try clear c1
                            try clear c2
                            try clear p2
                            try clear c3
                            try clear c4
                            try clear c4b0
                            try clear c4b1
                            try clear c5
                            try clear c5b0
                            try clear c5b1
                            try clear c6
                            try clear c6b0
                            try clear c6b1
                            try clear c12
                            try clear c16
                            try clear c17
                            try clear c18
                            try clear c19
                            try clear c20
                            try clear c20b0
                            try clear c20b1
                            try clear c24
                            try clear c27
                            try clear c30
                            try clear c34
                            try clear c35
                            try clear c36
                            try clear c36b0
                            try clear c38
                            try clear c39
                            try clear c39b0
                            try clear c39b1
                            try clear c46
                            try clear c49
                            try clear c49b0
                            try clear c52
                            try clear c52b0
                            try clear c52b1
                            try clear c62
                            try clear c63
                            try clear c63b0
                            try clear c63b1
                            try clear p2
                            obtain ⟨kq, x121_54, rfl, HA, HJ54, HO_11, HB⟩ := hcut
                            have hl11_54 := (Kd.R_reads' HO_11.out).1
                            rw [hl11_54] at HO_11
                            (try simp only [hl11_54])
                            cases kq with
                            | zero => exact absurd HA.out (by simp [laws_FnExactFindIn.j2])
                            | succ kj54 =>
                              have H := HA.out
                              clear HA
                              simp only [laws_FnExactFindIn.j2] at H
                              by_cases c70 : x121_54 = true
                              · subst c70
                                have H1 : (some false) = some r := by rw [if_pos rfl] at H; exact H
                                clear H
                                have H := H1
                                clear H1
                                obtain rfl := Option.some.inj H
                                go_wp2
                                go_ret
                                exact ⟨by first | rfl | (simp [errW_none, errW_some] <;> rfl) | (simp [*, errW_none, errW_some] <;> rfl), by repeat (first | (with_reducible first | exact HB.out | apply below_alloc | apply pw_below_drewN | apply below_drew1) | exact HB.out)⟩
                              · replace c70 := Bool.eq_false_iff.mpr c70
                                subst c70
                                have H1 : ((laws_heldIntS.f kj54 t593 1).bind fun t604 => (if t604 < 0 then (some false) else (if t604 = t592 then (some true) else (some false)))) = some r := by rw [if_neg (show ¬ (false = true) by decide)] at H; exact H
                                clear H
                                have H := H1
                                clear H1
                                replace H := Option.bind_eq_some_iff.mp H
                                obtain ⟨t604, A710, H⟩ := H
                                replace H : (if t604 < 0 then (some false) else (if t604 = t592 then (some true) else (some false))) = some r := H
                                have A71 := Aside0.mk A710
                                clear A710
                                by_cases c72 : t604 < 0
                                · rw [if_pos c72] at H
                                  have c72b0 : decide (t604 < 0) = true := decide_eq_true c72
                                  clear c72
                                  obtain rfl := Option.some.inj H
                                  go_wp2_with (first | ((with_reducible refine gate_callee (f := 18) rfl ?_); refine goesL_ (some 124) rfl rfl Try.func18 (by kernel_rfl) rfl #[.slice Ao56 t593.length co56, .int .i64 1] rfl (by (try simp only [List.map_toArray, List.map_cons, List.map_nil]); first | done | rfl | (simp only [List.length_drop, List.length_take]; rfl)) ?_; (with_reducible refine (laws_heldIntS.calls kj54 _ _ t593 1 t604 _ ?side1 ?side2 A71.out).mono ?_); (case side1 => repeat (first | exact (Kd.R_reads' HO_11.out).2.2 | (with_reducible refine Kd.C_alloc ?_ _) | (with_reducible refine Kd.C_drewN ?_ _) | (with_reducible refine Kd.C_drew ?_))); (case side2 => exact (Kd.R_reads' HO_11.out).2.1); rintro e w' ⟨rfl, ⟨nd, rfl⟩⟩; refine ⟨_, rfl, ?_⟩))
                                  go_ret
                                  exact ⟨by first | rfl | (simp [errW_none, errW_some] <;> rfl) | (simp [*, errW_none, errW_some] <;> rfl), by repeat (first | (with_reducible first | exact HB.out | apply below_alloc | apply pw_below_drewN | apply below_drew1) | exact HB.out)⟩
                                · rw [if_neg c72] at H
                                  have c72b0 : decide (t604 < 0) = false := decide_eq_false c72
                                  clear c72
                                  by_cases c73 : t604 = t592
                                  · rw [if_pos c73] at H
                                    have c73b0 : (t604 == t592) = true := beq_iff_eq.mpr c73
                                    have c73b1 : (t604 != t592) = false := bne_eq_false_iff_eq.mpr c73
                                    clear c73
                                    obtain rfl := Option.some.inj H
                                    go_wp2_with (first | ((with_reducible refine gate_callee (f := 18) rfl ?_); refine goesL_ (some 124) rfl rfl Try.func18 (by kernel_rfl) rfl #[.slice Ao56 t593.length co56, .int .i64 1] rfl (by (try simp only [List.map_toArray, List.map_cons, List.map_nil]); first | done | rfl | (simp only [List.length_drop, List.length_take]; rfl)) ?_; (with_reducible refine (laws_heldIntS.calls kj54 _ _ t593 1 t604 _ ?side1 ?side2 A71.out).mono ?_); (case side1 => repeat (first | exact (Kd.R_reads' HO_11.out).2.2 | (with_reducible refine Kd.C_alloc ?_ _) | (with_reducible refine Kd.C_drewN ?_ _) | (with_reducible refine Kd.C_drew ?_))); (case side2 => exact (Kd.R_reads' HO_11.out).2.1); rintro e w' ⟨rfl, ⟨nd, rfl⟩⟩; refine ⟨_, rfl, ?_⟩))
                                    go_ret
                                    exact ⟨by first | rfl | (simp [errW_none, errW_some] <;> rfl) | (simp [*, errW_none, errW_some] <;> rfl), by repeat (first | (with_reducible first | exact HB.out | apply below_alloc | apply pw_below_drewN | apply below_drew1) | exact HB.out)⟩
                                  · rw [if_neg c73] at H
                                    have c73b0 : (t604 == t592) = false := beq_eq_false_iff_ne.mpr c73
                                    have c73b1 : (t604 != t592) = true := bne_iff_ne.mpr c73
                                    obtain rfl := Option.some.inj H
                                    go_wp2_with (first | ((with_reducible refine gate_callee (f := 18) rfl ?_); refine goesL_ (some 124) rfl rfl Try.func18 (by kernel_rfl) rfl #[.slice Ao56 t593.length co56, .int .i64 1] rfl (by (try simp only [List.map_toArray, List.map_cons, List.map_nil]); first | done | rfl | (simp only [List.length_drop, List.length_take]; rfl)) ?_; (with_reducible refine (laws_heldIntS.calls kj54 _ _ t593 1 t604 _ ?side1 ?side2 A71.out).mono ?_); (case side1 => repeat (first | exact (Kd.R_reads' HO_11.out).2.2 | (with_reducible refine Kd.C_alloc ?_ _) | (with_reducible refine Kd.C_drewN ?_ _) | (with_reducible refine Kd.C_drew ?_))); (case side2 => exact (Kd.R_reads' HO_11.out).2.1); rintro e w' ⟨rfl, ⟨nd, rfl⟩⟩; refine ⟨_, rfl, ?_⟩))
                                    go_ret
                                    exact ⟨by first | rfl | (simp [errW_none, errW_some] <;> rfl) | (simp [*, errW_none, errW_some] <;> rfl), by repeat (first | (with_reducible first | exact HB.out | apply below_alloc | apply pw_below_drewN | apply below_drew1) | exact HB.out)⟩
                        · rw [if_neg c52] at H
                          have c52b0 : (t594 == t592) = false := beq_eq_false_iff_ne.mpr c52
                          have c52b1 : (t594 != t592) = true := bne_iff_ne.mpr c52
                          obtain rfl := Option.some.inj H
                          obtain ⟨Ao74, co74, eo74⟩ := Kd.R_slice HO_11.out
                          subst eo74
                          go_wp2_with (first | ((with_reducible refine gate_callee (f := 17) rfl ?_); refine goesL_ (some 90) rfl rfl Try.func17 (by kernel_rfl) rfl #[.slice Ao74 t579.length co74, .int .i64 1] rfl (by (try simp only [List.map_toArray, List.map_cons, List.map_nil]); first | done | rfl | (simp only [List.length_drop, List.length_take]; rfl)) ?_; (with_reducible refine (laws_markIntS.calls kj31 (fun k_ => some k_ = (.slice Ao74 t579.length co74 : Value).ownBlock) (.slice Ao74 t579.length co74) t579 1 t592 t593 w _ ?side1 ?side2 A47.out).mono ?_); (case side1 => repeat (first | (with_reducible first | exact HB.out | apply below_alloc | apply pw_below_drewN | apply below_drew1) | exact HB.out)); (case side2 => exact Kd.R_tight rfl HO_11.out); rintro e w75 ⟨rfl, hy0, hb, hkp⟩; refine ⟨_, rfl, ?_⟩; have n0_ := Aside0.mk (Kd.R_mono (ok' := fun k_ => some k_ ≠ (.slice Ao74 t579.length co74 : Value).ownBlock) (Kd.R_keptB (HO_7.out) hkp (fun k_ hk_ hs_ => (hk_) hs_)) (fun k_ hk_ => hk_.1)); have n1_ := Aside0.mk (Kd.R_reok rfl hy0 (fun k_ e_ => HO_11.out.1 k_ e_)); have n2_ := Aside0.mk (hb); clear HO_7; clear HO_11; clear HB; have HO_7 := n0_; have HO_11 := n1_; have HB := n2_; clear n0_ n1_ n2_; (try clear hb); (try clear hkp); (try clear hy0)) | ((with_reducible refine gate_callee (f := 18) rfl ?_); refine goesL_ (some 93) rfl rfl Try.func18 (by kernel_rfl) rfl #[.slice Ao74 t593.length co74, .int .i64 1] rfl (by (try simp only [List.map_toArray, List.map_cons, List.map_nil]); first | done | (rw [show t593.length = t579.length from (Kd.R_reads' HO_11.out).1.symm] <;> rfl) | rfl | (simp only [List.length_drop, List.length_take]; rfl)) ?_; (with_reducible refine (laws_heldIntS.calls kj31 _ _ t593 1 t594 _ ?side1 ?side2 A48.out).mono ?_); (case side1 => repeat (first | exact (Kd.R_reads' HO_11.out).2.2 | (with_reducible refine Kd.C_alloc ?_ _) | (with_reducible refine Kd.C_drewN ?_ _) | (with_reducible refine Kd.C_drew ?_))); (case side2 => rw [show t593.length = t579.length from (Kd.R_reads' HO_11.out).1.symm]; exact (Kd.R_reads' HO_11.out).2.1); rintro e w' ⟨rfl, ⟨nd, rfl⟩⟩; refine ⟨_, rfl, ?_⟩))
                          go_ret
                          exact ⟨by first | rfl | (simp [errW_none, errW_some] <;> rfl) | (simp [*, errW_none, errW_some] <;> rfl), by repeat (first | (with_reducible first | exact HB.out | apply below_alloc | apply pw_below_drewN | apply below_drew1) | exact HB.out)⟩
              · replace c30 := Bool.eq_false_iff.mpr c30
                subst c30
                have H1 : (some false) = some r := by rw [if_neg (show ¬ (false = true) by decide)] at H; exact H
                clear H
                have H := H1
                clear H1
                obtain rfl := Option.some.inj H
                go_wp2_with (first | ((with_reducible refine gate_callee (f := 24) rfl ?_); refine goesL_ (some 64) rfl rfl Try.func24 (by kernel_rfl) rfl #[.slice A1 l1.length c1] rfl (by (try simp only [List.map_toArray, List.map_cons, List.map_nil]); first | done | rfl | (simp only [List.length_drop, List.length_take]; rfl)) ?_; (with_reducible refine (laws_toIntS.calls kj10 _ _ l1 t585 _ ?side1 ?side2 A28.out).mono ?_); (case side1 => repeat (first | exact (Kd.C_below HR1.out HB.out) | (with_reducible refine Kd.C_alloc ?_ _) | (with_reducible refine Kd.C_drewN ?_ _) | (with_reducible refine Kd.C_drew ?_))); (case side2 => exact HC1.out); rintro e w76 ⟨v586, rfl, ho0, hb⟩; refine ⟨_, rfl, ?_⟩; have n0_ := Aside0.mk (Kd.R_elder' (by (with_reducible repeat (first | apply Kd.R_alloc | apply Kd.R_drewN | apply Kd.R_drew)); exact HO_7.out) (Kd.R_base ho0) hb); have n1_ := Aside0.mk (Kd.R_elder' (by (with_reducible repeat (first | apply Kd.R_alloc | apply Kd.R_drewN | apply Kd.R_drew)); exact HO_10.out) (Kd.R_base ho0) hb); have n2_ := Aside0.mk (Kd.R_elder' (by (with_reducible repeat (first | apply Kd.R_alloc | apply Kd.R_drewN | apply Kd.R_drew)); exact HO_11.out) (Kd.R_base ho0) hb); have n3_ := Aside0.mk (Kd.R_lower (Kd.R_new' (Kd.R_new' (Kd.R_new' ho0 (Kd.R_lt (by (with_reducible repeat (first | apply Kd.R_alloc | apply Kd.R_drewN | apply Kd.R_drew)); exact HO_7.out))) (Kd.R_lt (by (with_reducible repeat (first | apply Kd.R_alloc | apply Kd.R_drewN | apply Kd.R_drew)); exact HO_10.out))) (Kd.R_lt (by (with_reducible repeat (first | apply Kd.R_alloc | apply Kd.R_drewN | apply Kd.R_drew)); exact HO_11.out))) (below_size (by repeat (first | (with_reducible first | exact HB.out | apply below_alloc | apply pw_below_drewN | apply below_drew1) | exact HB.out)))); have n4_ := Aside0.mk (below_step (by repeat (first | (with_reducible first | exact HB.out | apply below_alloc | apply pw_below_drewN | apply below_drew1) | exact HB.out)) hb); clear HO_7; clear HO_10; clear HO_11; clear HB; have HO_7 := n0_; have HO_10 := n1_; have HO_11 := n2_; have HO587 := n3_; have HB := n4_; clear n0_ n1_ n2_ n3_ n4_; (try clear hb); (try clear hb2); (try clear hk); (try clear hi); (try clear ho0); obtain ⟨Ao77, co77, eo77⟩ := Kd.R_slice HO587.out; subst eo77) | ((with_reducible refine gate_callee (f := 16) rfl ?_); refine goesL_ (some 65) rfl rfl Try.func16 (by kernel_rfl) rfl #[.slice Ao16 t576.length co16, .slice Ao77 t585.length co77] rfl (by (try simp only [List.map_toArray, List.map_cons, List.map_nil]); first | done | rfl | (simp only [List.length_drop, List.length_take]; rfl)) ?_; (with_reducible refine (laws_eqIntS.calls kj10 _ _ t576 _ _ t585 false _ ?side1 ?side2 ?side3 ?side4 A29.out).mono ?_); (case side1 => repeat (first | exact (Kd.R_reads' HO_10.out).2.2 | (with_reducible refine Kd.C_alloc ?_ _) | (with_reducible refine Kd.C_drewN ?_ _) | (with_reducible refine Kd.C_drew ?_))); (case side2 => exact (Kd.R_reads' HO_10.out).2.1); (case side3 => repeat (first | exact (Kd.R_reads' HO587.out).2.2 | (with_reducible refine Kd.C_alloc ?_ _) | (with_reducible refine Kd.C_drewN ?_ _) | (with_reducible refine Kd.C_drew ?_))); (case side4 => exact (Kd.R_reads' HO587.out).2.1); rintro e w' ⟨rfl, ⟨nd, rfl⟩⟩; refine ⟨_, rfl, ?_⟩))
                go_ret
                exact ⟨by first | rfl | (simp [errW_none, errW_some] <;> rfl) | (simp [*, errW_none, errW_some] <;> rfl), by repeat (first | (with_reducible first | exact HB.out | apply below_alloc | apply pw_below_drewN | apply below_drew1) | exact HB.out)⟩

/-- THE ONE PURE STATEMENT of laws_FnExactFindIn: yours. -/
def laws_FnExactFindIn.Pure : Prop := ∀ (a0 : ByteArray) (l1 : List Int) (a2 : ByteArray), a0.size ≤ 140737488351232 → l1.length ≤ maxLen → l1.length * 8 ≤ 140737488351232 → (∀ x ∈ l1, (Lit.int .i64 x).wf = true) → a2.size ≤ 140737488351232 → ∃ k, laws_FnExactFindIn.f k a0 l1 a2 = some true
theorem laws_FnExactFindIn.walk (P : laws_FnExactFindIn.Pure) (a0 : ByteArray) (a1 : Option Addr) (len1 cap1 : Nat) (z1 : List Int) (a2 : ByteArray) (w : World) (w0 : a0.size ≤ 140737488351232) (w1 : (a1 = none ∧ len1 = 0 ∧ cap1 = 0 ∧ z1 = []) ∨ ∃ x, a1 = some x ∧ len1 ≤ cap1 ∧ cap1 ≤ maxLen ∧ z1.length = cap1 ∧ (∀ i, i < z1.length → w.cell? (x.add i) = some (.int .i64 (z1.getD i 0))) ∧ ∀ n ∈ z1, (Lit.int .i64 n).wf = true) (y1 : len1 * 8 ≤ 140737488351232) (w2 : a2.size ≤ 140737488351232) :
    Calls Try.prog 12 #[.string a0, .slice a1 len1 cap1, .string a2] w fun e w' => e = .returned (.bool true) ∧ Below w.heap.size w w' := by
  obtain ⟨l1, rfl, hr1, hm1, hw1, hc1⟩ := ReadsInt.ofRowC w1
  obtain ⟨k, h⟩ := P a0 l1 a2 w0 hm1 y1 hw1 w2
  refine (laws_FnExactFindIn.calls k a0 _ _ l1 a2 true w (Kd.C_of_reads (d := (0 : Int)) (h1 := fun _ => rfl) hr1) hc1 h).mono ?_
  rintro e w' ⟨rfl, hd⟩
  exact ⟨rfl, hd⟩

end Go.Proofs.Ytppmigiknidjhaa.PQ
end
