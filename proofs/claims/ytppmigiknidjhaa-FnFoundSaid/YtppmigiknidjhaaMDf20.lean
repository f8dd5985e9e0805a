/- Several texts in one: what the claim's last text rests on. No conditions. -/
import Derived.Test.YtppmigiknidjhaaMDf13
import Derived.Test.YtppmigiknidjhaaMDf12
import Derived.Test.YtppmigiknidjhaaMDf6
import Derived.Test.YtppmigiknidjhaaMDf5
import Derived.Deep.QuietTactic
import Derived.BigQuiet
import Derived.OneCell
section
/- impl.FindIn: where a text stands in another one, by halving. No conditions. -/
namespace Go.Proofs.Ytppmigiknidjhaa.Fi
attribute [local go_sem] Go.Proofs.Ytppmigiknidjhaa.StrO.leq_s Go.Proofs.Ytppmigiknidjhaa.StrO.gtr_s Go.Proofs.Ytppmigiknidjhaa.StrO.geq_s
set_option linter.unusedVariables false
set_option linter.unusedSimpArgs false
open Go.RowKit Go.Sort Go.Lib Go.Shelf Go.Proofs.Ytppmigiknidjhaa.PQ Go.Proofs.YtppmigiknidjhaaW.PrintWords Go.Proofs.YtppmigiknidjhaaW.PrintLast Go.Proofs.YtppmigiknidjhaaW.PrintMore Go.Proofs.Ytppmigiknidjhaa.Pre Go.Proofs.Ytppmigiknidjhaa.Srt Go.Proofs.Ytppmigiknidjhaa.Suf

/-- Halving, and how many looks it takes. -/
def hv (less : Nat → Bool) : Nat → Nat → Nat → Nat → Nat × Nat
  | 0, lo, _, c => (lo, c)
  | f + 1, lo, hi, c => if lo < hi then (if less ((lo + hi) / 2) = true then hv less f ((lo + hi) / 2 + 1) hi (c + 1) else hv less f lo ((lo + hi) / 2) (c + 1)) else (lo, c)
theorem hv_done (less : Nat → Bool) (f lo hi c : Nat) (h : ¬ lo < hi) : hv less f lo hi c = (lo, c) := by
  cases f with
  | zero => rfl
  | succ f => unfold hv; rw [if_neg h]
theorem hv_fuel (less : Nat → Bool) : ∀ (f g lo hi c : Nat), hi - lo ≤ f → hi - lo ≤ g → hv less f lo hi c = hv less g lo hi c
  | 0, g, lo, hi, c, h1, h2 => by rw [hv_done less g lo hi c (by omega)]; rfl
  | f + 1, 0, lo, hi, c, h1, h2 => by rw [hv_done less (f + 1) lo hi c (by omega)]; rfl
  | f + 1, g + 1, lo, hi, c, h1, h2 => by
    unfold hv
    by_cases h : lo < hi
    · rw [if_pos h, if_pos h, hv_fuel less f g _ _ _ (by omega) (by omega), hv_fuel less f g lo _ _ (by omega) (by omega)]
    · rw [if_neg h, if_neg h]
theorem hv_step (less : Nat → Bool) (lo hi c : Nat) (h : lo < hi) : hv less (hi - lo) lo hi c = if less ((lo + hi) / 2) = true then hv less (hi - ((lo + hi) / 2 + 1)) ((lo + hi) / 2 + 1) hi (c + 1) else hv less ((lo + hi) / 2 - lo) lo ((lo + hi) / 2) (c + 1) := by
  obtain ⟨f, hf⟩ : ∃ f, hi - lo = f + 1 := ⟨hi - lo - 1, by omega⟩
  rw [hf]
  conv => lhs; unfold hv
  rw [if_pos h]
  congr 1
  · exact hv_fuel less _ _ _ _ _ (by omega) (by omega)
  · exact hv_fuel less _ _ _ _ _ (by omega) (by omega)
theorem hv_bound (less : Nat → Bool) : ∀ (f lo hi c : Nat), lo ≤ hi → lo ≤ (hv less f lo hi c).1 ∧ (hv less f lo hi c).1 ≤ hi ∧ (hv less f lo hi c).2 ≤ c + f
  | 0, lo, hi, c, h => ⟨Nat.le_refl _, h, Nat.le_refl _⟩
  | f + 1, lo, hi, c, h => by
    unfold hv
    by_cases h1 : lo < hi
    · rw [if_pos h1]
      split
      · have := hv_bound less f ((lo + hi) / 2 + 1) hi (c + 1) (by omega)
        omega
      · have := hv_bound less f lo ((lo + hi) / 2) (c + 1) (by omega)
        omega
    · rw [if_neg h1]
      exact ⟨Nat.le_refl _, h, by omega⟩

theorem one_cell {w : World} {b : Nat} {v : Value} {t : TypeId} (h : w.heap[b]? = some (.cells #[v] t (0, 0))) : w.cell? ⟨b, 0, none⟩ = some v ∧ w.frozen? ⟨b, 0, none⟩ = false := ⟨by simp [World.cell?, h], by simp [World.frozen?, h]⟩
def cut (t p : ByteArray) : ByteArray := if t.size > p.size then t.extract 0 p.size else t
theorem low2 (t p : ByteArray) (B : Nat) (W : World) (hc : W.cell? ⟨B, 0, none⟩ = some (.string p)) :
    Calls Try.prog 55 #[.string t, .pointer (some ⟨B, 0, none⟩)] W fun e w' => e = .returned (.bool (ltS t p)) ∧ ∃ q, w' = W.drewN q := by
  unfold ltS
  go_enter Try.func55, Try.ntmps55
  go_wp2
  go_ret
  exact ⟨rfl, 0, rfl⟩
theorem low3 (t p : ByteArray) (B : Nat) (W : World) (hc : W.cell? ⟨B, 0, none⟩ = some (.string p)) :
    Calls Try.prog 56 #[.string t, .pointer (some ⟨B, 0, none⟩)] W fun e w' => e = .returned (.bool (!(ltS p (cut t p)))) ∧ ∃ q, w' = W.drewN q := by
  unfold ltS
  by_cases h : p.size < t.size
  · have e : cut t p = t.extract 0 p.size := if_pos h
    have h2 : (p.size : Int) < (t.size : Int) := by omega
    have h3 : ¬ ((t.size : Int) < (p.size : Int)) := by omega
    rw [e]
    clear e
    go_enter Try.func56, Try.ntmps56
    go_wp2
    go_quiet (fail)
    go_wp2
    go_ret
    refine ⟨?_, _, rfl⟩
    simp
    rw [show (min (t.size : Int) (p.size : Int)).toNat = p.size by omega, StrO.or_eq]
  · have e : cut t p = t.extract 0 t.size := by
      unfold cut
      rw [if_neg h, ByteArray.extract_zero_size]
    have h2 : (t.size : Int) ≤ (p.size : Int) := by omega
    rw [e]
    clear e
    go_enter Try.func56, Try.ntmps56
    go_wp2
    go_quiet (fail)
    go_wp2
    go_ret
    refine ⟨?_, _, rfl⟩
    simp
    rw [show (min (t.size : Int) (p.size : Int)).toNat = t.size by omega, ByteArray.extract_zero_size, StrO.or_eq]

set_option maxHeartbeats 2000000 in
set_option maxRecDepth 100000 in
theorem halve2 (s p : ByteArray) (A : Option Addr) (c : Nat) (l : List Int) (less : Nat → Bool) (B0 B1 B2 N9 : Nat) (lo cnt : Nat) (w0 w : World) (hC : Kd.C (Kd.int .i64) w0 A l.length l) (hB0 : Below w0.heap.size w0 w) (h09 : w0.heap.size ≤ N9) (h0 : B0 < N9) (h1 : B1 < N9) (h2 : B2 < N9)
    (hsc : w.cell? ⟨B0, 0, none⟩ = some (.string s)) (hlc : w.cell? ⟨B1, 0, none⟩ = some (.slice A l.length c)) (hpc : w.cell? ⟨B2, 0, none⟩ = some (.string p)) (hcnt : w.heap[N9]? = some (.cells #[.int .i64 (cnt : Int)] 3 (0, 0)))
    (hw : ∀ t : Nat, t < l.length → ∃ x : Nat, rd l (t : Int) = (x : Int) ∧ x ≤ s.size ∧ less t = ltS (suf s x) p) (hlo : lo ≤ l.length) (hll : l.length ≤ 1048576) (hcb : cnt ≤ 1048576) (hs : s.size ≤ 1048576) (hp : p.size ≤ 1048576) :
    Calls Try.prog 54 #[.int .i64 (lo : Int), .func (.func 55) #[] #[.pointer (some ⟨B2, 0, none⟩)], .pointer (some ⟨B1, 0, none⟩), .pointer (some ⟨N9, 0, none⟩), .pointer (some ⟨B0, 0, none⟩)] w fun e w' =>
      e = .returned (.int .i64 (((hv less (l.length - lo) lo l.length cnt).1 : Nat) : Int)) ∧ Below N9 w w' ∧ w'.heap[N9]? = some (.cells #[.int .i64 (((hv less (l.length - lo) lo l.length cnt).2 : Nat) : Int)] 3 (0, 0)) := by
  obtain ⟨R, hR⟩ : ∃ R, R = hv less (l.length - lo) lo l.length cnt := ⟨_, rfl⟩
  rw [← hR]
  have HRR := Aside0.mk hR.symm
  have HW := Aside0.mk hw
  have HC := Aside0.mk hC
  have HB0 := Aside0.mk hB0
  have HPC := Aside0.mk (fun (W : World) (hb : Below N9 w W) => (hb.cell (p := ⟨B2, 0, none⟩) h2).trans hpc)
  have HSC := Aside0.mk (fun (W : World) (hb : Below N9 w W) => (hb.cell (p := ⟨B0, 0, none⟩) h0).trans hsc)
  have HLC := Aside0.mk (fun (W : World) (hb : Below N9 w W) => (hb.cell (p := ⟨B1, 0, none⟩) h1).trans hlc)
  have HN := Aside0.mk (⟨h09, h0, h1, h2, hlo, hll, hcb⟩ : w0.heap.size ≤ N9 ∧ B0 < N9 ∧ B1 < N9 ∧ B2 < N9 ∧ lo ≤ l.length ∧ l.length ≤ 1048576 ∧ cnt ≤ 1048576)
  have HCN := Aside0.mk hcnt
  clear hR hw hC hB0 hsc hpc h09 h0 h1 h2 hlo hcnt hll hcb
  go_enter Try.func54, Try.ntmps54
  go_wp2
  go_loopg [0, 8] (l.length - lo) (fun kq v0 v8 w' => ∃ lo1 hi1 c1 : Nat, v0 = .int .i64 (lo1 : Int) ∧ v8 = .int .i64 (hi1 : Int) ∧ lo1 ≤ hi1 ∧ hi1 ≤ l.length ∧ kq = hi1 - lo1 ∧ c1 + (hi1 - lo1) ≤ cnt + l.length ∧ Aside0 (hv less (hi1 - lo1) lo1 hi1 c1 = R) ∧ Aside0 (Below N9 w w') ∧ Aside0 (w'.heap[N9]? = some (.cells #[.int .i64 (c1 : Int)] 3 (0, 0))))
  case atStart => exact ⟨lo, l.length, cnt, rfl, rfl, HN.out.2.2.2.2.1, Nat.le_refl _, rfl, by omega, HRR, ⟨Below.refl _ _⟩, HCN⟩
  case round =>
    obtain ⟨lo1, hi1, c1, rfl, rfl, hle, hhi, hk, hcb, HR, HB, HCW⟩ := hrel
    have hll : l.length ≤ 1048576 := HN.out.2.2.2.2.2.1
    have hc1 : (c1 : Int) ≤ 3000000 := by have := HN.out.2.2.2.2.2.2; omega
    by_cases hlt : lo1 < hi1
    · obtain ⟨m, hm⟩ : ∃ m, m = (lo1 + hi1) / 2 := ⟨_, rfl⟩
      obtain ⟨x, hx, hxs, hless⟩ := HW.out m (by omega)
      obtain ⟨ad, eA, hxc⟩ := Kd.at_int HC.out (m : Int) (by omega) (by omega)
      rw [hx, Int.toNat_natCast] at hxc
      clear hx
      subst eA
      obtain ⟨hcc, hff⟩ := one_cell HCW.out
      have HB2 := Aside0.mk (HB.out.setCell (p := ⟨N9, 0, none⟩) (Nat.le_refl _) (.int .i64 ((c1 : Int) + 1)))
      have hB00 := HB0.out.trans (HB2.out.mono HN.out.1)
      have hxc2 := (hB00.cell (World.block_lt_of_cell? w0 _ hxc)).trans hxc
      clear hB00 hxc
      have hlc2 := HLC.out _ HB2.out
      have hsc2 := HSC.out _ HB2.out
      have hq : Int.tdiv ((lo1 : Int) + (hi1 : Int)) 2 = (m : Int) := by rw [Int.tdiv_eq_ediv_of_nonneg (by omega)]; omega
      have hm1 : (m : Int) < (l.length : Int) := by omega
      have hx1 : (x : Int) ≤ (s.size : Int) := by omega
      have hst := hv_step less lo1 hi1 c1 hlt
      rw [← hm] at hst
      have HST := Aside0.mk hst
      have HM := Aside0.mk hm
      have hlt2 : (lo1 : Int) < (hi1 : Int) := by omega
      have hhi2 : (hi1 : Int) ≤ 1048576 := by omega
      clear hst
      have HCS := Aside0.mk (one_setCell HCW.out (u := .int .i64 ((c1 : Int) + 1)))
      cases hb : less m with
      | true =>
        have HL := Aside0.mk (fun (W : World) (hc : W.cell? ⟨B2, 0, none⟩ = some (.string p)) => low2 (suf s x) p B2 W hc)
        rw [← hless, hb] at HL
        unfold suf at HL
        clear hless hm
        go_wp2
        go_quiet ((go_at_call 55; exact Calls.quiet_of (HL.out _ (HPC.out _ (by repeat (first | exact HB2.out | apply pw_below_drewN))))))
        go_wp2
        go_roundg (hi1 - (m + 1))
        case measure => have := HM.out; omega
        case rel =>
          have hst := HST.out
          rw [if_pos hb] at hst
          exact ⟨m + 1, hi1, c1 + 1, by go_num, rfl, by have := HM.out; omega, by omega, rfl, by have := HM.out; omega, ⟨hst.symm.trans HR.out⟩, ⟨pw_below_drewN HB2.out _⟩, ⟨by have h9 := HCS.out; rw [show ((c1 + 1 : Nat) : Int) = (c1 : Int) + 1 by omega]; exact h9⟩⟩
      | false =>
        have HL := Aside0.mk (fun (W : World) (hc : W.cell? ⟨B2, 0, none⟩ = some (.string p)) => low2 (suf s x) p B2 W hc)
        rw [← hless, hb] at HL
        unfold suf at HL
        clear hless hm
        go_wp2
        go_quiet ((go_at_call 55; exact Calls.quiet_of (HL.out _ (HPC.out _ (by repeat (first | exact HB2.out | apply pw_below_drewN))))))
        go_wp2
        go_roundg (m - lo1)
        case measure => have := HM.out; omega
        case rel =>
          have hst := HST.out
          rw [if_neg (by rw [hb]; decide)] at hst
          exact ⟨lo1, m, c1 + 1, rfl, rfl, by have := HM.out; omega, by omega, rfl, by have := HM.out; omega, ⟨hst.symm.trans HR.out⟩, ⟨pw_below_drewN HB2.out _⟩, ⟨by have h9 := HCS.out; rw [show ((c1 + 1 : Nat) : Int) = (c1 : Int) + 1 by omega]; exact h9⟩⟩
    · have hr := HR.out
      rw [hv_done less _ lo1 hi1 c1 hlt] at hr
      subst hr
      have hge : ¬ ((lo1 : Int) < (hi1 : Int)) := by omega
      go_wp2
      go_ret
      exact ⟨rfl, HB.out, HCW.out⟩

set_option maxHeartbeats 2000000 in
set_option maxRecDepth 100000 in
theorem halve3 (s p : ByteArray) (A : Option Addr) (c : Nat) (l : List Int) (less : Nat → Bool) (B0 B1 B2 N9 : Nat) (lo cnt : Nat) (w0 w : World) (hC : Kd.C (Kd.int .i64) w0 A l.length l) (hB0 : Below w0.heap.size w0 w) (h09 : w0.heap.size ≤ N9) (h0 : B0 < N9) (h1 : B1 < N9) (h2 : B2 < N9)
    (hsc : w.cell? ⟨B0, 0, none⟩ = some (.string s)) (hlc : w.cell? ⟨B1, 0, none⟩ = some (.slice A l.length c)) (hpc : w.cell? ⟨B2, 0, none⟩ = some (.string p)) (hcnt : w.heap[N9]? = some (.cells #[.int .i64 (cnt : Int)] 3 (0, 0)))
    (hw : ∀ t : Nat, t < l.length → ∃ x : Nat, rd l (t : Int) = (x : Int) ∧ x ≤ s.size ∧ less t = !(ltS p (cut (suf s x) p))) (hlo : lo ≤ l.length) (hll : l.length ≤ 1048576) (hcb : cnt ≤ 1048576) (hs : s.size ≤ 1048576) (hp : p.size ≤ 1048576) :
    Calls Try.prog 54 #[.int .i64 (lo : Int), .func (.func 56) #[] #[.pointer (some ⟨B2, 0, none⟩)], .pointer (some ⟨B1, 0, none⟩), .pointer (some ⟨N9, 0, none⟩), .pointer (some ⟨B0, 0, none⟩)] w fun e w' =>
      e = .returned (.int .i64 (((hv less (l.length - lo) lo l.length cnt).1 : Nat) : Int)) ∧ Below N9 w w' ∧ w'.heap[N9]? = some (.cells #[.int .i64 (((hv less (l.length - lo) lo l.length cnt).2 : Nat) : Int)] 3 (0, 0)) := by
  obtain ⟨R, hR⟩ : ∃ R, R = hv less (l.length - lo) lo l.length cnt := ⟨_, rfl⟩
  rw [← hR]
  have HRR := Aside0.mk hR.symm
  have HW := Aside0.mk hw
  have HC := Aside0.mk hC
  have HB0 := Aside0.mk hB0
  have HPC := Aside0.mk (fun (W : World) (hb : Below N9 w W) => (hb.cell (p := ⟨B2, 0, none⟩) h2).trans hpc)
  have HSC := Aside0.mk (fun (W : World) (hb : Below N9 w W) => (hb.cell (p := ⟨B0, 0, none⟩) h0).trans hsc)
  have HLC := Aside0.mk (fun (W : World) (hb : Below N9 w W) => (hb.cell (p := ⟨B1, 0, none⟩) h1).trans hlc)
  have HN := Aside0.mk (⟨h09, h0, h1, h2, hlo, hll, hcb⟩ : w0.heap.size ≤ N9 ∧ B0 < N9 ∧ B1 < N9 ∧ B2 < N9 ∧ lo ≤ l.length ∧ l.length ≤ 1048576 ∧ cnt ≤ 1048576)
  have HCN := Aside0.mk hcnt
  clear hR hw hC hB0 hsc hpc h09 h0 h1 h2 hlo hcnt hll hcb
  go_enter Try.func54, Try.ntmps54
  go_wp2
  go_loopg [0, 8] (l.length - lo) (fun kq v0 v8 w' => ∃ lo1 hi1 c1 : Nat, v0 = .int .i64 (lo1 : Int) ∧ v8 = .int .i64 (hi1 : Int) ∧ lo1 ≤ hi1 ∧ hi1 ≤ l.length ∧ kq = hi1 - lo1 ∧ c1 + (hi1 - lo1) ≤ cnt + l.length ∧ Aside0 (hv less (hi1 - lo1) lo1 hi1 c1 = R) ∧ Aside0 (Below N9 w w') ∧ Aside0 (w'.heap[N9]? = some (.cells #[.int .i64 (c1 : Int)] 3 (0, 0))))
  case atStart => exact ⟨lo, l.length, cnt, rfl, rfl, HN.out.2.2.2.2.1, Nat.le_refl _, rfl, by omega, HRR, ⟨Below.refl _ _⟩, HCN⟩
  case round =>
    obtain ⟨lo1, hi1, c1, rfl, rfl, hle, hhi, hk, hcb, HR, HB, HCW⟩ := hrel
    have hll : l.length ≤ 1048576 := HN.out.2.2.2.2.2.1
    have hc1 : (c1 : Int) ≤ 3000000 := by have := HN.out.2.2.2.2.2.2; omega
    by_cases hlt : lo1 < hi1
    · obtain ⟨m, hm⟩ : ∃ m, m = (lo1 + hi1) / 2 := ⟨_, rfl⟩
      obtain ⟨x, hx, hxs, hless⟩ := HW.out m (by omega)
      obtain ⟨ad, eA, hxc⟩ := Kd.at_int HC.out (m : Int) (by omega) (by omega)
      rw [hx, Int.toNat_natCast] at hxc
      clear hx
      subst eA
      obtain ⟨hcc, hff⟩ := one_cell HCW.out
      have HB2 := Aside0.mk (HB.out.setCell (p := ⟨N9, 0, none⟩) (Nat.le_refl _) (.int .i64 ((c1 : Int) + 1)))
      have hB00 := HB0.out.trans (HB2.out.mono HN.out.1)
      have hxc2 := (hB00.cell (World.block_lt_of_cell? w0 _ hxc)).trans hxc
      clear hB00 hxc
      have hlc2 := HLC.out _ HB2.out
      have hsc2 := HSC.out _ HB2.out
      have hq : Int.tdiv ((lo1 : Int) + (hi1 : Int)) 2 = (m : Int) := by rw [Int.tdiv_eq_ediv_of_nonneg (by omega)]; omega
      have hm1 : (m : Int) < (l.length : Int) := by omega
      have hx1 : (x : Int) ≤ (s.size : Int) := by omega
      have hst := hv_step less lo1 hi1 c1 hlt
      rw [← hm] at hst
      have HST := Aside0.mk hst
      have HM := Aside0.mk hm
      have hlt2 : (lo1 : Int) < (hi1 : Int) := by omega
      have hhi2 : (hi1 : Int) ≤ 1048576 := by omega
      clear hst
      have HCS := Aside0.mk (one_setCell HCW.out (u := .int .i64 ((c1 : Int) + 1)))
      cases hb : less m with
      | true =>
        have HL := Aside0.mk (fun (W : World) (hc : W.cell? ⟨B2, 0, none⟩ = some (.string p)) => low3 (suf s x) p B2 W hc)
        rw [← hless, hb] at HL
        unfold suf at HL
        clear hless hm
        go_wp2
        go_quiet ((go_at_call 56; exact Calls.quiet_of (HL.out _ (HPC.out _ (by repeat (first | exact HB2.out | apply pw_below_drewN))))))
        go_wp2
        go_roundg (hi1 - (m + 1))
        case measure => have := HM.out; omega
        case rel =>
          have hst := HST.out
          rw [if_pos hb] at hst
          exact ⟨m + 1, hi1, c1 + 1, by go_num, rfl, by have := HM.out; omega, by omega, rfl, by have := HM.out; omega, ⟨hst.symm.trans HR.out⟩, ⟨pw_below_drewN HB2.out _⟩, ⟨by have h9 := HCS.out; rw [show ((c1 + 1 : Nat) : Int) = (c1 : Int) + 1 by omega]; exact h9⟩⟩
      | false =>
        have HL := Aside0.mk (fun (W : World) (hc : W.cell? ⟨B2, 0, none⟩ = some (.string p)) => low3 (suf s x) p B2 W hc)
        rw [← hless, hb] at HL
        unfold suf at HL
        clear hless hm
        go_wp2
        go_quiet ((go_at_call 56; exact Calls.quiet_of (HL.out _ (HPC.out _ (by repeat (first | exact HB2.out | apply pw_below_drewN))))))
        go_wp2
        go_roundg (m - lo1)
        case measure => have := HM.out; omega
        case rel =>
          have hst := HST.out
          rw [if_neg (by rw [hb]; decide)] at hst
          exact ⟨lo1, m, c1 + 1, rfl, rfl, by have := HM.out; omega, by omega, rfl, by have := HM.out; omega, ⟨hst.symm.trans HR.out⟩, ⟨pw_below_drewN HB2.out _⟩, ⟨by have h9 := HCS.out; rw [show ((c1 + 1 : Nat) : Int) = (c1 : Int) + 1 by omega]; exact h9⟩⟩
    · have hr := HR.out
      rw [hv_done less _ lo1 hi1 c1 hlt] at hr
      subst hr
      have hge : ¬ ((lo1 : Int) < (hi1 : Int)) := by omega
      go_wp2
      go_ret
      exact ⟨rfl, HB.out, HCW.out⟩
end Go.Proofs.Ytppmigiknidjhaa.Fi
end

section
/- impl.FindIn as a whole. No conditions. -/
namespace Go.Proofs.Ytppmigiknidjhaa.Fi
set_option linter.unusedVariables false
set_option linter.unusedSimpArgs false
open Go.RowKit Go.Sort Go.Lib Go.Shelf Go.Proofs.Ytppmigiknidjhaa.PQ Go.Proofs.YtppmigiknidjhaaW.PrintWords Go.Proofs.YtppmigiknidjhaaW.PrintLast Go.Proofs.YtppmigiknidjhaaW.PrintMore Go.Proofs.Ytppmigiknidjhaa.Pre Go.Proofs.Ytppmigiknidjhaa.Srt Go.Proofs.Ytppmigiknidjhaa.Suf

/-- What both answer. -/
def less2 (s p : ByteArray) (l : List Int) (t : Nat) : Bool := ltS (suf s (rd l (t : Int)).toNat) p
def less3 (s p : ByteArray) (l : List Int) (t : Nat) : Bool := !(ltS p (cut (suf s (rd l (t : Int)).toNat) p))
def fr (s p : ByteArray) (l : List Int) : Nat × Nat := hv (less2 s p l) (l.length - 0) 0 l.length 0
def tt (s p : ByteArray) (l : List Int) : Nat × Nat := hv (less3 s p l) (l.length - (fr s p l).1) (fr s p l).1 l.length (fr s p l).2
def mid (s p : ByteArray) (l : List Int) : List Int := (l.take (tt s p l).1).drop (fr s p l).1
def srt (l : List Int) : List Int := l.mergeSort (fun x y => decide (x ≤ y))
def okF (s : ByteArray) (l : List Int) (p : ByteArray) : Bool := decide ((s.size ≤ 120 ∧ l = sufs s) ∧ 1 ≤ p.size ∧ p.size ≤ 120)
def ansFind (s : ByteArray) (l : List Int) (p : ByteArray) : List Int × Int × Bool := if okF s l p = true then (srt (mid s p l), (((tt s p l).2 : Nat) : Int), true) else ([], 0, false)
theorem within_f (a lo hi : Int) : impl_within.f a lo hi = some (decide (lo ≤ a ∧ a ≤ hi)) := by
  unfold impl_within.f
  by_cases h : a ≥ lo
  · rw [if_pos h]
    simp [h]
  · rw [if_neg h]
    simp
    omega
theorem box_below (w : World) (a b c : Obj) : Below w.heap.size w (((w.alloc a).alloc b).alloc c) := below_alloc (below_alloc (below_alloc (Below.refl _ _) _) _) _

theorem alloc_one (W : World) (v : Value) (t : TypeId) : (W.alloc (.cells #[v] t)).heap[W.heap.size]? = some (.cells #[v] t (0, 0)) := by
  show (W.heap.push _)[W.heap.size]? = _
  simp
theorem alloc_old (W : World) (o : Obj) (k : Nat) (h : k < W.heap.size) : (W.alloc o).heap[k]? = W.heap[k]? := by
  show (W.heap.push _)[k]? = _
  rw [Array.getElem?_push, if_neg (by omega)]
theorem alloc_size (W : World) (o : Obj) : (W.alloc o).heap.size = W.heap.size + 1 := by
  show (W.heap.push _).size = _
  simp
theorem boxes (w : World) (a b c : Value) (t1 t2 t3 : TypeId) : (((w.alloc (.cells #[a] t1)).alloc (.cells #[b] t2)).alloc (.cells #[c] t3)).cell? ⟨w.heap.size, 0, none⟩ = some a ∧ (((w.alloc (.cells #[a] t1)).alloc (.cells #[b] t2)).alloc (.cells #[c] t3)).cell? ⟨w.heap.size + 1, 0, none⟩ = some b ∧
    (((w.alloc (.cells #[a] t1)).alloc (.cells #[b] t2)).alloc (.cells #[c] t3)).cell? ⟨w.heap.size + 1 + 1, 0, none⟩ = some c ∧ (((w.alloc (.cells #[a] t1)).alloc (.cells #[b] t2)).alloc (.cells #[c] t3)).heap.size = w.heap.size + 3 := by
  have s1 := alloc_size w (.cells #[a] t1)
  have s2 := alloc_size (w.alloc (.cells #[a] t1)) (.cells #[b] t2)
  have s3 := alloc_size ((w.alloc (.cells #[a] t1)).alloc (.cells #[b] t2)) (.cells #[c] t3)
  refine ⟨(one_cell (v := a) (t := t1) ?_).1, (one_cell (v := b) (t := t2) ?_).1, (one_cell (v := c) (t := t3) ?_).1, by omega⟩
  · rw [alloc_old _ _ _ (by omega), alloc_old _ _ _ (by omega)]
    exact alloc_one _ _ _
  · rw [alloc_old _ _ _ (by omega), ← s1]
    exact alloc_one _ _ _
  · rw [← s1, ← s2]
    exact alloc_one _ _ _

theorem start5 (w w1 : World) (nd : Nat) (a b c : Value) (t1 t2 t3 : TypeId) (hb : Below (((w.alloc (.cells #[a] t1)).alloc (.cells #[b] t2)).alloc (.cells #[c] t3)).heap.size (((w.alloc (.cells #[a] t1)).alloc (.cells #[b] t2)).alloc (.cells #[c] t3)) w1) :
    Below w.heap.size w (((w1.drewN nd).alloc (.cells #[.int .i64 0] 3)).setCell ⟨w1.heap.size, 0, none⟩ (.int .i64 0)) ∧
    (((w1.drewN nd).alloc (.cells #[.int .i64 0] 3)).setCell ⟨w1.heap.size, 0, none⟩ (.int .i64 0)).cell? ⟨w.heap.size, 0, none⟩ = some a ∧
    (((w1.drewN nd).alloc (.cells #[.int .i64 0] 3)).setCell ⟨w1.heap.size, 0, none⟩ (.int .i64 0)).cell? ⟨w.heap.size + 1, 0, none⟩ = some b ∧
    (((w1.drewN nd).alloc (.cells #[.int .i64 0] 3)).setCell ⟨w1.heap.size, 0, none⟩ (.int .i64 0)).cell? ⟨w.heap.size + 1 + 1, 0, none⟩ = some c ∧
    (((w1.drewN nd).alloc (.cells #[.int .i64 0] 3)).setCell ⟨w1.heap.size, 0, none⟩ (.int .i64 0)).heap[w1.heap.size]? = some (.cells #[.int .i64 ((0 : Nat) : Int)] 3 (0, 0)) ∧
    w.heap.size + 1 + 1 < w1.heap.size := by
  obtain ⟨b1, b2, b3, b4⟩ := boxes w a b c t1 t2 t3
  have hsz : w.heap.size + 3 ≤ w1.heap.size := by rw [← b4]; exact hb.size
  have hB : Below w1.heap.size w1 (((w1.drewN nd).alloc (.cells #[.int .i64 0] 3)).setCell ⟨w1.heap.size, 0, none⟩ (.int .i64 0)) := (below_alloc (pw_below_drewN (Below.refl _ _) nd) _).setCell (Nat.le_refl _) _
  refine ⟨(below_step (box_below w _ _ _) hb).trans (hB.mono (by omega)), ?_, ?_, ?_, ?_, by omega⟩
  · rw [hB.cell (by show w.heap.size < _; omega), hb.cell (by rw [b4]; show w.heap.size < _; omega)]
    exact b1
  · rw [hB.cell (by show w.heap.size + 1 < _; omega), hb.cell (by rw [b4]; show w.heap.size + 1 < _; omega)]
    exact b2
  · rw [hB.cell (by show w.heap.size + 1 + 1 < _; omega), hb.cell (by rw [b4]; show w.heap.size + 1 + 1 < _; omega)]
    exact b3
  · exact one_setCell (alloc_one (w1.drewN nd) (.int .i64 0) 3)
theorem grown_refl (W : World) (r : Option Nat) : W.grownBy W r := ⟨rfl, rfl, rfl, Nat.le_refl _, fun _ _ _ => rfl⟩
theorem sortI_calls (xs : List Int) (v : Value) (W : World) (base : Nat) (ok : Nat → Prop) (h : (Kd.int .i64).R 3 W base ok v xs) (hx : xs.length ≤ 1048576) :
    Calls Try.prog 58 #[v] W fun e w' => e = .returned (.tuple #[]) ∧ (Kd.int .i64).R 3 w' base ok v (srt xs) ∧ W.grownBy w' v.ownBlock := by
  rcases Nat.eq_zero_or_pos xs.length with hz | hp
  · obtain rfl : xs = [] := List.eq_nil_of_length_eq_zero hz
    obtain ⟨A, c, rfl, _, _⟩ := Kd.R_reads h
    refine (Try.slices_Sort_int_none_f58 A c W).mono ?_
    rintro e w' ⟨rfl, rfl⟩
    exact ⟨rfl, by unfold srt; rw [List.mergeSort_nil]; exact h, grown_refl _ _⟩
  · obtain ⟨g, cg, rfl, gb, gl, cells, HG⟩ := Kd.R_form h hp
    obtain ⟨hH, hgl, hgb⟩ := R_holds (enc := Value.int .i64) h
    refine (Try.slices_Sort_int_f58 g 0 cg xs W hH hgl (by omega)).mono ?_
    rintro e w' ⟨rfl, nq, os, rfl⟩
    exact ⟨rfl, R_sorted (enc := Value.int .i64) h (ys := srt xs) (by unfold srt; rw [List.length_mergeSort]) nq os, sort_grown (enc := Value.int .i64) nq os _⟩

set_option maxHeartbeats 2000000 in
set_option maxRecDepth 100000 in
theorem bad (s : ByteArray) (A : Option Addr) (c : Nat) (l : List Int) (p : ByteArray) (w : World) (hr : Kd.C (Kd.int .i64) w A l.length l) (hc : l.length ≤ c) (hok : okF s l p = false) :
    Calls Try.prog 35 #[.string s, .slice A l.length c, .string p] w fun e w' => ∃ v0_ : Value, e = .returned (.tuple #[v0_, .int .i64 0, .bool false]) ∧ Kd.R (Kd.int .i64) 3 w' w.heap.size (fun _ => True) v0_ [] ∧ Below w.heap.size w w' := by
  have HB := Aside0.mk (box_below w (.cells #[.string s] 9) (.cells #[.slice A l.length c] 22) (.cells #[.string p] 9))
  have HR := Aside0.mk (Kd.C_below hr HB.out)
  have HC := Aside0.mk hc
  obtain ⟨kk, hk⟩ := (implIs2_ev s l).ex
  by_cases h1 : s.size ≤ 120 ∧ l = sufs s
  · rw [decide_eq_true h1] at hk
    have HK := Aside0.mk hk
    have W2 := Aside0.mk ((within_f (p.size : Int) 1 120).trans (by rw [decide_eq_false (fun h => by
      unfold okF at hok
      have := of_decide_eq_false hok
      exact this ⟨h1, by omega, by omega⟩)]))
    clear hk hok h1 hr hc
    go_enter Try.func35, Try.ntmps35
    go_wp2_with (first | (go_at_call 50; go_loud ((with_reducible refine (impl_isSuffixes.calls kk s A c l true _ HR.out HC.out HK.out).mono ?_); rintro e w' ⟨rfl, hb⟩; have hpc := (hb.cell (p := ⟨w.heap.size + 1 + 1, 0, none⟩) (by rw [(boxes w _ _ _ _ _ _).2.2.2]; show w.heap.size + 1 + 1 < _; omega)).trans (boxes w _ _ _ _ _ _).2.2.1; have HB2 := Aside0.mk hb; clear hb)) | (go_at_call 44; go_loud ((with_reducible refine (impl_within.calls (p.size : Int) 1 120 false _ W2.out).mono ?_); rintro e w2 ⟨rfl, ⟨nd, rfl⟩⟩)))
    go_ret3
    exact ⟨_, rfl, Kd.R_nil _ _ _ _ _, pw_below_drewN (below_step HB.out HB2.out) _⟩
  · rw [decide_eq_false h1] at hk
    have HK := Aside0.mk hk
    clear hk hok h1 hr hc
    go_enter Try.func35, Try.ntmps35
    go_wp2_with (first | (go_at_call 50; go_loud ((with_reducible refine (impl_isSuffixes.calls kk s A c l false _ HR.out HC.out HK.out).mono ?_); rintro e w' ⟨rfl, hb⟩; have HB2 := Aside0.mk hb; clear hb)))
    go_ret3
    exact ⟨_, rfl, Kd.R_nil _ _ _ _ _, below_step HB.out HB2.out⟩

set_option maxHeartbeats 2000000 in
set_option maxRecDepth 100000 in
theorem good (s : ByteArray) (A : Option Addr) (c : Nat) (l : List Int) (p : ByteArray) (w : World) (hr : Kd.C (Kd.int .i64) w A l.length l) (hc : l.length ≤ c) (hs : s.size ≤ 120) (hl : l = sufs s) (hp : 1 ≤ p.size ∧ p.size ≤ 120) :
    Calls Try.prog 35 #[.string s, .slice A l.length c, .string p] w fun e w' => ∃ v0_ : Value, e = .returned (.tuple #[v0_, .int .i64 (((tt s p l).2 : Nat) : Int), .bool true]) ∧ Kd.R (Kd.int .i64) 3 w' w.heap.size (fun _ => True) v0_ (srt (mid s p l)) ∧ Below w.heap.size w w' := by
  have HB := Aside0.mk (box_below w (.cells #[.string s] 9) (.cells #[.slice A l.length c] 22) (.cells #[.string p] 9))
  have HR := Aside0.mk (Kd.C_below hr HB.out)
  have HR0 := Aside0.mk hr
  have HC := Aside0.mk hc
  obtain ⟨kk, hk⟩ := (implIs2_ev s l).ex
  rw [decide_eq_true ⟨hs, hl⟩] at hk
  have HK := Aside0.mk hk
  have W2 := Aside0.mk ((within_f (p.size : Int) 1 120).trans (by rw [decide_eq_true ⟨by omega, by omega⟩]))
  have HWI : Within s l := by rw [hl]; exact sufs_within s
  have HLL : l.length = s.size := by rw [hl]; exact sufs_len s
  have HW := Aside0.mk HWI
  have HS := Aside0.mk (⟨hs, HLL, hp.1, hp.2⟩ : s.size ≤ 120 ∧ l.length = s.size ∧ 1 ≤ p.size ∧ p.size ≤ 120)
  clear hk hr hc hs hl hp HWI HLL
  go_enter Try.func35, Try.ntmps35
  go_upto_region 5 with (first | (go_at_call 50; go_loud ((with_reducible refine (impl_isSuffixes.calls kk s A c l true _ HR.out HC.out HK.out).mono ?_); rintro e w1 ⟨rfl, hb⟩; have hpc := (hb.cell (p := ⟨w.heap.size + 1 + 1, 0, none⟩) (by rw [(boxes w _ _ _ _ _ _).2.2.2]; show w.heap.size + 1 + 1 < _; omega)).trans (boxes w _ _ _ _ _ _).2.2.1; have HB2 := Aside0.mk hb; clear hb)) | (go_at_call 44; go_loud ((with_reducible refine (impl_within.calls (p.size : Int) 1 120 true _ W2.out).mono ?_); rintro e w2 ⟨rfl, ⟨nd, rfl⟩⟩; have hcf := one_cell (alloc_one (w1.drewN nd) (.int .i64 0) 3); have hcf1 : ((w1.drewN nd).alloc (.cells #[.int .i64 0] 3)).cell? ⟨w1.heap.size, 0, none⟩ = some (.int .i64 0) := hcf.1; have hcf2 : ((w1.drewN nd).alloc (.cells #[.int .i64 0] 3)).frozen? ⟨w1.heap.size, 0, none⟩ = false := hcf.2; clear hcf)))
  obtain ⟨F1, F2, F3, F4, F5, F6⟩ := start5 w w1 nd _ _ _ _ _ _ HB2.out
  generalize ((w1.drewN nd).alloc (.cells #[.int .i64 0] 3)).setCell ⟨w1.heap.size, 0, none⟩ (.int .i64 0) = W5 at *
  have G1 := Aside0.mk F1
  have G2 := Aside0.mk F2
  have G3 := Aside0.mk F3
  have G4 := Aside0.mk F4
  have G5 := Aside0.mk F5
  have G6 := Aside0.mk F6
  have hcap : l.length ≤ c := HC.out
  clear F1 F2 F3 F4 F5 F6 hpc hcf1 hcf2 HB HR HK W2
  have hw2 : ∀ t : Nat, t < l.length → ∃ x : Nat, rd l (t : Int) = (x : Int) ∧ x ≤ s.size ∧ less2 s p l t = ltS (suf s x) p := by
    intro t ht
    obtain ⟨a1, a2, a3⟩ := within_get HW.out t ht
    exact ⟨(rd l (t : Int)).toNat, by omega, by omega, rfl⟩
  have hw3 : ∀ t : Nat, t < l.length → ∃ x : Nat, rd l (t : Int) = (x : Int) ∧ x ≤ s.size ∧ less3 s p l t = !(ltS p (cut (suf s x) p)) := by
    intro t ht
    obtain ⟨a1, a2, a3⟩ := within_get HW.out t ht
    exact ⟨(rd l (t : Int)).toNat, by omega, by omega, rfl⟩
  have H2 := (halve2 s p A c l (less2 s p l) w.heap.size (w.heap.size + 1) (w.heap.size + 1 + 1) w1.heap.size 0 0 w W5 HR0.out G1.out (by have := G6.out; omega) (by have := G6.out; omega) (by have := G6.out; omega) G6.out G2.out G3.out G4.out G5.out hw2 (Nat.zero_le _) (by have := HS.out; omega) (by omega) (by have := HS.out; omega) (by have := HS.out; omega)).mono (R' := fun e w' => e = .returned (.int .i64 (((fr s p l).1 : Nat) : Int)) ∧ Below w1.heap.size W5 w' ∧ w'.heap[w1.heap.size]? = some (.cells #[.int .i64 (((fr s p l).2 : Nat) : Int)] 3 (0, 0))) (fun e w' h => h)
  have e0 : ((0 : Nat) : Int) = 0 := rfl
  rw [e0] at H2
  have HH2 := Aside0.mk H2
  have HW3 := Aside0.mk hw3
  clear H2 e0 hw2 hw3
  go_upto_region 6 with (go_at_call 54; go_loud ((with_reducible refine HH2.out.mono ?_); rintro e w6 ⟨rfl, hb6, hc6⟩; have HB6 := Aside0.mk hb6; have HC6 := Aside0.mk hc6; clear hb6 hc6))
  have hfb := hv_bound (less2 s p l) (l.length - 0) 0 l.length 0 (Nat.zero_le _)
  have hfb2 : (fr s p l).1 ≤ l.length ∧ (fr s p l).2 ≤ l.length := ⟨hfb.2.1, by have := hfb.2.2; unfold fr; omega⟩
  have HFB := Aside0.mk hfb2
  have htb := hv_bound (less3 s p l) (l.length - (fr s p l).1) (fr s p l).1 l.length (fr s p l).2 hfb2.1
  have HTB := Aside0.mk (show (fr s p l).1 ≤ (tt s p l).1 ∧ (tt s p l).1 ≤ l.length from ⟨htb.1, htb.2.1⟩)
  have HH3 := Aside0.mk ((halve3 s p A c l (less3 s p l) w.heap.size (w.heap.size + 1) (w.heap.size + 1 + 1) w1.heap.size (fr s p l).1 (fr s p l).2 w w6 HR0.out (G1.out.trans (HB6.out.mono (by have := G6.out; omega))) (by have := G6.out; omega) (by have := G6.out; omega) (by have := G6.out; omega) G6.out
    ((HB6.out.cell (p := ⟨w.heap.size, 0, none⟩) (by show w.heap.size < _; have := G6.out; omega)).trans G2.out) ((HB6.out.cell (p := ⟨w.heap.size + 1, 0, none⟩) (by show w.heap.size + 1 < _; have := G6.out; omega)).trans G3.out) ((HB6.out.cell (p := ⟨w.heap.size + 1 + 1, 0, none⟩) (by show w.heap.size + 1 + 1 < _; have := G6.out; omega)).trans G4.out) HC6.out HW3.out hfb2.1 (by have := HS.out; omega) (by have := HS.out; omega) (by have := HS.out; omega) (by have := HS.out; omega)).mono (R' := fun e w' => e = .returned (.int .i64 (((tt s p l).1 : Nat) : Int)) ∧ Below w1.heap.size w6 w' ∧ w'.heap[w1.heap.size]? = some (.cells #[.int .i64 (((tt s p l).2 : Nat) : Int)] 3 (0, 0))) (fun e w' h => h))
  clear hfb hfb2 htb HH2 HW3
  go_upto_region 7 with (go_at_call 54; go_loud ((with_reducible refine HH3.out.mono ?_); rintro e w7 ⟨rfl, hb7, hc7⟩; have HB7 := Aside0.mk hb7; have HC7 := Aside0.mk hc7; clear hb7 hc7))
  have h73 := (HB7.out.cell (p := ⟨w.heap.size + 1, 0, none⟩) (by show w.heap.size + 1 < _; have := G6.out; omega)).trans ((HB6.out.cell (p := ⟨w.heap.size + 1, 0, none⟩) (by show w.heap.size + 1 < _; have := G6.out; omega)).trans G3.out)
  have HBW := Aside0.mk ((G1.out.trans (HB6.out.mono (by have := G6.out; omega))).trans (HB7.out.mono (by have := G6.out; omega)))
  obtain ⟨i032, hi032, _, hsz32, _⟩ := info_parts info3
  obtain ⟨A32, hcut32, hA32, hC32⟩ := print_mid_of (P := Try.prog) (Value.int .i64) 0 22 3 .i64 .i64 Try.underlying22 hi032 hsz32 A c l (((fr s p l).1 : Nat) : Int) (((tt s p l).1 : Nat) : Int) (by omega) (by have := HTB.out; omega) (by have := HTB.out; omega) hcap
  have HRM : Aside0 (Kd.C (Kd.int .i64) w7 A32 _ _) := Aside0.mk (Kd.C_of_reads (h1 := fun _ => rfl) (hA32 _ (Kd.reads_of_C (Kd.C_below HR0.out HBW.out))))
  clear hA32 hC32 hi032 hsz32
  rw [Int.toNat_natCast, Int.toNat_natCast] at HRM hcut32
  have hml : ((l.take (tt s p l).1).drop (fr s p l).1).length ≤ 1048576 := by
    have := HS.out
    simp
    omega
  have HML := Aside0.mk hml
  clear hml
  have emid : (l.take (tt s p l).1).drop (fr s p l).1 = mid s p l := rfl
  rw [emid] at HRM HML hcut32
  clear emid
  go_upto_region 8 with (go_at_call 57; go_loud ((with_reducible refine (Rws.clone_int A32 _ (mid s p l) _ HRM.out HML.out).mono ?_); rintro e w8 ⟨v8, rfl, ho, hb⟩; have HO8 := Aside0.mk ho; have HB8 := Aside0.mk hb; clear ho hb))
  have HN8 := Aside0.mk (fun (k : Nat) (hk : v8.ownBlock = some k) => ((Kd.R_bound HO8.out).1 k hk).2.1)
  have HBLT := Aside0.mk (show w1.heap.size < w7.heap.size from by
    by_cases h : w1.heap.size < w7.heap.size
    · exact h
    · have h9 := HC7.out
      rw [Array.getElem?_eq_none (by omega)] at h9
      cases h9)
  go_upto_region 9 with (go_at_call 58; go_loud ((with_reducible refine (sortI_calls (mid s p l) v8 _ _ _ HO8.out HML.out).mono ?_); rintro e w9 ⟨rfl, ho, hg⟩; have HO9 := Aside0.mk ho; have HG9 := Aside0.mk hg; clear ho hg))
  have HB9 := Aside0.mk ((below_step HBW.out HB8.out).grown HG9.out (by have h1 := HBW.out.size; have h2 := HB8.out.size; omega) (fun k hk => by have h1 := HN8.out k hk; have h2 := HBW.out.size; omega))
  have hcz : w9.cell? ⟨w1.heap.size, 0, none⟩ = some (.int .i64 (((tt s p l).2 : Nat) : Int)) := by
    have h1 := (one_cell HC7.out).1
    have h2 := HBLT.out
    have h3 := (HB8.out.cell (p := ⟨w1.heap.size, 0, none⟩) h2).trans h1
    refine (World.cell?_of_block (w := w8) (HG9.out.block w1.heap.size (by have := HB8.out.size; omega) (fun e => ?_))).trans h3
    have := HN8.out _ e.symm
    omega
  have HRE := Aside0.mk (Kd.R_lower HO9.out HBW.out.size)
  go_quiet (fail)
  go_wp2
  go_ret3
  exact ⟨_, rfl, Kd.R_drewN HRE.out _, pw_below_drewN HB9.out _⟩
theorem calls (s : ByteArray) (A : Option Addr) (c : Nat) (l : List Int) (p : ByteArray) (w : World) (hr : Kd.C (Kd.int .i64) w A l.length l) (hc : l.length ≤ c) :
    Calls Try.prog 35 #[.string s, .slice A l.length c, .string p] w fun e w' => ∃ v0_ : Value, e = .returned (.tuple #[v0_, .int .i64 (ansFind s l p).2.1, .bool (ansFind s l p).2.2]) ∧ Kd.R (Kd.int .i64) 3 w' w.heap.size (fun _ => True) v0_ (ansFind s l p).1 ∧ Below w.heap.size w w' := by
  unfold ansFind
  cases h : okF s l p with
  | true =>
    have h2 := of_decide_eq_true h
    exact good s A c l p w hr hc h2.1.1 h2.1.2 h2.2
  | false => exact bad s A c l p w hr hc h
end Go.Proofs.Ytppmigiknidjhaa.Fi
end

section
-- Written by a program of this session (pprint.py) out of the translation's print; Lean checks it.
namespace Go.Proofs.Ytppmigiknidjhaa.PQ
open Go.RowKit Go.Proofs.YtppmigiknidjhaaW.PrintWords Go.Proofs.YtppmigiknidjhaaW.PrintLast Go.Proofs.YtppmigiknidjhaaW.PrintMore
attribute [local go_sem] max2_int min2_int max_two min_two max_three min_three max_four min_four   -- for this text's walks alone
set_option linter.unusedVariables false
set_option linter.unusedSimpArgs false

--OWNPART impl_FindIn
/-! ### impl_FindIn: function 35, by hand -/
--NEEDS loop.example/g00274/impl.within
--NEEDS loop.example/g00274/impl.isSuffixes
--IMPORT FiV
def impl_FindIn.f (a0 : ByteArray) (l1 : List Int) (a2 : ByteArray) : Option (List Int × Int × Bool) := some (Fi.ansFind a0 l1 a2)
theorem impl_FindIn.calls (a0 : ByteArray) (A1 : Option Addr) (c1 : Nat) (l1 : List Int) (a2 : ByteArray) (r1 : List Int) (r2 : Int) (r3 : Bool) (w : World) (hr1 : Kd.C (Kd.int .i64) w A1 l1.length l1) (hc1 : l1.length ≤ c1) (h : impl_FindIn.f a0 l1 a2 = some (r1, r2, r3)) :
    Calls Try.prog 35 #[.string a0, .slice A1 l1.length c1, .string a2] w fun e w' => ∃ v0_ : Value, e = .returned (.tuple #[v0_, .int .i64 r2, .bool r3]) ∧ Kd.R (Kd.int .i64) 3 w' w.heap.size (fun _ => True) v0_ r1 ∧ Below w.heap.size w w' := by
  unfold impl_FindIn.f at h
  have h1 := Option.some.inj h
  have := Fi.calls a0 A1 c1 l1 a2 w hr1 hc1
  rw [h1] at this
  exact this

end Go.Proofs.Ytppmigiknidjhaa.PQ
end
