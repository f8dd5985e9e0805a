/- Several texts in one: what the claim's last text rests on. No conditions. -/
import Derived.Test.YtppmigiknidjhaaMDn11
import Derived.Test.YtppmigiknidjhaaMDn7
import Derived.Test.YtppmigiknidjhaaMDn9
import Derived.WalkSmall
import Derived.Test.YtppmigiknidjhaaMDn6
section
namespace Go.Proofs.Ytppmigiknidjhaa.LwDn
attribute [local go_sem] Go.Proofs.Ytppmigiknidjhaa.StrO.leq_s Go.Proofs.Ytppmigiknidjhaa.StrO.gtr_s Go.Proofs.Ytppmigiknidjhaa.StrO.geq_s
set_option linter.unusedVariables false
set_option linter.unusedSimpArgs false
open Go.RowKit Go.Proofs.Ytppmigiknidjhaa.PQ Go.Proofs.YtppmigiknidjhaaW.PrintWords Go.Proofs.YtppmigiknidjhaaW.PrintLast Go.Proofs.YtppmigiknidjhaaW.PrintMore Go.Proofs.Ytppmigiknidjhaa.Pre Go.Proofs.Ytppmigiknidjhaa.Srt Go.Proofs.Ytppmigiknidjhaa.Suf Go.Proofs.Ytppmigiknidjhaa.Dn
/-- Rows of texts keep what they hold where their own block is kept. -/
theorem keepS {W W2 : World} {T b : Nat} {v : Value} {ws : List ByteArray} (h : Kd.string.R T W b (fun _ => True) v ws) (hk : ∀ q, v.ownBlock = some q → q < W.heap.size → b ≤ q → W2.heap[q]? = W.heap[q]?) : Kd.string.R T W2 b (fun _ => True) v ws :=
 Kd.R_mono (Kd.R_move (Kd.R_tight rfl h) (fun q hq => hk q hq.symm (Kd.R_lt h q hq.symm) (Kd.R_base h q hq.symm))) (fun _ _ => trivial)
theorem str_at {w : World} {A : Option Addr} {xs : List ByteArray} (h : Kd.C Kd.string w A xs.length xs) (i : Nat) (hi : i < xs.length) : ∃ ad, A = some ad ∧ w.cell? (ad.add i) = some (.string xs[i]) := by
 obtain ⟨ad, c, e, _, hK, hc0⟩ := Kd.C_get h ByteArray.empty (i : Int) (by omega) (by omega)
 rw [Int.toNat_natCast, List.getD_eq_getElem?_getD, List.getElem?_eq_getElem hi] at hK
 rw [Int.toNat_natCast] at hc0
 have hk : c = [.string xs[i]] := hK
 subst hk
 refine ⟨ad, e, ?_⟩
 have h1 := hc0 0 _ rfl
 rw [show Kd.string.sz = 1 from rfl, Nat.mul_one, Nat.add_zero] at h1
 exact h1
theorem mem_step {x : ByteArray} {a : List ByteArray} (m : Nat) (h : m < a.length) : memB (a.take (m + 1)) x = (memB (a.take m) x || (a[m].toList == x.toList)) := by
 unfold memB
 rw [List.take_succ_eq_append_getElem h, List.any_append, List.any_cons, List.any_nil, Bool.or_false]
 congr 1
 by_cases e : a[m] = x
 ·rw [decide_eq_true e, e]
  exact (beq_self_eq_true _).symm
 ·rw [decide_eq_false e]
  exact (beq_eq_false_iff_ne.2 (fun h => e (Byt.toList_inj h))).symm
theorem inTo_next {s : ByteArray} {b : List ByteArray} {i i1 j : Nat} (h : i1 = i + 1) (hj : i1 ≤ j) : inTo s b i (j + 1 - i1) = addU (inTo s b i (j - i1)) (s.extract i j) := by
 rw [show j + 1 - i1 = (j - i1) + 1 by omega]
 show addU _ (s.extract i (i + 1 + (j - i1))) = _
 rw [show i + 1 + (j - i1) = j by omega]
theorem below_more {n : Nat} {w0 W W2 : World} (h : Below n w0 W) (hb : Below (n + 1) W W2) : Below n w0 W2 :=
 ⟨hb.os.trans h.os, hb.tape.trans h.tape, hb.output.trans h.output, Nat.le_trans h.size hb.size, fun k hk => (hb.block k (by omega)).trans (h.block k hk)⟩
set_option maxRecDepth 100000 in
theorem big (A0 : Option Addr) (c0 : Nat) (l0 : List Int) (w : World) (hl : ¬ l0.length ≤ 1048576) :
  Calls Try.prog 7 #[.slice A0 l0.length c0] w fun e w' => e = .returned (.bool true) ∧ Below w.heap.size w w' := by
 have hl1 : (1048576 : Int) < (l0.length : Int) := by omega
 go_enter Try.func7, Try.ntmps7
 go_wp2
 go_ret
 exact ⟨rfl, Below.refl _ _⟩
set_option maxHeartbeats 4000000 in
set_option maxRecDepth 100000 in
theorem calls0 (k1 k2 k3 : Nat) (A0 : Option Addr) (c0 : Nat) (l0 : List Int) (w : World) (hr0 : Kd.C (Kd.int .u8) w A0 l0.length l0) (hc0 : l0.length ≤ c0) (hl : l0.length ≤ 1048576) (s : ByteArray) (n : Int) (b : Bool) (h1 : spec_DrawDistinctIn.f k1 l0 = some s) (h2 : impl_DistinctIn.f k2 s = some (n, b)) (h3 : spec_DistinctIn.f k3 s = some (n, b)) (hs : s.size ≤ 1000) (hA : DnA.Asc s)
  (hb : b = true → s.size ≤ 24 → n = ((allTo s s.size).length : Int)) :
  Calls Try.prog 7 #[.slice A0 l0.length c0] w fun e w' => e = .returned (.bool true) ∧ Below w.heap.size w w' := by
 have HR := aM hr0
 have HC := aM hc0
 have H1 := aM h1
 have H2 := aM h2
 have H3 := aM h3
 have HASC := aM hA
 have HBN := aM hb
 have hl1 : (l0.length : Int) ≤ 1048576 := by omega
 have hs1 : (s.size : Int) ≤ 1000 := by omega
 clear hr0 hc0 h1 h2 h3 hA hb hl hs
 go_enter Try.func7, Try.ntmps7
 go_upto_region 8 with (first | (go_at_call 26; go_loud ((with_reducible refine (spec_DrawDistinctIn.calls k1 A0 c0 l0 s _ HR.out HC.out H1.out).mono ?_); rintro e w1 ⟨rfl, hb⟩; have HB1 := aM hb; clear hb)) | (go_at_call 20; go_loud ((with_reducible refine (impl_DistinctIn.calls k2 s n b _ H2.out).mono ?_); rintro e w2 ⟨rfl, hb⟩; have HB2 := aM (below_step HB1.out hb); clear hb)) | (go_at_call 19; go_loud ((with_reducible refine (spec_DistinctIn.calls k3 s n b _ H3.out).mono ?_); rintro e w3 ⟨rfl, hb⟩; have HB3 := aM (below_step HB2.out hb); clear hb)))
 cases b with
 | false =>
  go_wp2
  go_ret
  exact ⟨rfl, HB3.out⟩
 | true =>
  by_cases h24 : s.size ≤ 24
  ·have h24i : decide ((s.size : Int) > 24) = false := decide_eq_false (by omega)
   have H24 := aM h24
   have HN := aM (HBN.out rfl h24)
   clear h24
   go_upto_region 12 with (fail)
   go_wp2
   go_loopg [8] s.size (fun kq v8 w' => ∃ (i : Nat) (A : Option Addr) (c : Nat) (a : List ByteArray), v8 = .slice A a.length c ∧ i ≤ s.size ∧ kq = s.size - i ∧ Aside0 (a = allTo s i) ∧ Aside0 (Kd.string.R 9 w' (w3.heap.size + 1) (fun _ => True) (.slice A a.length c) a) ∧ Aside0 (w'.heap[w3.heap.size]? = some (.stringIter s i)) ∧ Aside0 (Below w3.heap.size w3 w'))
   case atStart => exact ⟨0, none, 0, [], rfl, Nat.zero_le _, rfl, ⟨rfl⟩, ⟨Kd.R_nil _ _ _ _ _⟩, ⟨World.iter_heap w3 s 0⟩, ⟨below_alloc (Below.refl _ _) _⟩⟩
   case round =>
    obtain ⟨i, A, c, a, rfl, hi, hk, HAL, HRO, HIT, HBW⟩ := hrel
    have HKQ := aM hk
    by_cases hlt : i < s.size
    ·have HLT := aM hlt
     have hnx : ∀ ty, (Instr.next (.pointer (some ⟨w3.heap.size, 0, none⟩)) true ty).run Try.prog wr = _ := fun ty => Lib.run_next_ascii_at wr w3.heap.size s i ty HIT.out HLT.out (DnA.asc_at HASC.out i HLT.out)
     have HIT2 := aM (Lib.iterAt_heap wr w3.heap.size s i (i + 1) HIT.out)
     have HBW2 := aM (Lib.below_iterAt HBW.out (k := w3.heap.size) (Nat.le_refl _) s (i + 1))
     have HRO2 := aM (keepS HRO.out (W2 := wr.iterAt w3.heap.size s (i + 1)) (fun q _ _ hb => Lib.iterAt_other wr w3.heap.size q s (i + 1) (by omega)))
     have HSZ2 : Aside0 (w3.heap.size < (wr.iterAt w3.heap.size s (i + 1)).heap.size) := ⟨blk_lt HIT2.out⟩
     obtain ⟨i1, hi1⟩ : ∃ i1, i1 = i + 1 := ⟨_, rfl⟩
     have HI1 := aM hi1
     rw [← hi1] at hnx HIT2 HBW2 HRO2 HSZ2
     obtain ⟨W1, hW1⟩ : ∃ W1, W1 = wr.iterAt w3.heap.size s i1 := ⟨_, rfl⟩
     rw [← hW1] at hnx HIT2 HBW2 HRO2 HSZ2
     have hw1 : wrap64 ((i : Int) + 1) = (i1 : Int) := by rw [w64 (by omega) (by omega)]; omega
     clear hW1 hlt hk hi hi1
     go_upto_region 15 with (fail)
     clear hnx
     go_wp2
     go_loopg [8, 10] (s.size + 1 - i1) (fun kq v8 v10 w' => ∃ (j : Nat) (A : Option Addr) (c : Nat) (a : List ByteArray), v8 = .slice A a.length c ∧ v10 = .int .i64 (j : Int) ∧ i1 ≤ j ∧ j ≤ s.size + 1 ∧ kq = s.size + 1 - j ∧ Aside0 (a = inTo s (allTo s i) i (j - i1)) ∧ Aside0 (Kd.string.R 9 w' (w3.heap.size + 1) (fun _ => True) (.slice A a.length c) a) ∧ Aside0 (w'.heap[w3.heap.size]? = some (.stringIter s i1)) ∧ Aside0 (Below w3.heap.size w3 w'))
     case atStart => exact ⟨i1, A, c, a, rfl, by rw [hw1], Nat.le_refl _, by have := HI1.out; have := HLT.out; omega, rfl, ⟨by rw [Nat.sub_self]; exact HAL.out⟩, HRO2, HIT2, HBW2⟩
     case round =>
      obtain ⟨j, A4, c4, a4, rfl, rfl, hij, hjs, hk4, HAL4, HRO4, HIT4, HBW4⟩ := hrel
      rename World => W2
      have HKQ4 := aM hk4
      have HIJ := aM hij
      have HJS := aM hjs
      by_cases hjl : j ≤ s.size
      ·have HJL := aM hjl
       have hji : (j : Int) ≤ (s.size : Int) := by omega
       have hi0 : (0 : Int) ≤ (i : Int) := by omega
       have hij2 : (i : Int) ≤ (j : Int) := by have := HI1.out; omega
       have HALL : Aside0 (a4.length ≤ 1000000) := ⟨by
        rw [HAL4.out]
        have h1 := inTo_len s (allTo s i) i (j - i1)
        have h2 := allTo_len s i
        have h3 := H24.out
        have h4 : s.size * i ≤ 24 * 24 := Nat.mul_le_mul h3 (by have := HLT.out; omega)
        omega⟩
       clear hk4 hij hjs hjl hw1
       go_wp2
       go_loopg [11, 59] a4.length (fun kq v11 v59 w' => ∃ m : Nat, v11 = .bool (memB (a4.take m) (s.extract i j)) ∧ v59 = .int .i64 (m : Int) ∧ m ≤ a4.length ∧ kq = a4.length - m ∧ w' = W2)
       case atStart => exact ⟨0, rfl, rfl, Nat.zero_le _, rfl, rfl⟩
       case round =>
        obtain ⟨m, rfl, rfl, hm, hkm, rfl⟩ := hrel
        by_cases hlm : m < a4.length
        ·have HLM := aM hlm
         have HKM := aM hkm
         obtain ⟨ad, hA4, hx⟩ := str_at (Kd.R_reads' HRO4.out).2.2 m hlm
         have HST := aM (mem_step (x := s.extract i j) m hlm)
         obtain ⟨t, ht⟩ : ∃ t, t = a4[m]'HLM.out := ⟨_, rfl⟩
         rw [← ht] at hx HST
         have hw59 : wrap64 ((m : Int) + 1) = (m : Int) + 1 := by have := HALL.out; rw [w64 (by omega) (by omega)]
         have p1 : (0 : Int) ≤ (m : Int) := by omega
         have p2 : (m : Int) < (a4.length : Int) := by omega
         subst hA4
         clear ht hkm hm hlm
         obtain ⟨b, hb⟩ : ∃ b, b = memB (a4.take m) (s.extract i j) := ⟨_, rfl⟩
         rw [← hb] at HST ⊢
         have HB := aM hb
         clear hb
         cases b with
         | false =>
          go_wp2
          go_roundg (a4.length - (m + 1))
          case measure => have := HKM.out; have := HLM.out; omega
          case rel => exact ⟨m + 1, by rw [HST.out, Bool.false_or], by first | go_num | (rw [hw59]; go_num), HLM.out, rfl, rfl⟩
         | true =>
          go_wp2
          go_roundg (a4.length - (m + 1))
          case measure => have := HKM.out; have := HLM.out; omega
          case rel => exact ⟨m + 1, by rw [HST.out, Bool.true_or], by first | go_num | (rw [hw59]; go_num), HLM.out, rfl, rfl⟩
        ·obtain rfl : m = a4.length := by omega
         rw [List.take_length]
         clear hkm hm hlm
         obtain ⟨x, hx⟩ : ∃ x, x = s.extract i j := ⟨_, rfl⟩
         have HX := aM hx
         by_cases hmem : memB a4 x = true
         ·have HMEM := aM hmem
          rw [← hx, hmem]
          clear hx hmem
          go_wp2
          go_roundg (s.size + 1 - (j + 1))
          case measure => have := HKQ4.out; have := HJL.out; omega
          case rel =>
           refine ⟨j + 1, A4, c4, a4, rfl, by go_num, by have := HIJ.out; omega, by have := HJL.out; omega, rfl, ⟨?_⟩, HRO4, HIT4, HBW4⟩
           rw [inTo_next HI1.out HIJ.out, ← HAL4.out, ← HX.out]
           unfold addU
           rw [if_pos HMEM.out]
         ·rw [Bool.not_eq_true] at hmem
          have HMEM := aM hmem
          rw [← hx, hmem]
          clear hx hmem
          go_wp2_with (((with_reducible refine gate_builtin (b := .append) (xs := #[.tmp 75, .tmp 80]) rfl ?_); at_builtin; go_loud (refine Kd.R_append Kd.string (w0 := wr) (W := wr) (w3.heap.size + 1) rfl (.tmp 75) (.tmp 80) 38 9 (.string ⟨#[]⟩) 16 rfl Try.underlying38 info9 rfl (by decide) (by omega) (.slice A4 a4.length c4) a4 (s.extract i j) [.string (s.extract i j)] (fun _ => True) (fun _ => False) rfl rfl rfl (fun _ hk => hk.elim) (fun _ _ => trivial) HRO4.out (Below.refl _ _) (blk_lt HIT4.out) (by have := HALL.out; omega) ?_; intro v5 w5 ho5 hb5 hg5 hat5; obtain ⟨A5, c5, e5⟩ := Kd.R_slice ho5; obtain ⟨a5, ha5⟩ : ∃ a5, a5 = a4 ++ [s.extract i j] := ⟨_, rfl⟩; rw [← ha5] at e5 ho5; subst e5; have HA5 := aM ha5; have HO5 := aM ho5; have HB5 := aM hb5; clear ha5 ho5 hb5 hg5 hat5)))
          go_roundg (s.size + 1 - (j + 1))
          case measure => have := HKQ4.out; have := HJL.out; omega
          case rel =>
           refine ⟨j + 1, A5, c5, a5, rfl, by go_num, by have := HIJ.out; omega, by have := HJL.out; omega, rfl, ⟨?_⟩, HO5, ⟨(HB5.out.block _ (Nat.lt_succ_self _)).trans HIT4.out⟩, ⟨below_more HBW4.out HB5.out⟩⟩
           rw [inTo_next HI1.out HIJ.out, ← HAL4.out, ← HX.out, HA5.out]
           unfold addU
           rw [HMEM.out, HX.out]
           rfl
      ·obtain rfl : j = s.size + 1 := by omega
       have hji : ((s.size + 1 : Nat) : Int) ≤ (s.size : Int) → False := by omega
       clear hk4 hij hjs hjl hw1
       go_wp2
       go_roundg (s.size - (i + 1))
       case measure => have := HKQ.out; have := HLT.out; omega
       case rel => exact ⟨i + 1, A4, c4, a4, rfl, HLT.out, rfl, ⟨by
        have h := HAL4.out
        have h1 := HI1.out
        rw [show s.size + 1 - i1 = s.size - i by omega] at h
        exact h⟩, HRO4, ⟨by rw [← HI1.out]; exact HIT4.out⟩, HBW4⟩
    ·obtain rfl : i = s.size := by omega
     have hnx : ∀ ty, (Instr.next (.pointer (some ⟨w3.heap.size, 0, none⟩)) true ty).run Try.prog wr = _ := fun ty => Lib.run_next_end_at wr w3.heap.size s s.size ty HIT.out (Nat.lt_irrefl _)
     have hne : (n == (a.length : Int)) = true := by rw [HAL.out, HN.out]; exact beq_self_eq_true _
     clear hk hi hlt
     go_wp2
     go_ret
     exact ⟨rfl, below_then HB3.out HB3.out.size HBW.out⟩
  ·have h24i : decide ((s.size : Int) > 24) = true := decide_eq_true (by omega)
   clear h24
   go_wp2
   go_ret
   exact ⟨rfl, HB3.out⟩
theorem calls (A0 : Option Addr) (c0 : Nat) (l0 : List Int) (w : World) (hr0 : Kd.C (Kd.int .u8) w A0 l0.length l0) (hc0 : l0.length ≤ c0) (hwf : ∀ x ∈ l0, (Lit.int .u8 x).wf = true) :
  Calls Try.prog 7 #[.slice A0 l0.length c0] w fun e w' => e = .returned (.bool true) ∧ Below w.heap.size w w' := by
 by_cases hl : l0.length ≤ 1048576
 ·obtain ⟨s, hd, hz, hA⟩ := DnA.drawn (Cur.bytes_wf hwf)
  obtain ⟨k1, h1⟩ := hd.ex
  obtain ⟨k2, h2⟩ := (implDist_ev s).ex
  obtain ⟨k3, h3⟩ := (specDist_ev s).ex
  refine calls0 k1 k2 k3 A0 c0 l0 w hr0 hc0 hl s (ansDist s).1 (ansDist s).2 h1 h2 h3 hz hA (fun _ h24 => ?_)
  unfold ansDist
  rw [if_pos (by omega)]
  exact distinct_all s
 ·exact big A0 c0 l0 w hl
end Go.Proofs.Ytppmigiknidjhaa.LwDn
end

section
namespace Go.Proofs.Ytppmigiknidjhaa.PQ
open Go.RowKit Go.Proofs.YtppmigiknidjhaaW.PrintWords Go.Proofs.YtppmigiknidjhaaW.PrintLast Go.Proofs.YtppmigiknidjhaaW.PrintMore
attribute [local go_sem] max2_int min2_int max_two min_two max_three min_three max_four min_four
set_option linter.unusedVariables false
set_option linter.unusedSimpArgs false
def laws_FnDistinct.Pure : Prop := True
theorem laws_FnDistinct.walk (P : laws_FnDistinct.Pure) (a0 : Option Addr) (c0 : Nat) (l0 : List Int) (w : World) (hr0 : Kd.C (Kd.int .u8) w a0 l0.length l0) (hc0 : l0.length ≤ c0) (w0 : l0.length ≤ maxLen ∧ ∀ x_ ∈ l0, (Lit.int .u8 x_).wf = true) :
  Calls Try.prog 7 #[.slice a0 l0.length c0] w fun e w' => e = .returned (.bool true) ∧ Below w.heap.size w w' :=
 LwDn.calls a0 c0 l0 w hr0 hc0 w0.2

end Go.Proofs.Ytppmigiknidjhaa.PQ
end

section
namespace Go.Proofs.Ytppmigiknidjhaa.Pure
open Go.Proofs.Ytppmigiknidjhaa.PQ
theorem FnDistinct : laws_FnDistinct.Pure := trivial
end Go.Proofs.Ytppmigiknidjhaa.Pure
end
