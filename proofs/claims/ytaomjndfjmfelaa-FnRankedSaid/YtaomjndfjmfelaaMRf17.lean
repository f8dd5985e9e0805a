/- Several texts in one: what the claim's last text rests on. No conditions. -/
import Derived.Test.YtaomjndfjmfelaaMRf15
import Derived.Lib.BufferMore
import Derived.Test.YtaomjndfjmfelaaMRf4
section
namespace Go.Proofs.Ytaomjndfjmfelaa.SoB
set_option linter.unusedVariables false
set_option linter.unusedSimpArgs false
open Go.RowKit Go.Shelf Go.Lib Go.Sort Go.Proofs.Ytaomjndfjmfelaa.PQ Go.Proofs.YtaomjndfjmfelaaW.PrintWords Go.Proofs.YtaomjndfjmfelaaW.PrintLast Go.Proofs.YtaomjndfjmfelaaW.PrintMore Go.Proofs.Ytaomjndfjmfelaa.Pre
theorem lit0 (w : World) : Kd.R k79 79 (w.alloc (.cells #[] 79)) w.heap.size (fun _ => True) (.slice (some ⟨w.heap.size, 0, none⟩) 0 0) [] := by
 refine ⟨fun _ _ => trivial, [], ?_, Reps.none _ _⟩
 have h2 := World.ownsRow_lit (base := w.heap.size) (e := 79) (size := 2) w #[] 0 (Nat.le_refl _) (by simp [maxLen]) (by simp)
 show World.ownsRow _ _ _ 2 _ _ _
 simpa using h2
set_option maxRecDepth 100000 in
set_option maxHeartbeats 1000000 in
theorem clone_calls (A : Option Addr) (c : Nat) (l : List Sc) (w : World) (hr : Kd.C k79 w A l.length l) (hc : l.length ≤ c) (hl : l.length ≤ 1048576) (hn : (A = none ∧ c = 0) ∨ ∃ ad, A = some ad) :
  Calls Try.prog 145 #[.slice A l.length c] w fun e w' => ∃ v0_ : Value, e = .returned v0_ ∧ Kd.R k79 79 w' w.heap.size (fun _ => True) v0_ l ∧ Below w.heap.size w w' := by
 rcases hn with ⟨rfl, rfl⟩ | ⟨ad, hA⟩
 ·have e0 : l = [] := List.eq_nil_of_length_eq_zero (by omega)
  subst e0
  have hE := Lib.run_eql_slice_nil_nil (P := Try.prog) w 0 0 Try.underlying61
  go_enter Try.func145, Try.ntmps145
  go_wp2
  go_ret
  exact ⟨_, rfl, Kd.R_nil _ _ _ _ _, Below.refl _ _⟩
 ·subst hA
  have hr0 := hr
  have HL := aM hl
  have HBA := aM (below_alloc (Below.refl w.heap.size w) (.cells #[] 79))
  clear hr hc hl
  go_enter Try.func145, Try.ntmps145
  have hE := Lib.run_eql_slice_some_nil (P := Try.prog) w ad l.length c Try.underlying61
  have HR := aM hr0
  have HR0 := aM (lit0 w)
  clear hr0
  go_wp2_with (at_builtin; go_loud (refine Kd.R_append_rows k79 (Rr := (k79).K w) (w0 := w) w.heap.size rfl (.tmp 5) (.tmp 6) 61 79 (.agg #[.int .i64 0, .int .i64 0]) 16 rfl Try.underlying61 info79 rfl (by decide) (by decide) (.slice (some ⟨w.heap.size, 0, none⟩) 0 0) [] l (some ad) l.length c (fun _ => True) (fun _ => False) rfl rfl HR0.out (Kd.C_below HR.out HBA.out) (fun p cs h => by rw [k79_open h]; exact k79_mkM _ _ _ _) (fun _ h => h.elim) (fun _ _ => trivial) HBA.out (by simp) (by have := HL.out; simp; omega) ?_; intro v4 w4 ho4 hb4 hg4 hat4; have HO4 := aM ho4; have HB4 := aM hb4; clear ho4 hb4 hg4 hat4))
  go_ret
  exact ⟨_, rfl, by simpa using HO4.out, HB4.out⟩
end Go.Proofs.Ytaomjndfjmfelaa.SoB
end

section
namespace Go.Proofs.Ytaomjndfjmfelaa.SoB
set_option linter.unusedVariables false
set_option linter.unusedSimpArgs false
open Go.RowKit Go.Shelf Go.Lib Go.Sort Go.Proofs.Ytaomjndfjmfelaa.PQ Go.Proofs.YtaomjndfjmfelaaW.PrintWords Go.Proofs.YtaomjndfjmfelaaW.PrintLast Go.Proofs.YtaomjndfjmfelaaW.PrintMore Go.Proofs.Ytaomjndfjmfelaa.Pre
attribute [local go_sem] max2_int min2_int max_two min_two
theorem own_not {W : World} {base : Nat} {ok : Nat → Prop} {v : Value} {xs : List Sc} {b : Nat} {cs : Array Value} {t : TypeId} {fr : Nat × Nat} (h : Kd.R k79 79 W base ok v xs) (hb : W.heap[b]? = some (.cells cs t fr)) (ht : t ≠ 79) : v.ownBlock ≠ some b := by
 intro e
 obtain ⟨_, inner, ho, _⟩ := h
 rcases ho.2 with ⟨e0, _⟩ | ⟨g', cap', cur, e0, hb2, hg, _⟩
 ·rw [e0] at e; cases e
 ·rw [e0] at e
  injection e with e
  rw [show g' = b from e, hb] at hg
  injection hg with hg
  injection hg with _ h2
  exact ht h2
set_option maxRecDepth 100000 in
set_option maxHeartbeats 4000000 in
theorem best_calls (w0 : World) (u : Value) (b : Nat) (v : Value) (list : List Sc) (k : Nat) (w : World) (hw0 : Below w0.heap.size w0 w) (hb0 : w0.heap.size ≤ b) (hnb : w.heap[b]? = some (.cells #[u, v] 123 (0, 0))) (ho : Kd.R k79 79 w w0.heap.size (fun _ => True) v list) (hln : list.length ≤ 100000) (hk : k ≤ 1000) :
  Calls Try.prog 101 #[.pointer (some ⟨b, 0, none⟩), .int .i64 (k : Int)] w fun e w' => ∃ v' : Value, e = .returned v' ∧ Kd.R k79 79 w' w.heap.size (fun _ => True) v' ((list.mergeSort le).take k) ∧ Below w0.heap.size w0 w' := by
 obtain ⟨A, c, e1⟩ := Kd.R_slice ho
 subst e1
 have hbl := blk_lt hnb
 have HN := aM hnb
 have HO := aM ho
 have HNE := aM (own_not ho hnb (by decide))
 have HS := aM (sort_calls list A list.length c w0 w w0.heap.size (fun _ => True) ho (by omega) hw0 (Nat.le_refl _))
 have hc1 : w.cell? ⟨b, 1, none⟩ = some (.slice A list.length c) := (blk_cell hnb 1).trans rfl
 have HBL := aM hbl
 have HLN := aM hln
 obtain ⟨mm, hmm⟩ : ∃ mm : Nat, mm = min k list.length := ⟨_, rfl⟩
 have HMM := aM hmm
 have hlc := (Kd.R_reads' ho).2.1
 have m1 : (if list.length < k then (list.length : Int) else (k : Int)) = (mm : Int) := by
  by_cases h : list.length < k
  ·rw [if_pos h]; omega
  ·rw [if_neg h]; omega
 have m2 : (mm : Int) ≤ (c : Int) := by omega
 have m3 : (mm : Int) ≤ 100000 := by omega
 have HLC := aM hlc
 clear hw0 hb0 hnb ho hbl hln hmm hlc
 go_enter Try.func101, Try.ntmps101
 go_upto_region 2 with (go_at_call 143; go_loud ((with_reducible refine HS.out.mono ?_); rintro e w2 ⟨rfl, ho2, hb2, hk2⟩; have HO2 := aM ho2; have HB2 := aM hb2; have HK2 := aM hk2; clear ho2 hb2 hk2))
 clear hc1
 obtain ⟨w3, hw⟩ : ∃ W_, W_ = w2.drew := ⟨_, rfl⟩
 have HD := aM hw
 have B3 := aM (show w3.heap[b]? = some (.cells #[u, .slice A list.length c] 123 (0, 0)) by rw [hw]; exact (HK2.out.2 b HBL.out (fun e => HNE.out e.symm)).trans HN.out)
 have HO3 := aM (show Kd.R k79 79 w3 w0.heap.size (fun _ => True) (.slice A list.length c) (list.mergeSort le) by rw [hw]; exact Kd.R_drew HO2.out)
 have HB3 := aM (show Below w0.heap.size w0 w3 by rw [hw]; exact HB2.out.drew)
 have HW3 := aM (show w.heap.size ≤ w3.heap.size by rw [hw]; exact HK2.out.1)
 have hml : ((list.mergeSort le).take mm).length = mm := by rw [List.length_take, List.length_mergeSort]; have := HMM.out; omega
 have HT := aM (Kd.R_take (m := mm) HO3.out (by rw [List.length_mergeSort]; have := HMM.out; omega))
 have HCL := aM (clone_calls A c ((list.mergeSort le).take mm) w3 (Kd.R_reads' HT.out).2.2 (by rw [hml]; exact (Kd.R_reads' HT.out).2.1) (by rw [hml]; have := HLN.out; have := HMM.out; omega) (by
  cases A with
  | none => exact .inl ⟨rfl, by
    obtain ⟨_, inner, hq, _⟩ := HO3.out
    rcases hq.2 with ⟨e0, _⟩ | ⟨g', cap', cur, e0, _⟩
    ·injection e0
    ·cases e0⟩
  | some ad => exact .inr ⟨ad, rfl⟩))
 rw [hml] at HCL
 clear hw hml
 refine start_ (n := 14) (S := fun w' => w'.cell? ⟨b, 1, none⟩ = some (.slice A list.length c)) (ds := []) (bq 14 0) (by kernel_rfl) rfl (by kernel_rfl) ((HD.out ▸ blk_cell B3.out 1)) (fun hHeld => ?_)
 rw [← HD.out] at hHeld ⊢
 refine pX 14 1 0 10 ?_
 refine pX 14 3 1 11 ?_
 refine pX 14 7 2 12 ?_
 refine pX 14 23 4 14 ?_
 refine pX 14 55 5 15 ?_
 refine pX 14 119 6 16 ?_
 refine pX 14 247 7 17 ?_
 refine sX1 14 255 3 13 hHeld ?_
 refine sX1 14 511 8 18 hHeld ?_
 refine pX 14 1023 9 19 ?_
 refine pX 14 2047 10 20 ?_
 refine pX 14 4095 11 21 ?_
 refine one_ (i := 12) (N := some 22) (bq 14 8191) rfl rfl (by kernel_rfl) (by decide) (fun K hK => ?_)
 refine gA Try.func145 #[.slice A mm c] ?_
 with_reducible refine (HCL.out).mono ?_
 rintro e w4 ⟨v4, rfl, ho, hb⟩
 refine ⟨_, rfl, ?_⟩
 have HO4 := aM ho
 have HB4 := aM hb
 have B4 := aM ((hb.block b (blk_lt B3.out)).trans B3.out)
 clear ho hb
 refine hK.out _ _ (blk_cell B4.out 1) (fun hHeld => ?_)
 clear hK K
 refine nM 22 ?_
 refine pX 14 16383 13 4 ?_
 refine done_ (by kernel_rfl) ?_
 go_wp2
 go_ret
 have et : (list.mergeSort le).take k = (list.mergeSort le).take mm := by
  rw [HMM.out]
  by_cases h : k ≤ list.length
  ·rw [Nat.min_eq_left h]
  ·rw [Nat.min_eq_right (by omega), List.take_of_length_le (by rw [List.length_mergeSort]; omega), List.take_of_length_le (by rw [List.length_mergeSort]; exact Nat.le_refl _)]
 exact ⟨v4, rfl, by rw [et]; exact Kd.R_lower HO4.out HW3.out, below_step HB3.out HB4.out⟩
end Go.Proofs.Ytaomjndfjmfelaa.SoB
end
