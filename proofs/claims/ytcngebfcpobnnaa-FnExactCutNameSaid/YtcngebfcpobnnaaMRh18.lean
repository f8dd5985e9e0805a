/- Several texts in one: what the claim's last text rests on. No conditions. -/
import Derived.Test.YtcngebfcpobnnaaMRh15
import Derived.Test.YtcngebfcpobnnaaMRh13
import Derived.Test.YtcngebfcpobnnaaMRh17
import Derived.Test.YtcngebfcpobnnaaMRh12
import Derived.Test.YtcngebfcpobnnaaMRh8
import Derived.Test.YtcngebfcpobnnaaMRh7
import Derived.Test.YtcngebfcpobnnaaMRh5
section
namespace Go.Proofs.Ytcngebfcpobnnaa.Rx
set_option linter.unusedVariables false
set_option linter.unusedSimpArgs false
open Go.RowKit Go.Proofs.Ytcngebfcpobnnaa.PQ Go.Proofs.YtcngebfcpobnnaaW.PrintWords Go.Proofs.YtcngebfcpobnnaaW.PrintLast Go.Proofs.Ytcngebfcpobnnaa.Pre Go.Proofs.Ytcngebfcpobnnaa.CmpL Go.Proofs.Ytcngebfcpobnnaa.Com Go.Proofs.Ytcngebfcpobnnaa.Sml Go.Proofs.Ytcngebfcpobnnaa.SrE
def notN (s : ByteArray) : Bool := !isN s
def root : Eg := ⟨⟨#[]⟩, false, -1⟩
/-- The tree of rising names. -/
def tree (l : List ByteArray) : List Eg := bld (left l 0) l 0 0 [root]
def ansRad (l : List ByteArray) : List Eg × Bool := if l.length ≤ 40 ∧ l.any notN = false ∧ l.Nodup then (tree (srt l), true) else ([], false)
/-- Names that rise. -/
structure Names (l : List ByteArray) : Prop where
 rise : l.Pairwise (fun a b => ltS a b = true)
 each : ∀ n ∈ l, isN n = true
theorem Names.ok {l : List ByteArray} (h : Names l) : Ok l 0 :=
 ⟨h.rise, fun n hn => (isN_size (h.each n hn)).1, fun n hn m hm => by
  apply Byt.bytesOf_inj
  rw [Byt.bytesOf_take, Byt.bytesOf_take]
  rfl⟩
theorem Names.size {l : List ByteArray} (h : Names l) : ∀ n ∈ l, n.size ≤ 20 := fun n hn => (isN_size (h.each n hn)).2.1
theorem Names.left {l : List ByteArray} (h : Names l) : left l 0 ≤ 20 * l.length := by
 have hs := h.size
 clear h
 induction l with
 | nil => exact Nat.zero_le _
 | cons a l ih =>
  have h1 := hs a List.mem_cons_self
  have h2 := ih (fun n hn => hs n (List.mem_cons_of_mem _ hn))
  rw [left_cons, List.length_cons]
  omega
theorem tree_len {l : List ByteArray} (h : Names l) : 1 ≤ (tree l).length ∧ (tree l).length ≤ 1 + 2 * l.length := by
 obtain ⟨E, h1, h2⟩ := bld_len (Rx.left l 0) l 0 0 [root] h.ok (Nat.le_refl _) (by simp)
 unfold tree
 rw [h1, List.length_append, List.length_singleton]
 omega
theorem impl_tree {l : List ByteArray} (h : Names l) (hl : l.length ≤ 1000) : Evt (fun k => impl_radixOf.f k l) (tree l) := by
 have h2 := h.left
 unfold impl_radixOf.f
 refine Evt.bind (Evt.step (fun k => impl_grow.f.eq_2 _ _ _ _ k) (grow_ev (Rx.left l 0) l 0 0 [root] h.ok (Nat.le_refl _) (fun n hn => by have := h.size n hn; omega) (by simp) (by simp; omega))) (Evt.const _)
theorem sufs_0 (l : List ByteArray) : sufs l 0 = l := by
 unfold sufs
 conv => rhs; rw [← List.map_id l]
 exact List.map_congr_left (fun n _ => suf_0 n)
theorem spec_tree {l : List ByteArray} (h : Names l) (hl : l.length ≤ 1000) : Evt (fun k => spec_l13Radix.f k l) (tree l) := by
 have h2 := h.left
 have hb := spec_ev (Rx.left l 0) l 0 0 [root] h.ok (Nat.le_refl _) (fun n hn => by have := h.size n hn; omega) (by simp) (by simp; omega)
 rw [sufs_0] at hb
 unfold spec_l13Radix.f
 have hj : Evt (fun k => spec_l13Build.j0 k l [] 0 false ⟨#[]⟩ false (-1)) (tree l) :=
  Evt.step (fun k => spec_l13Build.j0.eq_2 _ _ _ _ _ _ _ k) (Evt.neg (by simp) (Evt.step (fun k => spec_l13Build.j1.eq_2 _ _ _ _ _ _ k) (Evt.pos (by simp) hb)))
 have hm : Evt (fun k => spec_l13Build.f k l (⟨#[]⟩ : ByteArray) (-1) ([] : List Eg)) (tree l) := by
  refine Evt.step (fun k => spec_l13Build.f.eq_2 _ _ _ _ k) ?_
  by_cases h0 : 0 < l.length
  ·
   have e0 : rdOf ByteArray.empty l 0 = l[0] := rd_str l 0 h0
   have e1 : (l[0].toList == ([] : List UInt8)) = false := by
    rw [beq_eq_false_iff_ne, ne_eq, Byt.toList_nil_iff]
    have := (isN_size (h.each _ (List.getElem_mem h0))).1
    omega
   refine Evt.pos (by omega) (Evt.pos (by omega) ?_)
   rw [e0, e1]
   exact hj
  ·
   exact Evt.neg (by omega) hj
 first | exact Evt.bind hm (Evt.const _) | exact hm
theorem rise_unique {a b : List ByteArray} (h : a.Perm b) (ha : a.Pairwise (fun a b => ltS a b = true)) (hb : b.Pairwise (fun a b => ltS a b = true)) : a = b :=
 h.eq_of_pairwise (fun x y _ _ h1 h2 => by have := ltS_asymm h1; rw [h2] at this; cases this) ha hb
theorem leB_tri (a b : ByteArray) : (leB a b || leB b a) = true := by
 unfold leB
 cases h : ltS b a with
 | false => rfl
 | true => rw [ltS_asymm h]; rfl
theorem leB_trans (a b c : ByteArray) (h1 : leB a b = true) (h2 : leB b c = true) : leB a c = true := by
 unfold leB at *
 simp only [Bool.not_eq_true'] at *
 exact ltS_ntrans h2 h1
theorem srt_perm (l : List ByteArray) : (srt l).Perm l := List.mergeSort_perm _ _
theorem srt_rise {l : List ByteArray} (h : l.Nodup) : (srt l).Pairwise (fun a b => ltS a b = true) := by
 have h1 : (srt l).Pairwise (fun a b => leB a b = true) := List.pairwise_mergeSort (fun a b c => leB_trans a b c) leB_tri l
 have h2 : (srt l).Nodup := (srt_perm l).nodup_iff.2 h
 refine (h1.and h2).imp ?_
 rintro a b ⟨h3, h4⟩
 unfold leB at h3
 simp only [Bool.not_eq_true'] at h3
 cases h5 : ltS a b with
 | true => rfl
 | false => exact absurd (ltS_tri h5 h3) h4
theorem names_srt {l : List ByteArray} (hn : l.any notN = false) (h : l.Nodup) : Names (srt l) :=
 ⟨srt_rise h, fun n hm => by
  rw [List.any_eq_false] at hn
  have := hn n ((srt_perm l).mem_iff.1 hm)
  unfold notN at this
  simpa using this⟩
theorem ansRad_len (l : List ByteArray) : (ansRad l).1.length ≤ 81 := by
 unfold ansRad
 split
 ·
  rename_i h
  have := tree_len (names_srt h.2.1 h.2.2)
  have h2 := srt_len l
  show (tree (srt l)).length ≤ 81
  omega
 ·
  exact Nat.zero_le _
end Go.Proofs.Ytcngebfcpobnnaa.Rx
end

section
namespace Go.Proofs.Ytcngebfcpobnnaa.Rad
set_option linter.unusedVariables false
set_option linter.unusedSimpArgs false
open Go.RowKit Go.Lib Go.Proofs.Ytcngebfcpobnnaa.PQ Go.Proofs.YtcngebfcpobnnaaW.PrintWords Go.Proofs.YtcngebfcpobnnaaW.PrintLast Go.Proofs.YtcngebfcpobnnaaW.PrintMore Go.Proofs.Ytcngebfcpobnnaa.Pre Go.Proofs.Ytcngebfcpobnnaa.Sml Go.Proofs.Ytcngebfcpobnnaa.SrE Go.Proofs.Ytcngebfcpobnnaa.Rx
theorem lit_calls (s : ByteArray) (w : World) (hs : s.size ≤ 1048576) : Calls Try.prog 41 #[.string s] w fun e w' => e = .returned (.bool (notN s)) ∧ Below w.heap.size w w' := by
 obtain ⟨k, hk⟩ := (impl_name s hs).ex
 have E := aM hk
 obtain ⟨b, hb⟩ : ∃ b, b = isN s := ⟨_, rfl⟩
 unfold notN
 rw [← hb] at E ⊢
 clear hk hb
 go_enter Try.func41, Try.ntmps41
 go_wp2_with (first | (go_at_call 42; go_loud ((with_reducible refine (impl_nameOK.calls k s b _ E.out).mono ?_); rintro e w2 ⟨rfl, hd⟩; have HB2 := aM hd.below; clear hd)))
 go_ret
 exact ⟨rfl, HB2.out⟩
theorem str_at {w : World} {A : Option Addr} {xs : List ByteArray} (h : Kd.C Kd.string w A xs.length xs) (i : Nat) (hi : i < xs.length) : ∃ ad, A = some ad ∧ w.cell? (ad.add i) = some (.string xs[i]) := by
 obtain ⟨ad, c, e, _, hK, hc0⟩ := Kd.C_get h ByteArray.empty (i : Int) (by omega) (by omega)
 rw [Int.toNat_natCast, List.getD_eq_getElem?_getD, List.getElem?_eq_getElem hi] at hK
 rw [Int.toNat_natCast] at hc0
 have hk : c = [.string xs[i]] := hK
 subst hk
 refine ⟨ad, e, ?_⟩
 have h1 := hc0 0 _ rfl
 rw [show Kd.string.sz = 1 from rfl, Nat.mul_one, Nat.add_zero] at h1
 exact h1
set_option maxHeartbeats 1000000 in
theorem index_calls (A : Option Addr) (c : Nat) (l : List ByteArray) (w : World) (hr : Kd.C Kd.string w A l.length l) (hl : l.length ≤ 1048576 ∧ ∀ s ∈ l, s.size ≤ 1048576) :
  Calls Try.prog 68 #[.slice A l.length c, .func (.func 41) #[] #[]] w fun e w' => ∃ r : Int, e = .returned (.int .i64 r) ∧ decide ((0 : Int) ≤ r) = l.any notN ∧ Below w.heap.size w w' := by
 have HR := aM hr
 have HL := aM hl
 have HL1 := aM hl.1
 clear hr hl
 go_enter Try.func68, Try.ntmps68
 go_wp2
 go_loopg [8] l.length (fun kq v8 w' => ∃ i : Nat, v8 = .int .i64 (i : Int) ∧ i ≤ l.length ∧ kq = l.length - i ∧ Aside0 ((l.take i).any notN = false) ∧ Aside0 (Below w.heap.size w w'))
 case atStart => exact ⟨0, rfl, by omega, by omega, ⟨by simp⟩, ⟨Below.refl _ _⟩⟩
 case round =>
  obtain ⟨i, rfl, hi, hk, HE, HB⟩ := hrel
  by_cases hlt : i < l.length
  ·
   have HI := aM hlt
   have p1 : (0 : Int) ≤ (i : Int) := by omega
   have q1 : (i : Int) < (l.length : Int) := by omega
   obtain ⟨ad, rfl, hx0⟩ := str_at HR.out i hlt
   replace hx0 := (HB.out.cell (World.block_lt_of_cell? w _ hx0)).trans hx0
   obtain ⟨x, hxe⟩ : ∃ x, x = l[i] := ⟨_, rfl⟩
   rw [← hxe] at hx0
   have HX : Aside0 (x.size ≤ 1048576) := ⟨by rw [hxe]; exact HL.out.2 _ (List.getElem_mem hlt)⟩
   have HT : Aside0 ((l.take (i + 1)).any notN = notN x) := ⟨by rw [List.take_succ_eq_append_getElem hlt, List.any_append, HE.out, ← hxe]; simp⟩
   have HM : Aside0 (notN x = true → l.any notN = true) := ⟨fun h => List.any_eq_true.2 ⟨x, by rw [hxe]; exact List.getElem_mem hlt, h⟩⟩
   clear hxe
   obtain ⟨b, hb⟩ : ∃ b, b = notN x := ⟨_, rfl⟩
   have HBB := aM hb
   clear hb
   cases b with
   | true =>
    go_wp2_with (first | (go_at_call 41; go_loud ((with_reducible refine (lit_calls x _ HX.out).mono ?_); rintro e w2 ⟨rfl, hb⟩; rw [← HBB.out]; have HB2 := aM (below_step HB.out hb); clear hb)))
    go_ret
    exact ⟨_, rfl, by rw [HM.out HBB.out.symm]; simp, HB2.out⟩
   | false =>
    go_wp2_with (first | (go_at_call 41; go_loud ((with_reducible refine (lit_calls x _ HX.out).mono ?_); rintro e w2 ⟨rfl, hb⟩; rw [← HBB.out]; have HB2 := aM (below_step HB.out hb); clear hb)))
    go_roundg (l.length - (i + 1))
    case measure => have := HI.out; omega
    case rel => exact ⟨i + 1, by have := HL1.out; have := HI.out; first | go_num | (rw [w64 (by omega) (by omega)]; go_num), by have := HI.out; omega, by omega, ⟨HT.out.trans HBB.out.symm⟩, HB2⟩
  ·
   obtain rfl : i = l.length := by omega
   go_wp2
   go_ret
   exact ⟨-1, rfl, by rw [show l.any notN = false from by have h_ := HE.out; rwa [List.take_length] at h_]; rfl, HB.out⟩
theorem contains_calls (A : Option Addr) (c : Nat) (l : List ByteArray) (w : World) (hr : Kd.C Kd.string w A l.length l) (hl : l.length ≤ 1048576 ∧ ∀ s ∈ l, s.size ≤ 1048576) :
  Calls Try.prog 40 #[.slice A l.length c, .func (.func 41) #[] #[]] w fun e w' => e = .returned (.bool (l.any notN)) ∧ Below w.heap.size w w' := by
 have HR := aM hr
 have HL := aM hl
 clear hr hl
 go_enter Try.func40, Try.ntmps40
 go_wp2_with (first | (go_at_call 68; go_loud ((with_reducible refine (index_calls A c l _ HR.out HL.out).mono ?_); rintro e w2 ⟨r, rfl, hr2, hb⟩; have HB2 := aM hb; clear hb)))
 go_ret
 exact ⟨rfl, HB2.out⟩
theorem srt_small {l : List ByteArray} (hl : l.length ≤ 1048576 ∧ ∀ s ∈ l, s.size ≤ 1048576) : (srt l).length ≤ 1048576 := by rw [srt_len]; exact hl.1
theorem keeps_at (xs : List ByteArray) (j : Nat) (hj : j + 1 < xs.length) : Go.Lib.keeps (xs.map (fun x : ByteArray => x.toList)).toArray (j + 1) = decide (xs[j + 1] ≠ xs[j]) := by
 unfold Go.Lib.keeps
 rw [getElem!_pos _ (j + 1) (by simpa using hj), Nat.add_sub_cancel, getElem!_pos _ j (by simp; omega)]
 simp only [List.getElem_toArray, List.getElem_map]
 rw [decide_eq_decide]
 constructor
 ·
  rintro (h | h) e
  ·
   cases h
  ·
   exact h (by rw [e])
 ·
  intro h
  exact .inr (fun e => h (Byt.toList_inj e))
theorem cc_full {xs : List ByteArray} (h : xs.Nodup) : (cc xs).length = xs.length := by
 unfold cc compactUpTo
 rw [List.length_map, List.filter_eq_self.2 ?_]
 ·
  simp
 ·
  intro j hj
  have hj : j < xs.length := by simpa using hj
  cases j with
  | zero => rfl
  | succ j =>
   rw [keeps_at xs j hj]
   exact decide_eq_true (fun e => List.pairwise_iff_getElem.1 h j (j + 1) (by omega) hj (by omega) e.symm)
theorem cc_less {xs : List ByteArray} (hs : xs.Pairwise (fun a b => leB a b = true)) (h : (cc xs).length = xs.length) : xs.Nodup := by
 unfold cc compactUpTo at h
 rw [List.length_map] at h
 have hall : ∀ j ∈ List.range (xs.map (fun x : ByteArray => x.toList)).toArray.size, Go.Lib.keeps (xs.map (fun x : ByteArray => x.toList)).toArray j = true := by
  refine List.length_filter_eq_length_iff.1 ?_
  rw [h]
  simp
 have hne : ∀ j (hj : j + 1 < xs.length), xs[j + 1] ≠ xs[j] := fun j hj => by
  have := hall (j + 1) (by simpa using hj)
  rw [keeps_at xs j hj] at this
  exact of_decide_eq_true this
 have hp := List.pairwise_iff_getElem.1 hs
 unfold List.Nodup
 rw [List.pairwise_iff_getElem]
 intro i j hi hj hij e
 obtain ⟨k, rfl⟩ : ∃ k, j = k + 1 := ⟨j - 1, by omega⟩
 have h1 := hp k (k + 1) (by omega) hj (by omega)
 refine hne k hj ?_
 by_cases hik : i = k
 ·
  subst hik
  exact e.symm
 ·
  have h2 := hp i k hi (by omega) (by omega)
  rw [e] at h2
  unfold leB at h1 h2
  simp only [Bool.not_eq_true'] at h1 h2
  exact CmpL.ltS_tri h1 h2
set_option maxHeartbeats 2000000 in
set_option maxRecDepth 100000 in
theorem radix_calls (A : Option Addr) (c : Nat) (l : List ByteArray) (w : World) (hr : Kd.C Kd.string w A l.length l) (hl : l.length ≤ 1048576 ∧ ∀ s ∈ l, s.size ≤ 1048576) :
  Calls Try.prog 14 #[.slice A l.length c] w fun e w' => ∃ v : Value, e = .returned (.tuple #[.agg #[v], .bool (ansRad l).2]) ∧ Kd.R k64 64 w' w.heap.size (fun _ => True) v (ansRad l).1 ∧ Below w.heap.size w w' := by
 have HC := aM hr
 have HL := aM hl
 have HB0 : Aside0 (Below w.heap.size w (w.alloc (.cells #[.slice none 0 0] 26))) := ⟨below_alloc (Below.refl _ _) _⟩
 have HSZ : Aside0 (w.heap.size ≤ (w.alloc (.cells #[.slice none 0 0] 26)).heap.size) := ⟨by simp⟩
 have HS0 : Aside0 (w.heap.size + 1 ≤ (w.alloc (.cells #[.slice none 0 0] 26)).heap.size) := ⟨by simp⟩
 have HR0 : Aside0 ((w.alloc (.cells #[.slice none 0 0] 26)).heap[w.heap.size]? = some (.cells #[.slice none 0 0] 26 (0, 0))) := ⟨by show (w.heap.push _)[w.heap.size]? = _; simp⟩
 by_cases h40 : l.length ≤ 40
 ·
  have hgt : decide ((l.length : Int) > 40) = false := decide_eq_false (by omega)
  obtain ⟨b, hb⟩ : ∃ b, b = l.any notN := ⟨_, rfl⟩
  have HBB := aM hb
  have H40 := aM h40
  cases b with
  | true =>
   rw [show ansRad l = ([], false) by unfold ansRad; rw [if_neg (fun h => by rw [h.2.1] at hb; cases hb)]]
   clear hr hl hb h40
   go_enter Try.func14, Try.ntmps14
   go_upto_region 2 with (first | (go_at_call 40; go_loud ((with_reducible refine (contains_calls A c l _ (Kd.C_below HC.out HB0.out) HL.out).mono ?_); rintro e w2 ⟨rfl, hb⟩; rw [← HBB.out]; have HR2 := aM ((hb.block w.heap.size (by simp)).trans HR0.out); have HB2 := aM (below_then HB0.out HSZ.out hb); have HS2 := aM (Nat.le_trans HS0.out hb.size); clear hb)))
   have cr : w2.cell? ⟨w.heap.size, 0, none⟩ = some (.slice none 0 0) := (blk_cell HR2.out 0).trans rfl
   have fr : w2.frozen? ⟨w.heap.size, 0, none⟩ = false := blk_frozen HR2.out 0
   go_wp2
   refine bodyPost_ret (results_ct rfl _ _ w.heap.size 26 #[.slice none 0 0] (0, 0) _ rfl (blk_put HR2.out 0 _ rfl) Try.underlying26 rfl (by kernel_rfl)) rfl ?_
   exact ⟨_, rfl, Kd.R_nil _ _ _ _ _, HB2.out.setCell (p := ⟨w.heap.size, 0, none⟩) (Nat.le_refl _) _⟩
  | false =>
   obtain ⟨d, hd⟩ : ∃ d : Bool, d = decide l.Nodup := ⟨_, rfl⟩
   have HD := aM hd
   clear hr hl h40
   cases d with
   | false =>
    rw [show ansRad l = ([], false) by unfold ansRad; rw [if_neg (fun h => by rw [decide_eq_true h.2.2] at hd; cases hd)]]
    clear hb hd
    go_enter Try.func14, Try.ntmps14
    have HF : Aside0 ((((cc (srt l)).length : Int) != ((srt l).length : Int)) = true) := ⟨by
     rw [bne_iff_ne]
     intro e
     have h1 := cc_less (xs := srt l) (List.pairwise_mergeSort (fun a b c => leB_trans a b c) leB_tri l) (by omega)
     have h2 := of_decide_eq_false HD.out.symm
     exact h2 ((srt_perm l).nodup_iff.1 h1)⟩
    go_upto_region 5 with (first | (go_at_call 40; go_loud ((with_reducible refine (contains_calls A c l _ (Kd.C_below HC.out HB0.out) HL.out).mono ?_); rintro e w2 ⟨rfl, hb⟩; rw [← HBB.out]; have HR2 := aM ((hb.block w.heap.size (by simp)).trans HR0.out); have HB2 := aM (below_then HB0.out HSZ.out hb); have HS2 := aM (Nat.le_trans HS0.out hb.size); clear hb)) | (go_at_call 43; go_loud ((with_reducible refine (Rws.clone_str A c l _ (Kd.C_below HC.out HB2.out) HL.out.1).mono ?_); rintro e w3 ⟨v3, rfl, ho, hb⟩; have HO3 := aM ho; have HB23 := aM hb; have HR3 := aM ((hb.block w.heap.size (by have := HS2.out; omega)).trans HR2.out); have HB3 := aM (below_step HB2.out hb); have HS3 := aM (Nat.le_trans HS2.out hb.size); clear ho hb)) | (go_at_call 44; go_loud ((with_reducible refine (sort_calls l v3 _ _ _ HO3.out HL.out.1).mono ?_); rintro e w4 ⟨rfl, ho, hg⟩; have HO4 := aM ho; obtain ⟨A4, c4, e4, hl4, hC4⟩ := Kd.R_reads ho; subst e4; have HL4 := aM hl4; have HC4 := aM hC4; have HG := aM hg; have HR4 := aM ((hg.block w.heap.size (by have := HS3.out; omega) (fun e => by have := Kd.R_base ho _ e.symm; have := HS2.out; omega)).trans HR3.out); have HB4 := aM (HB3.out.grown hg (by have := HS3.out; omega) (fun k hk => by have := Kd.R_base ho _ hk; have := HS2.out; omega)); have HS4 := aM (Nat.le_trans HS3.out hg.size); clear ho hl4 hC4 hg)))
    go_upto_region 6 with (first | (go_at_call 43; go_loud ((with_reducible refine (Rws.clone_str A4 c4 (srt l) _ HC4.out (srt_small HL.out)).mono ?_); rintro e w5 ⟨v5, rfl, ho, hb⟩; have HO5 := aM ho; have HO45 := aM (Kd.R_below HO4.out hb); have HR5 := aM ((hb.block w.heap.size (by have := HS4.out; omega)).trans HR4.out); have HB5 := aM (below_step HB4.out hb); have HS5 := aM (Nat.le_trans HS4.out hb.size); clear ho hb)) | (go_at_call 45; go_loud ((with_reducible refine (compact_calls (srt l) v5 _ _ _ HO5.out (srt_small HL.out)).mono ?_); rintro e w6 ⟨A6, n6, c6, rfl, hh, hg⟩; have HN6 := aM hh.1; have HO46 := aM (Kd.R_grown2 HO45.out rfl hg (fun k hk e => by have h1 := Kd.R_base HO5.out _ hk; have h2 := Kd.R_lt HO4.out _ e.symm; omega)); have HR6 := aM ((hg.block w.heap.size (by have := HS5.out; omega) (fun e => by have h1 := Kd.R_base HO5.out _ e.symm; have := HS4.out; omega)).trans HR5.out); have HB6 := aM (HB5.out.grown hg (by have := HS5.out; omega) (fun k hk => by have h1 := Kd.R_base HO5.out _ hk; have := HS4.out; omega)); have HS6 := aM (Nat.le_trans HS5.out hg.size); have hfn : ((n6 : Int) != ((srt l).length : Int)) = true := (by rw [HN6.out, List.length_map]; exact HF.out); clear hh hg)))
    have cr : w6.cell? ⟨w.heap.size, 0, none⟩ = some (.slice none 0 0) := (blk_cell HR6.out 0).trans rfl
    have fr : w6.frozen? ⟨w.heap.size, 0, none⟩ = false := blk_frozen HR6.out 0
    clear hfn
    go_wp2
    refine bodyPost_ret (results_ct rfl _ _ w.heap.size 26 #[.slice none 0 0] (0, 0) _ rfl (blk_put HR6.out 0 _ rfl) Try.underlying26 rfl (by kernel_rfl)) rfl ?_
    exact ⟨_, rfl, Kd.R_nil _ _ _ _ _, HB6.out.setCell (p := ⟨w.heap.size, 0, none⟩) (Nat.le_refl _) _⟩
   | true =>
    have hnd : l.Nodup := of_decide_eq_true hd.symm
    rw [show ansRad l = (tree (srt l), true) by unfold ansRad; rw [if_pos ⟨H40.out, hb.symm, hnd⟩]]
    have HNS := aM (names_srt hb.symm hnd)
    obtain ⟨kr, hkr⟩ := (impl_tree HNS.out (by rw [srt_len]; have := H40.out; omega)).ex
    have EKR := aM hkr
    have HF : Aside0 ((((cc (srt l)).length : Int) != ((srt l).length : Int)) = false) := ⟨by
     rw [cc_full ((srt_perm l).nodup_iff.2 hnd)]
     exact bne_self_eq_false _⟩
    clear hb hd hnd hkr
    go_enter Try.func14, Try.ntmps14
    go_upto_region 5 with (first | (go_at_call 40; go_loud ((with_reducible refine (contains_calls A c l _ (Kd.C_below HC.out HB0.out) HL.out).mono ?_); rintro e w2 ⟨rfl, hb⟩; rw [← HBB.out]; have HR2 := aM ((hb.block w.heap.size (by simp)).trans HR0.out); have HB2 := aM (below_then HB0.out HSZ.out hb); have HS2 := aM (Nat.le_trans HS0.out hb.size); clear hb)) | (go_at_call 43; go_loud ((with_reducible refine (Rws.clone_str A c l _ (Kd.C_below HC.out HB2.out) HL.out.1).mono ?_); rintro e w3 ⟨v3, rfl, ho, hb⟩; have HO3 := aM ho; have HB23 := aM hb; have HR3 := aM ((hb.block w.heap.size (by have := HS2.out; omega)).trans HR2.out); have HB3 := aM (below_step HB2.out hb); have HS3 := aM (Nat.le_trans HS2.out hb.size); clear ho hb)) | (go_at_call 44; go_loud ((with_reducible refine (sort_calls l v3 _ _ _ HO3.out HL.out.1).mono ?_); rintro e w4 ⟨rfl, ho, hg⟩; have HO4 := aM ho; obtain ⟨A4, c4, e4, hl4, hC4⟩ := Kd.R_reads ho; subst e4; have HL4 := aM hl4; have HC4 := aM hC4; have HG := aM hg; have HR4 := aM ((hg.block w.heap.size (by have := HS3.out; omega) (fun e => by have := Kd.R_base ho _ e.symm; have := HS2.out; omega)).trans HR3.out); have HB4 := aM (HB3.out.grown hg (by have := HS3.out; omega) (fun k hk => by have := Kd.R_base ho _ hk; have := HS2.out; omega)); have HS4 := aM (Nat.le_trans HS3.out hg.size); clear ho hl4 hC4 hg)))
    go_upto_region 7 with (first | (go_at_call 43; go_loud ((with_reducible refine (Rws.clone_str A4 c4 (srt l) _ HC4.out (srt_small HL.out)).mono ?_); rintro e w5 ⟨v5, rfl, ho, hb⟩; have HO5 := aM ho; have HO45 := aM (Kd.R_below HO4.out hb); have HR5 := aM ((hb.block w.heap.size (by have := HS4.out; omega)).trans HR4.out); have HB5 := aM (below_step HB4.out hb); have HS5 := aM (Nat.le_trans HS4.out hb.size); clear ho hb)) | (go_at_call 45; go_loud ((with_reducible refine (compact_calls (srt l) v5 _ _ _ HO5.out (srt_small HL.out)).mono ?_); rintro e w6 ⟨A6, n6, c6, rfl, hh, hg⟩; have HN6 := aM hh.1; have HO46 := aM (Kd.R_grown2 HO45.out rfl hg (fun k hk e => by have h1 := Kd.R_base HO5.out _ hk; have h2 := Kd.R_lt HO4.out _ e.symm; omega)); have HR6 := aM ((hg.block w.heap.size (by have := HS5.out; omega) (fun e => by have h1 := Kd.R_base HO5.out _ e.symm; have := HS4.out; omega)).trans HR5.out); have HB6 := aM (HB5.out.grown hg (by have := HS5.out; omega) (fun k hk => by have h1 := Kd.R_base HO5.out _ hk; have := HS4.out; omega)); have HS6 := aM (Nat.le_trans HS5.out hg.size); have hfn : ((n6 : Int) != ((srt l).length : Int)) = false := (by rw [HN6.out, List.length_map]; exact HF.out); clear hh hg)))
    have HC6 := aM (Kd.R_reads' HO46.out).2.2
    clear hfn
    go_wp2_with (first | (go_at_call 46; go_loud ((with_reducible refine (impl_radixOf.calls kr A4 c4 (srt l) (tree (srt l)) _ HC6.out HL4.out EKR.out).mono ?_); rintro e w7 ⟨v7, rfl, ho, hb⟩; obtain ⟨A7, c7, e7⟩ := Kd.R_slice ho; subst e7; have HO7 := aM ho; have HR7 := aM ((hb.block w.heap.size (by have := HS6.out; omega)).trans HR6.out); have HB7 := aM (below_step HB6.out hb); have cr : w7.cell? ⟨w.heap.size, 0, none⟩ = some (.slice none 0 0) := (blk_cell HR7.out 0).trans rfl; have fr : w7.frozen? ⟨w.heap.size, 0, none⟩ = false := blk_frozen HR7.out 0; clear ho hb)))
    refine bodyPost_ret (results_ct rfl _ _ w.heap.size 26 #[.slice A7 (tree (srt l)).length c7] (0, 0) _ rfl (blk_put HR7.out 0 _ rfl) Try.underlying26 rfl (by kernel_rfl)) rfl ?_
    refine ⟨_, rfl, ?_, HB7.out.setCell (p := ⟨w.heap.size, 0, none⟩) (Nat.le_refl _) _⟩
    have h1 := Kd.R_far (p := ⟨w.heap.size, 0, none⟩) (Kd.R_bound HO7.out) (fun k hk => by have h1 := hk.2.1; have := HS6.out; show k ≠ w.heap.size; omega) (.slice A7 (tree (srt l)).length c7)
    exact Kd.R_mono (Kd.R_lower h1 (by have := HS6.out; omega)) (fun _ _ => trivial)
 ·
  have hgt : decide ((l.length : Int) > 40) = true := decide_eq_true (by omega)
  rw [show ansRad l = ([], false) by unfold ansRad; rw [if_neg (fun h => h40 h.1)]]
  clear hr hl h40
  go_enter Try.func14, Try.ntmps14
  go_wp2
  refine bodyPost_ret (results_ct rfl _ _ w.heap.size 26 #[.slice none 0 0] (0, 0) _ rfl HR0.out Try.underlying26 rfl (by kernel_rfl)) rfl ?_
  exact ⟨_, rfl, Kd.R_nil _ _ _ _ _, HB0.out⟩
end Go.Proofs.Ytcngebfcpobnnaa.Rad
end

section
namespace Go.Proofs.Ytcngebfcpobnnaa.PQ
open Go.RowKit Go.Proofs.YtcngebfcpobnnaaW.PrintWords Go.Proofs.YtcngebfcpobnnaaW.PrintLast Go.Proofs.YtcngebfcpobnnaaW.PrintMore
attribute [local go_sem] max2_int min2_int max_two min_two max_three min_three max_four min_four
set_option linter.unusedVariables false
set_option linter.unusedSimpArgs false
def impl_RadixOf.f (l0 : List ByteArray) : Option (List (S64) × Bool) := if l0.length ≤ 1048576 ∧ ∀ s ∈ l0, s.size ≤ 1048576 then some (Rx.ansRad l0) else none
theorem impl_RadixOf.calls (A0 : Option Addr) (c0 : Nat) (l0 : List ByteArray) (r1 : List (S64)) (r2 : Bool) (w : World) (hr0 : Kd.C Kd.string w A0 l0.length l0) (hc0 : l0.length ≤ c0) (h : impl_RadixOf.f l0 = some (r1, r2)) :
  Calls Try.prog 14 #[.slice A0 l0.length c0] w fun e w' => ∃ v0_ : Value, e = .returned (.tuple #[.agg #[v0_], .bool r2]) ∧ Kd.R k64 64 w' w.heap.size (fun _ => True) v0_ r1 ∧ Below w.heap.size w w' := by
 unfold impl_RadixOf.f at h
 split at h
 ·
  rename_i hs
  have h1 := Option.some.inj h
  have := Rad.radix_calls A0 c0 l0 w hr0 hs
  rw [h1] at this
  exact this
 ·
  cases h

mutual
def impl_namesOf.l0 : Nat → List ByteArray → List ByteArray → List (S64) → Int → Int → List (S64) → Option (List ByteArray × Bool)
 | 0, _, _, _, _, _, _ => none
 | k + 1, x4, x5, x21, x22, x23, x282000 => if x23 < x22 then (if 0 ≤ x23 then (if x23 < (x21.length : Int) then (if x23 > 0 then ((impl_within.f ((rd_T64 x21 x23).f2) 0 (wrap64 (x23 - 1))).bind fun t297 => (if t297 = true then (if (((rd_T64 x21 x23).f0).size : Int) > 20 then (some (([] : List ByteArray), false)) else (if 0 ≤ ((rd_T64 x21 x23).f2) then (if ((rd_T64 x21 x23).f2) < (x4.length : Int) then (if (rdOf ByteArray.empty x4 ((rd_T64 x21 x23).f2)).size + ((rd_T64 x21 x23).f0).size ≤ 9223372036854775807 then (if x23 < (x4.length : Int) then (impl_namesOf.j1 k (x4.set (x23 : Int).toNat ((rdOf ByteArray.empty x4 ((rd_T64 x21 x23).f2)) ++ ((rd_T64 x21 x23).f0))) x5 x23 x21 x22 x23 x282000 ((rd_T64 x21 x23).f0) ((rd_T64 x21 x23).f1) ((rd_T64 x21 x23).f2)) else (none)) else (none)) else (none)) else (none))) else (some (([] : List ByteArray), false)))) else (impl_namesOf.j1 k x4 x5 x23 x21 x22 x23 x282000 ((rd_T64 x21 x23).f0) ((rd_T64 x21 x23).f1) ((rd_T64 x21 x23).f2))) else (none)) else (none)) else ((impl_RadixOf.f x5).bind fun bt289 => (if bt289.2 = true then ((impl_Edge_79.f k bt289.1 x282000).bind fun t294 => (some (x5, t294))) else (some (x5, false))))
def impl_namesOf.j1 : Nat → List ByteArray → List ByteArray → Int → List (S64) → Int → Int → List (S64) → ByteArray → Bool → Int → Option (List ByteArray × Bool)
 | 0, _, _, _, _, _, _, _, _, _, _ => none
 | k + 1, x4, x5, x6, x21, x22, x23, x282000, x297000, x297001, x297002 => if x297001 = true then (if 0 ≤ x6 then (if x6 < (x4.length : Int) then (if x5.length < 8796093022208 then (if ((rdOf ByteArray.empty x4 x6).size : Int) > 20 then (some (([] : List ByteArray), false)) else (impl_namesOf.l0 k x4 (x5 ++ [rdOf ByteArray.empty x4 x6]) x21 x22 (wrap64 (x23 + 1)) x282000)) else (none)) else (none)) else (none)) else (if 0 ≤ x6 then (if x6 < (x4.length : Int) then (if ((rdOf ByteArray.empty x4 x6).size : Int) > 20 then (some (([] : List ByteArray), false)) else (impl_namesOf.l0 k x4 x5 x21 x22 (wrap64 (x23 + 1)) x282000)) else (none)) else (none))
end
def impl_namesOf.f (k : Nat) (l0_0 : List (S64)) : Option (List ByteArray × Bool) := (impl_within.f (l0_0.length : Int) 1 81).bind fun t282 => (if t282 = true then (if 0 ≤ (l0_0.length : Int) then (if ((l0_0.length : Int) : Int).toNat ≤ 17592186044416 then (impl_namesOf.l0 k (List.replicate ((l0_0.length : Int) : Int).toNat (⟨#[]⟩ : ByteArray)) (([] : List ByteArray)) l0_0 (l0_0.length : Int) 0 l0_0) else (none)) else (none)) else (some (([] : List ByteArray), false)))
def impl_namesOf.T10 : Bool × List (List Nat × List Nat) := (true, [([], []), ([], []), ([], []), ([], []), ([3], [3]), ([2, 4], [2, 4]), ([5], [5]), ([], []), ([7], [7]), ([6, 8], [6, 8]), ([0, 1, 0, 1, 2, 3, 4, 5, 6, 7, 8, 9], [0, 1]), ([10, 9, 0, 1, 2, 3, 4, 5, 6, 7, 8, 9], [9, 10])])
def impl_namesOf.B10 : List Nat := [0, 0, 0, 0, 8, 28, 60, 0, 128, 508, 1023, 2047]
theorem impl_namesOf.tab10 : rtab .any (opsOf Try.f54 10) = impl_namesOf.T10 := by kernel_rfl
theorem impl_namesOf.bits10 : waitsOk impl_namesOf.T10.2 impl_namesOf.B10 = true := by kernel_rfl
set_option maxHeartbeats 8000000 in
set_option maxRecDepth 100000 in
theorem impl_namesOf.calls (k : Nat) (A0_0 : Option Addr) (c0_0 : Nat) (l0_0 : List (S64)) (r1 : List ByteArray) (r2 : Bool) (w : World) (hr0_0 : Kd.C k64 w A0_0 l0_0.length l0_0) (hc0_0 : l0_0.length ≤ c0_0) (h : impl_namesOf.f k l0_0 = some (r1, r2)) :
  Calls Try.prog 54 #[.agg #[.slice A0_0 l0_0.length c0_0]] w fun e w' => ∃ v0_ : Value, e = .returned (.tuple #[v0_, .bool r2]) ∧ Kd.R Kd.string 9 w' w.heap.size (fun _ => True) v0_ r1 ∧ Below w.heap.size w w' := by
 have hu26 := Try.underlying26
 have hu64 := Try.underlying64
 have HR0_0 := aM hr0_0
 have HC0_0 := aM hc0_0
 clear hr0_0 hc0_0
 have HB := aM (Below.refl w.heap.size w)
 have H : ((impl_within.f (l0_0.length : Int) 1 81).bind fun t282 => (if t282 = true then (if 0 ≤ (l0_0.length : Int) then (if ((l0_0.length : Int) : Int).toNat ≤ 17592186044416 then (impl_namesOf.l0 k (List.replicate ((l0_0.length : Int) : Int).toNat (⟨#[]⟩ : ByteArray)) (([] : List ByteArray)) l0_0 (l0_0.length : Int) 0 l0_0) else (none)) else (none)) else (some (([] : List ByteArray), false)))) = some (r1, r2) := h
 clear h
 replace H := Option.bind_eq_some_iff.mp H
 obtain ⟨t282, A20, H⟩ := H
 replace H : (if t282 = true then (if 0 ≤ (l0_0.length : Int) then (if ((l0_0.length : Int) : Int).toNat ≤ 17592186044416 then (impl_namesOf.l0 k (List.replicate ((l0_0.length : Int) : Int).toNat (⟨#[]⟩ : ByteArray)) (([] : List ByteArray)) l0_0 (l0_0.length : Int) 0 l0_0) else (none)) else (none)) else (some (([] : List ByteArray), false))) = some (r1, r2) := H
 have A2 := aM A20
 clear A20
 by_cases c3 : t282 = true
 ·
  subst c3
  have H1 : (if 0 ≤ (l0_0.length : Int) then (if ((l0_0.length : Int) : Int).toNat ≤ 17592186044416 then (impl_namesOf.l0 k (List.replicate ((l0_0.length : Int) : Int).toNat (⟨#[]⟩ : ByteArray)) (([] : List ByteArray)) l0_0 (l0_0.length : Int) 0 l0_0) else (none)) else (none)) = some (r1, r2) := by rw [if_pos rfl] at H; exact H
  clear H
  have H := H1
  clear H1
  by_cases c4 : 0 ≤ (l0_0.length : Int)
  ·
   rw [if_pos c4] at H
   have c4b0 := eq_true c4
   have c4b1 : decide (0 ≤ (l0_0.length : Int)) = true := decide_eq_true c4
   clear c4
   by_cases c5 : ((l0_0.length : Int) : Int).toNat ≤ 17592186044416
   ·
    rw [if_pos c5] at H
    have c5b0 := eq_true c5
    have c5b1 : decide (((l0_0.length : Int) : Int).toNat ≤ 17592186044416) = true := decide_eq_true c5
    clear c5
    obtain ⟨y283, hy283⟩ : ∃ y_ : List ByteArray, y_ = (List.replicate ((l0_0.length : Int) : Int).toNat (⟨#[]⟩ : ByteArray)) := ⟨_, rfl⟩
    replace H : (impl_namesOf.l0 k y283 (([] : List ByteArray)) l0_0 (l0_0.length : Int) 0 l0_0) = some (r1, r2) := by first | (rw [hy283]; with_reducible exact H) | (have H2_ := (Option.bind_some _ _).symm.trans H; rw [hy283]; with_reducible exact H2_) | (have H2_ := (Option.bind_some _ _).symm.trans H; with_reducible exact H2_) | with_reducible exact H | (rw [hy283]; exact H) | exact H
    have Ny283 := aM hy283
    clear hy283
    obtain ⟨y286, hy286⟩ : ∃ y_ : List ByteArray, y_ = (([] : List ByteArray)) := ⟨_, rfl⟩
    replace H : (impl_namesOf.l0 k y283 y286 l0_0 (l0_0.length : Int) 0 l0_0) = some (r1, r2) := by first | (rw [hy286]; with_reducible exact H) | (have H2_ := (Option.bind_some _ _).symm.trans H; rw [hy286]; with_reducible exact H2_) | (have H2_ := (Option.bind_some _ _).symm.trans H; with_reducible exact H2_) | with_reducible exact H | (rw [hy286]; exact H) | exact H
    have Ny286 := aM hy286
    clear hy286
    have H' := aM H
    clear H
    go_enter Try.func54, Try.ntmps54
    go_wp2_with (first | ((with_reducible refine gate_dst (N := 1) rfl ?_); (try (refine gate_guard (by rfl) ?_; dsimp only)); refine box_event ?hg (N := 1) ?hd (cs := #[.slice A0_0 l0_0.length c0_0]) (t := 26) ?hr ?_; (case hd => rfl); (case hg => rfl); (case hr => first | (go_simp; done) | (go_simp; rfl)); intro gb281 hg w6 hbox hb; have n0_ := aM (below_step (by repeat (first | (with_reducible first | exact HB.out | apply below_alloc | apply pw_below_drewN | apply below_drew1) | exact HB.out)) hb); have n1_ := aM (hbox); have n2_ := aM ((by rw [hg]; exact (below_size (by repeat (first | (with_reducible first | exact HB.out | apply below_alloc | apply pw_below_drewN | apply below_drew1) | exact HB.out))) : w.heap.size ≤ gb281)); have n3_ := aM ((by rw [hg]; exact (below_size (by repeat (first | (with_reducible first | exact HB.out | apply below_alloc | apply pw_below_drewN | apply below_drew1) | exact HB.out))) : w.heap.size ≤ gb281)); clear HB; have HB := n0_; have BK281 := n1_; have GW281 := n2_; have GE281 := n3_; clear n0_ n1_ n2_ n3_; clear hb hbox hg; have hcz7_0 : w6.cell? ⟨gb281, 0, none⟩ = some (.slice A0_0 l0_0.length c0_0) := (blk_cell BK281.out 0).trans rfl; have hfz7_0 := blk_frozen BK281.out 0) | ((with_reducible refine gate_callee (f := 78) rfl ?_); refine goesL_ (some 13) rfl rfl Try.func78 (by kernel_rfl) rfl #[.int .i64 (l0_0.length : Int), .int .i64 1, .int .i64 81] rfl (by (try simp only [List.map_toArray, List.map_cons, List.map_nil]); first | done | rfl | (simp only [List.length_drop, List.length_take]; rfl)) ?_; (with_reducible refine (impl_within.calls (l0_0.length : Int) 1 81 true _ A2.out).mono ?_); rintro e w' ⟨rfl, ⟨nd, rfl⟩⟩; refine ⟨_, rfl, ?_⟩) | ((with_reducible refine gate_dst (N := 18) rfl ?_); (try (refine gate_guard (by rfl) ?_; dsimp only)); refine Kd.R_make Kd.string _ 9 rfl (N := 18) rfl 22 _ _ rfl (l0_0.length : Int) rfl rfl Try.underlying22 (.string ⟨#[]⟩) 16 info9 rfl (by decide) (by omega) (⟨#[]⟩ : ByteArray) (ok := fun _ => True) (okp := fun _ => True) rfl (fun _ hk => hk) trivial (of_decide_eq_true (by first | (with_reducible assumption) | assumption)) (Nat.le_trans (Nat.mul_le_mul_right _ (of_decide_eq_true (by first | (with_reducible assumption) | assumption) : (l0_0.length : Int).toNat ≤ 17592186044416)) (by omega)) (Below.refl _ _) (Nat.le_refl _) ?_; intro v284 w8 ho9 hb hg_ hnew_; clear hg_ hnew_; (first | rw [← Ny283.out] at ho9 | (simp only [Int.reduceToNat] at ho9; rw [← Ny283.out] at ho9)); have n0_ := aM (Kd.R_lower ho9 (below_size (by repeat (first | (with_reducible first | exact HB.out | apply below_alloc | apply pw_below_drewN | apply below_drew1 | refine below_set ?_ GE281.out) | exact HB.out)))); have n1_ := aM (blk_below (g := gb281) (o := .cells #[.slice A0_0 l0_0.length c0_0] 26 (0, 0)) (by (with_reducible repeat (first | refine blk_drewN ?_ _ | refine blk_drew ?_ | refine blk_alloc ?_ _)); exact BK281.out) hb); have n2_ := aM (below_step (by repeat (first | (with_reducible first | exact HB.out | apply below_alloc | apply pw_below_drewN | apply below_drew1 | refine below_set ?_ GE281.out) | exact HB.out)) hb); clear BK281; clear HB; have HO285 := n0_; have BK281 := n1_; have HB := n2_; clear n0_ n1_ n2_; clear hb ho9) | ((with_reducible refine gate_dst (N := 19) rfl ?_); (try (refine gate_guard (by rfl) ?_; dsimp only)); refine Kd.R_lit Kd.string _ 9 ?hg (N := 19) ?hd (xs := ([] : List ByteArray)) (inner := []) (ok := fun _ => True) (okp := fun _ => True) ?hr ?hp (fun _ hk => hk) trivial (Below.refl _ _) (Nat.le_refl _) (by simp) ?_; (case hd => rfl); (case hg => rfl); (case hr => first | (go_simp; done) | (go_simp; rfl)); (case hp => exact (Reps.none _ _)); intro v287 w10 ho11 hb hg_ hnew_; clear hg_ hnew_; (first | rw [← Ny286.out] at ho11 | (simp only [Int.reduceToNat] at ho11; rw [← Ny286.out] at ho11)); have n0_ := aM (Kd.R_elder' (by (with_reducible repeat (first | apply Kd.R_alloc | apply Kd.R_drewN | apply Kd.R_drew)); exact HO285.out) (Kd.R_base ho11) hb); have n1_ := aM (Kd.R_lower (Kd.R_new' ho11 (Kd.R_lt (by (with_reducible repeat (first | apply Kd.R_alloc | apply Kd.R_drewN | apply Kd.R_drew)); exact HO285.out))) (below_size (by repeat (first | (with_reducible first | exact HB.out | apply below_alloc | apply pw_below_drewN | apply below_drew1 | refine below_set ?_ GE281.out) | exact HB.out)))); have n2_ := aM (blk_below (g := gb281) (o := .cells #[.slice A0_0 l0_0.length c0_0] 26 (0, 0)) (by (with_reducible repeat (first | refine blk_drewN ?_ _ | refine blk_drew ?_ | refine blk_alloc ?_ _)); exact BK281.out) hb); have n3_ := aM (below_step (by repeat (first | (with_reducible first | exact HB.out | apply below_alloc | apply pw_below_drewN | apply below_drew1 | refine below_set ?_ GE281.out) | exact HB.out)) hb); clear HO285; clear BK281; clear HB; have HO285 := n0_; have HO288 := n1_; have BK281 := n2_; have HB := n3_; clear n0_ n1_ n2_ n3_; clear hb ho11; have hcz12_0 : w10.cell? ⟨gb281, 0, none⟩ = some (.slice A0_0 l0_0.length c0_0) := (blk_cell BK281.out 0).trans rfl; have hfz12_0 := blk_frozen BK281.out 0))
    go_loopg [5, 23] k (fun kq v5 v23 w' => ∃ (x4_1 : List ByteArray) (x5_1 : List ByteArray) (x23_1 : Int), v23 = .int .i64 x23_1 ∧ Aside0 (impl_namesOf.l0 kq x4_1 x5_1 l0_0 (l0_0.length : Int) x23_1 l0_0 = some (r1, r2)) ∧ Aside0 (kq ≤ k) ∧ Aside0 (Kd.R Kd.string 9 w' w.heap.size (fun k_ => some k_ ≠ (v5 : Value).ownBlock) v284 x4_1) ∧ Aside0 (Kd.R Kd.string 9 w' w.heap.size (fun k_ => some k_ ≠ (v284 : Value).ownBlock) v5 x5_1) ∧ Aside0 (w'.heap[gb281]? = some (.cells #[(.slice A0_0 l0_0.length c0_0)] 26 (0, 0))) ∧ Aside0 (Below w.heap.size w w'))
    case atStart => exact ⟨(y283), (y286), (0), (by first | rfl | (simp; done) | (simp [*]; done)), H', ⟨Nat.le_refl _⟩, ⟨by (with_reducible repeat (first | apply Kd.R_alloc | apply Kd.R_drewN | apply Kd.R_drew)); exact Kd.R_mono HO285.out (fun _ hk => hk.2)⟩, ⟨by (with_reducible repeat (first | apply Kd.R_alloc | apply Kd.R_drewN | apply Kd.R_drew)); exact Kd.R_mono HO288.out (fun _ hk => hk.2)⟩, ⟨by (with_reducible repeat (first | refine blk_drewN ?_ _ | refine blk_drew ?_ | refine blk_alloc ?_ _)); exact BK281.out⟩, ⟨by repeat (first | (with_reducible first | exact HB.out | apply below_alloc | apply pw_below_drewN | apply below_drew1 | refine below_set ?_ GE281.out) | exact HB.out)⟩⟩
    case round =>
     clear H'
     try clear p2
     try clear c3
     try clear c4
     try clear c4b0
     try clear c4b1
     try clear c5
     try clear c5b0
     try clear c5b1
     try clear c7
     try clear hcz12_0
     try clear hcz7_0
     try clear hfz12_0
     try clear hfz7_0
     obtain ⟨x4_1, x5_1, x23_1, rfl, HA, HK1, HO_4, HO_5, BK281, HB⟩ := hrel
     cases gk with
     | zero => exact absurd HA.out (by simp [impl_namesOf.l0])
     | succ k1 =>
      have H := HA.out
      clear HA
      simp only [impl_namesOf.l0] at H
      by_cases c13 : x23_1 < (l0_0.length : Int)
      ·
       rw [if_pos c13] at H
       have c13b0 : decide (x23_1 < (l0_0.length : Int)) = true := decide_eq_true c13
       clear c13
       by_cases c14 : 0 ≤ x23_1
       ·
        rw [if_pos c14] at H
        have c14b0 : decide (0 ≤ x23_1) = true := decide_eq_true c14
        clear c14
        by_cases c15 : x23_1 < (l0_0.length : Int)
        ·
         rw [if_pos c15] at H
         have c15b0 : decide (x23_1 < (l0_0.length : Int)) = true := decide_eq_true c15
         clear c15
         have HC16 := aM H
         clear H
         have p295 : 0 ≤ (x23_1 : Int) := of_decide_eq_true (by first | (with_reducible assumption) | assumption)
         have q295 : x23_1 < (l0_0.length : Int) := of_decide_eq_true (by first | (with_reducible assumption) | assumption)
         obtain ⟨ad295, e295, hx295_0, hx295_1, hx295_2⟩ := at_T64 HR0_0.out x23_1 p295 q295
         cases e295
         try have hz_hx295_0 := aM hx295_0
         try have hz_hx295_1 := aM hx295_1
         try have hz_hx295_2 := aM hx295_2
         replace hx295_0 := (HB.out.cell (World.block_lt_of_cell? w _ hx295_0)).trans hx295_0
         replace hx295_1 := (HB.out.cell (World.block_lt_of_cell? w _ hx295_1)).trans hx295_1
         replace hx295_2 := (HB.out.cell (World.block_lt_of_cell? w _ hx295_2)).trans hx295_2
         replace p295 := eq_true p295
         replace q295 := eq_true q295
         go_upto_if 29 with (first | ((with_reducible refine gate_dst (N := 7) rfl ?_); (try (refine gate_guard (by rfl) ?_; dsimp only)); refine box_event ?hg (N := 7) ?hd (cs := #[.string (⟨#[]⟩ : ByteArray), .bool false, .int .i64 0]) (t := 64) ?hr ?_; (case hd => rfl); (case hg => rfl); (case hr => first | (go_simp; done) | (go_simp; rfl)); intro gb296 hg w17 hbox hb; have n0_ := aM (Kd.R_below (by (with_reducible repeat (first | apply Kd.R_alloc | apply Kd.R_drewN | apply Kd.R_drew)); exact HO_4.out) hb); have n1_ := aM (Kd.R_below (by (with_reducible repeat (first | apply Kd.R_alloc | apply Kd.R_drewN | apply Kd.R_drew)); exact HO_5.out) hb); have n2_ := aM (blk_below (g := gb281) (o := .cells #[.slice (some ad295) l0_0.length c0_0] 26 (0, 0)) (by (with_reducible repeat (first | refine blk_drewN ?_ _ | refine blk_drew ?_ | refine blk_alloc ?_ _)); exact BK281.out) hb); have n3_ := aM (below_step (by repeat (first | (with_reducible first | exact HB.out | apply below_alloc | apply pw_below_drewN | apply below_drew1 | refine below_set ?_ GE281.out) | exact HB.out)) hb); have n4_ := aM (hbox); have n5_ := aM ((by rw [hg]; exact (below_size (by repeat (first | (with_reducible first | exact HB.out | apply below_alloc | apply pw_below_drewN | apply below_drew1 | refine below_set ?_ GE281.out) | exact HB.out))) : w.heap.size ≤ gb296)); have n6_ := aM ((by rw [hg]; exact (below_size (by repeat (first | (with_reducible first | exact HB.out | apply below_alloc | apply pw_below_drewN | apply below_drew1 | refine below_set ?_ GE281.out) | exact HB.out))) : w.heap.size ≤ gb296)); have n7_ := aM ((by rw [hg]; exact Nat.ne_of_lt (blk_lt (g := gb281) (o := .cells #[.slice (some ad295) l0_0.length c0_0] 26 (0, 0)) (by (with_reducible repeat (first | refine blk_drewN ?_ _ | refine blk_drew ?_ | refine blk_alloc ?_ _)); exact BK281.out)) : gb281 ≠ gb296)); have n8_ := aM ((by rw [hg]; exact Nat.ne_of_gt (blk_lt (g := gb281) (o := .cells #[.slice (some ad295) l0_0.length c0_0] 26 (0, 0)) (by (with_reducible repeat (first | refine blk_drewN ?_ _ | refine blk_drew ?_ | refine blk_alloc ?_ _)); exact BK281.out)) : gb296 ≠ gb281)); clear HO_4; clear HO_5; clear BK281; clear HB; have HO_4 := n0_; have HO_5 := n1_; have BK281 := n2_; have HB := n3_; have BK296 := n4_; have GW296 := n5_; have GE296 := n6_; have NB281_296 := n7_; have NB296_281 := n8_; clear n0_ n1_ n2_ n3_ n4_ n5_ n6_ n7_ n8_; clear hb hbox hg; have hnb18 := NB296_281.out; have hnc18 := NB281_296.out; have hcz19_0 : w17.cell? ⟨gb296, 0, none⟩ = some (.string (⟨#[]⟩ : ByteArray)) := (blk_cell BK296.out 0).trans rfl; have hcz19_1 : w17.cell? ⟨gb296, 1, none⟩ = some (.bool false) := (blk_cell BK296.out 1).trans rfl; have hcz19_2 : w17.cell? ⟨gb296, 2, none⟩ = some (.int .i64 0) := (blk_cell BK296.out 2).trans rfl; have hfz19_0 := blk_frozen BK296.out 0; have hfz19_1 := blk_frozen BK296.out 1; have hfz19_2 := blk_frozen BK296.out 2))
         (try simp only [Act.put, zSA, zSB, zSC])
         go_cut [] (fun wc => ∃ (kq : Nat) (x4_15 : List ByteArray), Aside0 (impl_namesOf.j1 kq x4_15 x5_1 x23_1 l0_0 (l0_0.length : Int) x23_1 l0_0 ((rd_T64 l0_0 x23_1).f0) ((rd_T64 l0_0 x23_1).f1) ((rd_T64 l0_0 x23_1).f2) = some (r1, r2)) ∧ Aside0 (kq ≤ k1) ∧ Aside0 (Kd.R Kd.string 9 wc w.heap.size (fun k_ => some k_ ≠ (u5 : Value).ownBlock) v284 x4_15) ∧ Aside0 (Kd.R Kd.string 9 wc w.heap.size (fun k_ => some k_ ≠ (v284 : Value).ownBlock) u5 x5_1) ∧ Aside0 (wc.heap[gb281]? = some (.cells #[(.slice (some ad295) l0_0.length c0_0)] 26 (0, 0))) ∧ Aside0 (wc.heap[gb296]? = some (.cells #[.string ((rd_T64 l0_0 x23_1).f0), .bool ((rd_T64 l0_0 x23_1).f1), .int .i64 ((rd_T64 l0_0 x23_1).f2)] 64 (0, 0))) ∧ Aside0 (Below w.heap.size w wc))
         case first =>
          have H := HC16.out
          clear HC16
          by_cases c20 : x23_1 > 0
          ·
           rw [if_pos c20] at H
           have c20b0 : decide (0 < x23_1) = true := decide_eq_true c20
           clear c20
           (first | rw [c20b0] | (simp only [i64_w, i32_w]; rw [c20b0]) | skip)
           replace H := Option.bind_eq_some_iff.mp H
           obtain ⟨t297, A210, H⟩ := H
           replace H : (if t297 = true then (if (((rd_T64 l0_0 x23_1).f0).size : Int) > 20 then (some (([] : List ByteArray), false)) else (if 0 ≤ ((rd_T64 l0_0 x23_1).f2) then (if ((rd_T64 l0_0 x23_1).f2) < (x4_1.length : Int) then (if (rdOf ByteArray.empty x4_1 ((rd_T64 l0_0 x23_1).f2)).size + ((rd_T64 l0_0 x23_1).f0).size ≤ 9223372036854775807 then (if x23_1 < (x4_1.length : Int) then (impl_namesOf.j1 k1 (x4_1.set (x23_1 : Int).toNat ((rdOf ByteArray.empty x4_1 ((rd_T64 l0_0 x23_1).f2)) ++ ((rd_T64 l0_0 x23_1).f0))) x5_1 x23_1 l0_0 (l0_0.length : Int) x23_1 l0_0 ((rd_T64 l0_0 x23_1).f0) ((rd_T64 l0_0 x23_1).f1) ((rd_T64 l0_0 x23_1).f2)) else (none)) else (none)) else (none)) else (none))) else (some (([] : List ByteArray), false))) = some (r1, r2) := H
           have A21 := aM A210
           clear A210
           by_cases c22 : t297 = true
           ·
            subst c22
            have H1 : (if (((rd_T64 l0_0 x23_1).f0).size : Int) > 20 then (some (([] : List ByteArray), false)) else (if 0 ≤ ((rd_T64 l0_0 x23_1).f2) then (if ((rd_T64 l0_0 x23_1).f2) < (x4_1.length : Int) then (if (rdOf ByteArray.empty x4_1 ((rd_T64 l0_0 x23_1).f2)).size + ((rd_T64 l0_0 x23_1).f0).size ≤ 9223372036854775807 then (if x23_1 < (x4_1.length : Int) then (impl_namesOf.j1 k1 (x4_1.set (x23_1 : Int).toNat ((rdOf ByteArray.empty x4_1 ((rd_T64 l0_0 x23_1).f2)) ++ ((rd_T64 l0_0 x23_1).f0))) x5_1 x23_1 l0_0 (l0_0.length : Int) x23_1 l0_0 ((rd_T64 l0_0 x23_1).f0) ((rd_T64 l0_0 x23_1).f1) ((rd_T64 l0_0 x23_1).f2)) else (none)) else (none)) else (none)) else (none))) = some (r1, r2) := by rw [if_pos rfl] at H; exact H
            clear H
            have H := H1
            clear H1
            by_cases c23 : (((rd_T64 l0_0 x23_1).f0).size : Int) > 20
            ·
             rw [if_pos c23] at H
             have c23b0 : decide (20 < (((rd_T64 l0_0 x23_1).f0).size : Int)) = true := decide_eq_true c23
             have c23b1 : decide (20 < ((rd_T64 l0_0 x23_1).f0).size) = true := decide_eq_true (by omega)
             clear c23
             simp only [Option.some.injEq, Prod.mk.injEq] at H
             obtain ⟨rfl, rfl⟩ := H
             have hnb24 := NB296_281.out
             have hnc24 := NB281_296.out
             have hcz25_0 : w17.cell? ⟨gb296, 0, none⟩ = some (.string (⟨#[]⟩ : ByteArray)) := (blk_cell BK296.out 0).trans rfl
             have hcz25_1 : w17.cell? ⟨gb296, 1, none⟩ = some (.bool false) := (blk_cell BK296.out 1).trans rfl
             have hcz25_2 : w17.cell? ⟨gb296, 2, none⟩ = some (.int .i64 0) := (blk_cell BK296.out 2).trans rfl
             have hfz25_0 := blk_frozen BK296.out 0
             have hfz25_1 := blk_frozen BK296.out 1
             have hfz25_2 := blk_frozen BK296.out 2
             go_wp2_with (first | ((with_reducible refine gate_callee (f := 78) rfl ?_); refine goesL_ (some 34) rfl rfl Try.func78 (by kernel_rfl) rfl #[.int .i64 ((rd_T64 l0_0 x23_1).f2), .int .i64 0, .int .i64 (wrap64 (x23_1 - 1))] rfl (by (try simp only [List.map_toArray, List.map_cons, List.map_nil]); first | done | rfl | (simp only [List.length_drop, List.length_take]; rfl)) ?_; (with_reducible refine (impl_within.calls ((rd_T64 l0_0 x23_1).f2) 0 (wrap64 (x23_1 - 1)) true _ A21.out).mono ?_); rintro e w' ⟨rfl, ⟨nd, rfl⟩⟩; refine ⟨_, rfl, ?_⟩))
             go_ret2
             exact ⟨_, by first | rfl | (simp [errW_none, errW_some] <;> rfl) | (simp [*, errW_none, errW_some] <;> rfl), by first | exact Kd.R_nil _ _ _ _ _ | exact Kd.N_nil _ _ _ _ _ | exact Kd.V_nil _ _ _ _ _ | exact Kd.Q_nil _ _ _ _ _ | exact Kd.S_nil _ _ _ _ _, by repeat (first | (with_reducible first | exact HB.out | apply below_alloc | apply pw_below_drewN | apply below_drew1 | refine below_set ?_ GE281.out | refine below_set ?_ GE296.out) | exact HB.out)⟩
            ·
             rw [if_neg c23] at H
             have c23b0 : decide (20 < (((rd_T64 l0_0 x23_1).f0).size : Int)) = false := decide_eq_false c23
             have c23b1 : decide (20 < ((rd_T64 l0_0 x23_1).f0).size) = false := decide_eq_false (by omega)
             clear c23
             by_cases c26 : 0 ≤ ((rd_T64 l0_0 x23_1).f2)
             ·
              rw [if_pos c26] at H
              have c26b0 : decide (0 ≤ ((rd_T64 l0_0 x23_1).f2)) = true := decide_eq_true c26
              clear c26
              by_cases c27 : ((rd_T64 l0_0 x23_1).f2) < (x4_1.length : Int)
              ·
               rw [if_pos c27] at H
               have c27b0 : decide (((rd_T64 l0_0 x23_1).f2) < (x4_1.length : Int)) = true := decide_eq_true c27
               clear c27
               by_cases c28 : (rdOf ByteArray.empty x4_1 ((rd_T64 l0_0 x23_1).f2)).size + ((rd_T64 l0_0 x23_1).f0).size ≤ 9223372036854775807
               ·
                rw [if_pos c28] at H
                have c28b0 := eq_true c28
                have c28b1 : decide ((rdOf ByteArray.empty x4_1 ((rd_T64 l0_0 x23_1).f2)).size + ((rd_T64 l0_0 x23_1).f0).size ≤ 9223372036854775807) = true := decide_eq_true c28
                try have c28b2 : (9223372036854775807 < (rdOf ByteArray.empty x4_1 ((rd_T64 l0_0 x23_1).f2)).size + ((rd_T64 l0_0 x23_1).f0).size) = False := eq_false (Nat.not_lt.2 c28)
                try have c28b3 := c28b2
                try simp only [ByteArray.size_append] at c28b3
                by_cases c29 : x23_1 < (x4_1.length : Int)
                ·
                 rw [if_pos c29] at H
                 have c29b0 : decide (x23_1 < (x4_1.length : Int)) = true := decide_eq_true c29
                 clear c29
                 obtain ⟨y299, hy299⟩ : ∃ y_ : List ByteArray, y_ = (x4_1.set (x23_1 : Int).toNat ((rdOf ByteArray.empty x4_1 ((rd_T64 l0_0 x23_1).f2)) ++ ((rd_T64 l0_0 x23_1).f0))) := ⟨_, rfl⟩
                 replace H : (impl_namesOf.j1 k1 y299 x5_1 x23_1 l0_0 (l0_0.length : Int) x23_1 l0_0 ((rd_T64 l0_0 x23_1).f0) ((rd_T64 l0_0 x23_1).f1) ((rd_T64 l0_0 x23_1).f2)) = some (r1, r2) := by first | (rw [hy299]; with_reducible exact H) | (have H2_ := (Option.bind_some _ _).symm.trans H; rw [hy299]; with_reducible exact H2_) | (have H2_ := (Option.bind_some _ _).symm.trans H; with_reducible exact H2_) | with_reducible exact H | (rw [hy299]; exact H) | exact H
                 have Ny299 := aM hy299
                 clear hy299
                 have H' := aM H
                 clear H
                 have hnb31 := NB296_281.out
                 have hnc31 := NB281_296.out
                 have hcz32_0 : w17.cell? ⟨gb296, 0, none⟩ = some (.string (⟨#[]⟩ : ByteArray)) := (blk_cell BK296.out 0).trans rfl
                 have hcz32_1 : w17.cell? ⟨gb296, 1, none⟩ = some (.bool false) := (blk_cell BK296.out 1).trans rfl
                 have hcz32_2 : w17.cell? ⟨gb296, 2, none⟩ = some (.int .i64 0) := (blk_cell BK296.out 2).trans rfl
                 have hfz32_0 := blk_frozen BK296.out 0
                 have hfz32_1 := blk_frozen BK296.out 1
                 have hfz32_2 := blk_frozen BK296.out 2
                 try go_wp2_with (first | ((with_reducible refine gate_callee (f := 78) rfl ?_); refine goesL_ (some 34) rfl rfl Try.func78 (by kernel_rfl) rfl #[.int .i64 ((rd_T64 l0_0 x23_1).f2), .int .i64 0, .int .i64 (wrap64 (x23_1 - 1))] rfl (by (try simp only [List.map_toArray, List.map_cons, List.map_nil]); first | done | rfl | (simp only [List.length_drop, List.length_take]; rfl)) ?_; (with_reducible refine (impl_within.calls ((rd_T64 l0_0 x23_1).f2) 0 (wrap64 (x23_1 - 1)) true _ A21.out).mono ?_); rintro e w' ⟨rfl, ⟨nd, rfl⟩⟩; refine ⟨_, rfl, ?_⟩))
                 have n0_ : Aside0 (Kd.R Kd.string 9 (((w17.setCell ⟨gb296, 0, none⟩ (.string ((rd_T64 l0_0 x23_1).f0))).setCell ⟨gb296, 1, none⟩ (.bool ((rd_T64 l0_0 x23_1).f1))).setCell ⟨gb296, 2, none⟩ (.int .i64 ((rd_T64 l0_0 x23_1).f2))) w.heap.size (fun k_ => some k_ ≠ (u5 : Value).ownBlock) v284 x4_1) := ⟨by (with_reducible repeat (first | apply Kd.R_alloc | apply Kd.R_drewN | apply Kd.R_drew)); exact Kd.R_mono (Kd.R_far (p := ⟨gb296, 2, none⟩) (Kd.R_far (p := ⟨gb296, 1, none⟩) (Kd.R_far (p := ⟨gb296, 0, none⟩) (Kd.R_types HO_4.out BK296.out (by decide)) (fun _ hk => hk.2) (.string ((rd_T64 l0_0 x23_1).f0))) (fun _ hk => hk.2) (.bool ((rd_T64 l0_0 x23_1).f1))) (fun _ hk => hk.2) (.int .i64 ((rd_T64 l0_0 x23_1).f2))) (fun _ hk => hk.1)⟩
                 have n1_ : Aside0 (Kd.R Kd.string 9 (((w17.setCell ⟨gb296, 0, none⟩ (.string ((rd_T64 l0_0 x23_1).f0))).setCell ⟨gb296, 1, none⟩ (.bool ((rd_T64 l0_0 x23_1).f1))).setCell ⟨gb296, 2, none⟩ (.int .i64 ((rd_T64 l0_0 x23_1).f2))) w.heap.size (fun k_ => some k_ ≠ (v284 : Value).ownBlock) u5 x5_1) := ⟨by (with_reducible repeat (first | apply Kd.R_alloc | apply Kd.R_drewN | apply Kd.R_drew)); exact Kd.R_mono (Kd.R_far (p := ⟨gb296, 2, none⟩) (Kd.R_far (p := ⟨gb296, 1, none⟩) (Kd.R_far (p := ⟨gb296, 0, none⟩) (Kd.R_types HO_5.out BK296.out (by decide)) (fun _ hk => hk.2) (.string ((rd_T64 l0_0 x23_1).f0))) (fun _ hk => hk.2) (.bool ((rd_T64 l0_0 x23_1).f1))) (fun _ hk => hk.2) (.int .i64 ((rd_T64 l0_0 x23_1).f2))) (fun _ hk => hk.1)⟩
                 have n2_ : Aside0 ((((w17.setCell ⟨gb296, 0, none⟩ (.string ((rd_T64 l0_0 x23_1).f0))).setCell ⟨gb296, 1, none⟩ (.bool ((rd_T64 l0_0 x23_1).f1))).setCell ⟨gb296, 2, none⟩ (.int .i64 ((rd_T64 l0_0 x23_1).f2))).heap[gb281]? = some (.cells #[.slice (some ad295) l0_0.length c0_0] 26 (0, 0))) := ⟨by (with_reducible repeat (first | refine blk_drewN ?_ _ | refine blk_drew ?_ | refine blk_alloc ?_ _)); refine blk_far ?_ NB281_296.out _; (with_reducible repeat (first | refine blk_drewN ?_ _ | refine blk_drew ?_ | refine blk_alloc ?_ _)); refine blk_far ?_ NB281_296.out _; (with_reducible repeat (first | refine blk_drewN ?_ _ | refine blk_drew ?_ | refine blk_alloc ?_ _)); refine blk_far ?_ NB281_296.out _; (with_reducible repeat (first | refine blk_drewN ?_ _ | refine blk_drew ?_ | refine blk_alloc ?_ _)); exact BK281.out⟩
                 have n3_ : Aside0 ((((w17.setCell ⟨gb296, 0, none⟩ (.string ((rd_T64 l0_0 x23_1).f0))).setCell ⟨gb296, 1, none⟩ (.bool ((rd_T64 l0_0 x23_1).f1))).setCell ⟨gb296, 2, none⟩ (.int .i64 ((rd_T64 l0_0 x23_1).f2))).heap[gb296]? = some (.cells #[.string ((rd_T64 l0_0 x23_1).f0), .bool ((rd_T64 l0_0 x23_1).f1), .int .i64 ((rd_T64 l0_0 x23_1).f2)] 64 (0, 0))) := ⟨by (with_reducible repeat (first | refine blk_drewN ?_ _ | refine blk_drew ?_ | refine blk_alloc ?_ _)); refine blk_put (cs := #[.string ((rd_T64 l0_0 x23_1).f0), .bool ((rd_T64 l0_0 x23_1).f1), .int .i64 0]) ?_ 2 _ rfl; (with_reducible repeat (first | refine blk_drewN ?_ _ | refine blk_drew ?_ | refine blk_alloc ?_ _)); refine blk_put (cs := #[.string ((rd_T64 l0_0 x23_1).f0), .bool false, .int .i64 0]) ?_ 1 _ rfl; (with_reducible repeat (first | refine blk_drewN ?_ _ | refine blk_drew ?_ | refine blk_alloc ?_ _)); refine blk_put (cs := #[.string (⟨#[]⟩ : ByteArray), .bool false, .int .i64 0]) ?_ 0 _ rfl; (with_reducible repeat (first | refine blk_drewN ?_ _ | refine blk_drew ?_ | refine blk_alloc ?_ _)); exact BK296.out⟩
                 have n4_ : Aside0 (Below w.heap.size w (((w17.setCell ⟨gb296, 0, none⟩ (.string ((rd_T64 l0_0 x23_1).f0))).setCell ⟨gb296, 1, none⟩ (.bool ((rd_T64 l0_0 x23_1).f1))).setCell ⟨gb296, 2, none⟩ (.int .i64 ((rd_T64 l0_0 x23_1).f2)))) := ⟨by repeat (first | (with_reducible first | exact HB.out | apply below_alloc | apply pw_below_drewN | apply below_drew1 | refine below_set ?_ GE281.out | refine below_set ?_ GE296.out) | exact HB.out)⟩
                 (try clear HO_4)
                 (try clear HO_5)
                 (try clear BK281)
                 (try clear BK296)
                 (try clear HB)
                 generalize (((w17.setCell ⟨gb296, 0, none⟩ (.string ((rd_T64 l0_0 x23_1).f0))).setCell ⟨gb296, 1, none⟩ (.bool ((rd_T64 l0_0 x23_1).f1))).setCell ⟨gb296, 2, none⟩ (.int .i64 ((rd_T64 l0_0 x23_1).f2))) = w33 at n0_ n1_ n2_ n3_ n4_ ⊢
                 have HO_4 := n0_
                 have HO_5 := n1_
                 have BK281 := n2_
                 have BK296 := n3_
                 have HB := n4_
                 clear n0_ n1_ n2_ n3_ n4_
                 (try (rw [drewN_self w33]; generalize hq_ : World.drewN w33 _ = w33; have n0_ : Aside0 (Kd.R Kd.string 9 w33 w.heap.size (fun k_ => some k_ ≠ (u5 : Value).ownBlock) v284 x4_1) := ⟨by rw [← hq_]; exact (by (with_reducible repeat (first | apply Kd.R_alloc | apply Kd.R_drewN | apply Kd.R_drew)); exact HO_4.out)⟩; have n1_ : Aside0 (Kd.R Kd.string 9 w33 w.heap.size (fun k_ => some k_ ≠ (v284 : Value).ownBlock) u5 x5_1) := ⟨by rw [← hq_]; exact (by (with_reducible repeat (first | apply Kd.R_alloc | apply Kd.R_drewN | apply Kd.R_drew)); exact HO_5.out)⟩; have n2_ : Aside0 (w33.heap[gb281]? = some (.cells #[.slice (some ad295) l0_0.length c0_0] 26 (0, 0))) := ⟨by rw [← hq_]; exact (by (with_reducible repeat (first | refine blk_drewN ?_ _ | refine blk_drew ?_ | refine blk_alloc ?_ _)); exact BK281.out)⟩; have n3_ : Aside0 (w33.heap[gb296]? = some (.cells #[.string ((rd_T64 l0_0 x23_1).f0), .bool ((rd_T64 l0_0 x23_1).f1), .int .i64 ((rd_T64 l0_0 x23_1).f2)] 64 (0, 0))) := ⟨by rw [← hq_]; exact (by (with_reducible repeat (first | refine blk_drewN ?_ _ | refine blk_drew ?_ | refine blk_alloc ?_ _)); exact BK296.out)⟩; have n4_ : Aside0 (Below w.heap.size w w33) := ⟨by rw [← hq_]; exact (by repeat (first | (with_reducible first | exact HB.out | apply below_alloc | apply pw_below_drewN | apply below_drew1 | refine below_set ?_ GE281.out | refine below_set ?_ GE296.out) | exact HB.out))⟩; clear HO_4 HO_5 BK281 BK296 HB hq_; have HO_4 := n0_; have HO_5 := n1_; have BK281 := n2_; have BK296 := n3_; have HB := n4_; clear n0_ n1_ n2_ n3_ n4_))
                 have n0_ := aM (Kd.R_drew HO_4.out)
                 have n1_ := aM (Kd.R_drew HO_5.out)
                 have n2_ := aM (blk_drew BK281.out)
                 have n3_ := aM (blk_drew BK296.out)
                 have n4_ := aM (below_drew1 HB.out)
                 clear HO_4
                 clear HO_5
                 clear BK281
                 clear BK296
                 clear HB
                 have HO_4 := n0_
                 have HO_5 := n1_
                 have BK281 := n2_
                 have BK296 := n3_
                 have HB := n4_
                 clear n0_ n1_ n2_ n3_ n4_
                 obtain ⟨Ao35, co35, eo35⟩ := Kd.R_slice HO_4.out
                 (first | subst eo35 | (injection eo35 with f1_ f2_ f3_; have f4_ := f1_.symm; have f5_ := f3_.symm; clear f1_ f2_ f3_; subst f4_; subst f5_))
                 have p298 : 0 ≤ (((rd_T64 l0_0 x23_1).f2) : Int) := of_decide_eq_true (by first | (with_reducible assumption) | assumption)
                 have q298 : ((rd_T64 l0_0 x23_1).f2) < (x4_1.length : Int) := of_decide_eq_true (by first | (with_reducible assumption) | assumption)
                 obtain ⟨ad298, e298, hx298_0⟩ := Kd.at_string (Kd.R_reads' HO_4.out).2.2 ((rd_T64 l0_0 x23_1).f2) p298 q298
                 cases e298
                 replace p298 := eq_true p298
                 replace q298 := eq_true q298
                 have p30 : 0 ≤ (x23_1 : Int) := of_decide_eq_true (by first | (with_reducible assumption) | assumption)
                 have q30 : (x23_1 : Int) < ((x4_1.length : Int) : Int) := of_decide_eq_true (by first | (with_reducible assumption) | assumption)
                 obtain ⟨go30, co30, eo30, gb30, gl30, cl30, HG30⟩ := Kd.R_form HO_4.out (by omega)
                 (first | cases eo30 | (injection eo30 with ea_ en_ ec_; (first | subst ea_ | (injection ea_ with ea_; subst ea_)); subst ec_; clear en_))
                 have GB30 := aM gb30
                 have GG30 := aM HG30
                 clear gb30 gl30 HG30
                 (first | simp only [add_plain] at hx298_0 | skip)
                 obtain ⟨hx30_0, hf30_0⟩ := Kd.R_celln (⟨#[]⟩ : ByteArray) HO_4.out (x23_1 : Int) p30 q30
                 replace p30 := eq_true p30
                 replace q30 := eq_true q30
                 have HP36 := Kd.R_putn HO_4.out (x23_1 : Int) ((rdOf ByteArray.empty x4_1 ((rd_T64 l0_0 x23_1).f2)) ++ ((rd_T64 l0_0 x23_1).f0))
                 rw [← Ny299.out] at HP36
                 have HQ36 := aM HP36
                 clear HP36
                 refine start_ (n := 12) (S := fun w' => w'.cell? ⟨gb296, 0, none⟩ = some (.string ((rd_T64 l0_0 x23_1).f0)) ∧ w'.cell? ⟨gb296, 1, none⟩ = some (.bool ((rd_T64 l0_0 x23_1).f1)) ∧ w'.cell? ⟨gb296, 2, none⟩ = some (.int .i64 ((rd_T64 l0_0 x23_1).f2)) ∧ w'.cell? ⟨go30, (((rd_T64 l0_0 x23_1).f2)).toNat, none⟩ = some (.string (rdOf ByteArray.empty x4_1 ((rd_T64 l0_0 x23_1).f2)))) (ds := [11]) (bq 12 0) (by kernel_rfl) rfl (by kernel_rfl) ⟨(blk_cell BK296.out 0).trans rfl, (blk_cell BK296.out 1).trans rfl, (blk_cell BK296.out 2).trans rfl, hx298_0⟩ (fun hHeld => ?_); refine with_tabW impl_namesOf.tab10 impl_namesOf.bits10 (fun HT_ HW_ => ?_)
                 generalize w33.drew = w34 at HO_4 HO_5 BK281 BK296 HB GG30 HQ36 hf30_0 hx298_0 hx30_0 hHeld ⊢
                 refine pure_ (i := 0) (N := some 42) (v := ?_) (a' := ?_) (bq 12 1) rfl rfl (any_of HT_.out (by kernel_rfl)) (fun _ _ _ h => h) (Or.inl ⟨by rfl, ?_⟩) ?_ ?_; rotate_left; (intro w'; go_simp; (with_reducible rfl)); rotate_left; (simp only [Act.put, zSA, zSB, zSC, i64_w, i32_w]; rfl)
                 refine pure_ (i := 1) (N := some 43) (v := ?_) (a' := ?_) (bq 12 3) rfl rfl (any_of HT_.out (by kernel_rfl)) (fun _ _ _ h => h) (Or.inl ⟨by rfl, ?_⟩) ?_ ?_; rotate_left; (intro w'; go_simp; (with_reducible rfl)); rotate_left; (simp only [Act.put, zSA, zSB, zSC, i64_w, i32_w]; rfl)
                 refine pure_ (i := 2) (N := some 44) (v := ?_) (a' := ?_) (bq 12 7) rfl rfl (any_of HT_.out (by kernel_rfl)) (fun _ _ _ h => h) (Or.inl ⟨by rfl, ?_⟩) ?_ ?_; rotate_left; (intro w'; go_simp; (with_reducible rfl)); rotate_left; (simp only [Act.put, zSA, zSB, zSC, i64_w, i32_w]; rfl)
                 refine pure_ (i := 3) (N := some 45) (v := ?_) (a' := ?_) (bq 12 15) rfl rfl (any_of HT_.out (by kernel_rfl)) (fun _ _ _ h => h) (Or.inl ⟨by rfl, ?_⟩) ?_ ?_; rotate_left; (intro w'; go_simp; (with_reducible rfl)); rotate_left; (simp only [Act.put, zSA, zSB, zSC, i64_w, i32_w]; rfl)
                 refine pure_ (i := 7) (N := some 49) (v := ?_) (a' := ?_) (bq 12 143) rfl rfl (any_of HT_.out (by kernel_rfl)) (fun _ _ _ h => h) (Or.inl ⟨by rfl, ?_⟩) ?_ ?_; rotate_left; (intro w'; go_simp; (with_reducible rfl)); rotate_left; (simp only [Act.put, zSA, zSB, zSC, i64_w, i32_w]; rfl)
                 refine take_ (i := 4) (N := some 46) (v := ?_) (a' := ?_) (bq 12 159) rfl rfl (take_ofW HT_.out HW_.out (by kernel_rfl)) (fun _ _ _ h => h) (Or.inl ⟨by rfl, ?_⟩) hHeld ?_ ?_; rotate_left; (rintro w' ⟨s0, s1, s2, s3⟩; go_simp; (with_reducible rfl)); rotate_left; (simp only [Act.put, zSA, zSB, zSC, i64_w, i32_w]; rfl)
                 refine pure_ (i := 5) (N := some 47) (v := ?_) (a' := ?_) (bq 12 191) rfl rfl (any_of HT_.out (by kernel_rfl)) (fun _ _ _ h => h) (Or.inl ⟨by rfl, ?_⟩) ?_ ?_; rotate_left; (intro w'; go_simp; (with_reducible rfl)); rotate_left; (simp only [Act.put, zSA, zSB, zSC, i64_w, i32_w]; rfl)
                 refine take_ (i := 6) (N := some 48) (v := ?_) (a' := ?_) (bq 12 255) rfl rfl (take_ofW HT_.out HW_.out (by kernel_rfl)) (fun _ _ _ h => h) (Or.inl ⟨by rfl, ?_⟩) hHeld ?_ ?_; rotate_left; (rintro w' ⟨s0, s1, s2, s3⟩; go_simp; (with_reducible rfl)); rotate_left; (simp only [Act.put, zSA, zSB, zSC, i64_w, i32_w]; rfl)
                 refine take_ (i := 8) (N := some 50) (v := ?_) (a' := ?_) (bq 12 511) rfl rfl (take_ofW HT_.out HW_.out (by kernel_rfl)) (fun _ _ _ h => h) (Or.inl ⟨by rfl, ?_⟩) hHeld ?_ ?_; rotate_left; (rintro w' ⟨s0, s1, s2, s3⟩; go_simp; (with_reducible rfl)); rotate_left; (simp only [Act.put, zSA, zSB, zSC, i64_w, i32_w]; rfl)
                 refine pure_ (i := 9) (N := some 51) (v := ?_) (a' := ?_) (bq 12 1023) rfl rfl (any_of HT_.out (by kernel_rfl)) (fun _ _ _ h => h) (Or.inl ⟨by rfl, ?_⟩) ?_ ?_; rotate_left; (intro w'; go_simp; (with_reducible rfl)); rotate_left; (simp only [Act.put, zSA, zSB, zSC, i64_w, i32_w]; rfl)
                 refine pure_ (i := 10) (N := some 52) (v := ?_) (a' := ?_) (bq 12 2047) rfl rfl (any_of HT_.out (by kernel_rfl)) (fun _ _ _ h => h) (Or.inl ⟨by rfl, ?_⟩) ?_ ?_; rotate_left; (intro w'; go_simp; (with_reducible rfl)); rotate_left; (simp only [Act.put, zSA, zSB, zSC, i64_w, i32_w]; rfl)
                 refine last_ (i := 11) (N := none) #[true, true, true, true, true, true, true, true, true, true, true, true] rfl rfl (one_of HT_.out (by kernel_rfl)) (by decide) (fun K hK => ?_)
                 refine skip_ (w1 := ?_) (by rfl) rfl ?_ ?_
                 rotate_left
                 ·
                  go_simp
                  rfl
                 refine hK.out _ _ ?_
                 clear hK K
                 refine done_ (done_of HT_.out (by kernel_rfl)) ?_
                 try go_wp2
                 go_meet
                 case rel => exact ⟨_, (y299), H', ⟨by have := HK1.out; first | omega | exact Nat.le_refl _⟩, ⟨by (with_reducible repeat (first | apply Kd.R_alloc | apply Kd.R_drewN | apply Kd.R_drew)); exact HQ36.out⟩, ⟨by (with_reducible repeat (first | apply Kd.R_alloc | apply Kd.R_drewN | apply Kd.R_drew)); exact Kd.R_mono (Kd.R_far (p := ⟨go30, (x23_1 : Int).toNat, none⟩) (Kd.R_mono HO_5.out (fun k_ hk => (⟨hk, fun e_ => hk (by rw [e_]; rfl)⟩ : _ ∧ k_ ≠ go30))) (fun _ hk => hk.2) (.string ((rdOf ByteArray.empty x4_1 ((rd_T64 l0_0 x23_1).f2)) ++ ((rd_T64 l0_0 x23_1).f0)))) (fun _ hk => hk.1)⟩, ⟨by (with_reducible repeat (first | refine blk_drewN ?_ _ | refine blk_drew ?_ | refine blk_alloc ?_ _)); refine blk_far ?_ (by have h_ := Kd.R_ne HO_4.out BK281.out (by decide); intro e_; exact h_ (by rw [e_]; rfl)) _; (with_reducible repeat (first | refine blk_drewN ?_ _ | refine blk_drew ?_ | refine blk_alloc ?_ _)); exact BK281.out⟩, ⟨by (with_reducible repeat (first | refine blk_drewN ?_ _ | refine blk_drew ?_ | refine blk_alloc ?_ _)); refine blk_far ?_ (by have h_ := Kd.R_ne HO_4.out BK296.out (by decide); intro e_; exact h_ (by rw [e_]; rfl)) _; (with_reducible repeat (first | refine blk_drewN ?_ _ | refine blk_drew ?_ | refine blk_alloc ?_ _)); exact BK296.out⟩, ⟨by repeat (first | (with_reducible first | exact HB.out | apply below_alloc | apply pw_below_drewN | apply below_drew1 | refine below_set ?_ GB30.out | refine below_set ?_ GE281.out | refine below_set ?_ GE296.out) | exact HB.out)⟩⟩
                ·
                 rw [if_neg c29] at H
                 exact absurd H (by simp)
               ·
                rw [if_neg c28] at H
                exact absurd H (by simp)
              ·
               rw [if_neg c27] at H
               exact absurd H (by simp)
             ·
              rw [if_neg c26] at H
              exact absurd H (by simp)
           ·
            replace c22 := Bool.eq_false_iff.mpr c22
            subst c22
            have H1 : (some (([] : List ByteArray), false)) = some (r1, r2) := by rw [if_neg (show ¬ (false = true) by decide)] at H; exact H
            clear H
            have H := H1
            clear H1
            simp only [Option.some.injEq, Prod.mk.injEq] at H
            obtain ⟨rfl, rfl⟩ := H
            have hnb37 := NB296_281.out
            have hnc37 := NB281_296.out
            have hcz38_0 : w17.cell? ⟨gb296, 0, none⟩ = some (.string (⟨#[]⟩ : ByteArray)) := (blk_cell BK296.out 0).trans rfl
            have hcz38_1 : w17.cell? ⟨gb296, 1, none⟩ = some (.bool false) := (blk_cell BK296.out 1).trans rfl
            have hcz38_2 : w17.cell? ⟨gb296, 2, none⟩ = some (.int .i64 0) := (blk_cell BK296.out 2).trans rfl
            have hfz38_0 := blk_frozen BK296.out 0
            have hfz38_1 := blk_frozen BK296.out 1
            have hfz38_2 := blk_frozen BK296.out 2
            go_wp2_with (first | ((with_reducible refine gate_callee (f := 78) rfl ?_); refine goesL_ (some 34) rfl rfl Try.func78 (by kernel_rfl) rfl #[.int .i64 ((rd_T64 l0_0 x23_1).f2), .int .i64 0, .int .i64 (wrap64 (x23_1 - 1))] rfl (by (try simp only [List.map_toArray, List.map_cons, List.map_nil]); first | done | rfl | (simp only [List.length_drop, List.length_take]; rfl)) ?_; (with_reducible refine (impl_within.calls ((rd_T64 l0_0 x23_1).f2) 0 (wrap64 (x23_1 - 1)) false _ A21.out).mono ?_); rintro e w' ⟨rfl, ⟨nd, rfl⟩⟩; refine ⟨_, rfl, ?_⟩))
            go_ret2
            exact ⟨_, by first | rfl | (simp [errW_none, errW_some] <;> rfl) | (simp [*, errW_none, errW_some] <;> rfl), by first | exact Kd.R_nil _ _ _ _ _ | exact Kd.N_nil _ _ _ _ _ | exact Kd.V_nil _ _ _ _ _ | exact Kd.Q_nil _ _ _ _ _ | exact Kd.S_nil _ _ _ _ _, by repeat (first | (with_reducible first | exact HB.out | apply below_alloc | apply pw_below_drewN | apply below_drew1 | refine below_set ?_ GE281.out | refine below_set ?_ GE296.out) | exact HB.out)⟩
          ·
           rw [if_neg c20] at H
           have c20b0 : decide (0 < x23_1) = false := decide_eq_false c20
           clear c20
           (first | rw [c20b0] | (simp only [i64_w, i32_w]; rw [c20b0]) | skip)
           have H' := aM H
           clear H
           go_wp2
           go_meet
           case rel => exact ⟨_, (x4_1), H', ⟨by have := HK1.out; first | omega | exact Nat.le_refl _⟩, ⟨by (with_reducible repeat (first | apply Kd.R_alloc | apply Kd.R_drewN | apply Kd.R_drew)); exact Kd.R_mono (Kd.R_far (p := ⟨gb296, 2, none⟩) (Kd.R_far (p := ⟨gb296, 1, none⟩) (Kd.R_far (p := ⟨gb296, 0, none⟩) (Kd.R_types HO_4.out BK296.out (by decide)) (fun _ hk => hk.2) (.string ((rd_T64 l0_0 x23_1).f0))) (fun _ hk => hk.2) (.bool ((rd_T64 l0_0 x23_1).f1))) (fun _ hk => hk.2) (.int .i64 ((rd_T64 l0_0 x23_1).f2))) (fun _ hk => hk.1)⟩, ⟨by (with_reducible repeat (first | apply Kd.R_alloc | apply Kd.R_drewN | apply Kd.R_drew)); exact Kd.R_mono (Kd.R_far (p := ⟨gb296, 2, none⟩) (Kd.R_far (p := ⟨gb296, 1, none⟩) (Kd.R_far (p := ⟨gb296, 0, none⟩) (Kd.R_types HO_5.out BK296.out (by decide)) (fun _ hk => hk.2) (.string ((rd_T64 l0_0 x23_1).f0))) (fun _ hk => hk.2) (.bool ((rd_T64 l0_0 x23_1).f1))) (fun _ hk => hk.2) (.int .i64 ((rd_T64 l0_0 x23_1).f2))) (fun _ hk => hk.1)⟩, ⟨by (with_reducible repeat (first | refine blk_drewN ?_ _ | refine blk_drew ?_ | refine blk_alloc ?_ _)); refine blk_far ?_ NB281_296.out _; (with_reducible repeat (first | refine blk_drewN ?_ _ | refine blk_drew ?_ | refine blk_alloc ?_ _)); refine blk_far ?_ NB281_296.out _; (with_reducible repeat (first | refine blk_drewN ?_ _ | refine blk_drew ?_ | refine blk_alloc ?_ _)); refine blk_far ?_ NB281_296.out _; (with_reducible repeat (first | refine blk_drewN ?_ _ | refine blk_drew ?_ | refine blk_alloc ?_ _)); exact BK281.out⟩, ⟨by (with_reducible repeat (first | refine blk_drewN ?_ _ | refine blk_drew ?_ | refine blk_alloc ?_ _)); refine blk_put (cs := #[.string ((rd_T64 l0_0 x23_1).f0), .bool ((rd_T64 l0_0 x23_1).f1), .int .i64 0]) ?_ 2 _ rfl; (with_reducible repeat (first | refine blk_drewN ?_ _ | refine blk_drew ?_ | refine blk_alloc ?_ _)); refine blk_put (cs := #[.string ((rd_T64 l0_0 x23_1).f0), .bool false, .int .i64 0]) ?_ 1 _ rfl; (with_reducible repeat (first | refine blk_drewN ?_ _ | refine blk_drew ?_ | refine blk_alloc ?_ _)); refine blk_put (cs := #[.string (⟨#[]⟩ : ByteArray), .bool false, .int .i64 0]) ?_ 0 _ rfl; (with_reducible repeat (first | refine blk_drewN ?_ _ | refine blk_drew ?_ | refine blk_alloc ?_ _)); exact BK296.out⟩, ⟨by repeat (first | (with_reducible first | exact HB.out | apply below_alloc | apply pw_below_drewN | apply below_drew1 | refine below_set ?_ GE281.out | refine below_set ?_ GE296.out) | exact HB.out)⟩⟩
         case rest =>
          clear HC16
          try clear c1
          try clear c2
          try clear p2
          try clear q2
          try clear hx2
          try clear c3
          try clear p3
          try clear q3
          try clear hx3
          try clear hf3
          try clear c4
          try clear c4b0
          try clear c4b1
          try clear c5
          try clear c5b0
          try clear c5b1
          try clear p6
          try clear c7
          try clear c13
          try clear c13b0
          try clear c14
          try clear c14b0
          try clear c15
          try clear c15b0
          try clear c18
          try clear c20
          try clear c20b0
          try clear c22
          try clear c23
          try clear c23b0
          try clear c23b1
          try clear c24
          try clear c26
          try clear c26b0
          try clear c27
          try clear c27b0
          try clear c28
          try clear c28b0
          try clear c28b1
          try clear c28b2
          try clear c29
          try clear c29b0
          try clear p29
          try clear q29
          try clear hx29
          try clear p30
          try clear q30
          try clear hx30
          try clear hf30
          try clear c31
          try clear c37
          try clear hcz12_0
          try clear hcz19_0
          try clear hcz19_1
          try clear hcz19_2
          try clear hcz25_0
          try clear hcz25_1
          try clear hcz25_2
          try clear hcz32_0
          try clear hcz32_1
          try clear hcz32_2
          try clear hcz38_0
          try clear hcz38_1
          try clear hcz38_2
          try clear hcz7_0
          try clear hfz12_0
          try clear hfz19_0
          try clear hfz19_1
          try clear hfz19_2
          try clear hfz25_0
          try clear hfz25_1
          try clear hfz25_2
          try clear hfz32_0
          try clear hfz32_1
          try clear hfz32_2
          try clear hfz38_0
          try clear hfz38_1
          try clear hfz38_2
          try clear hfz7_0
          try clear hx295_0
          try clear hx295_1
          try clear hx295_2
          try clear hx298_0
          try clear hx30_0
          try clear p2
          try clear p295
          try clear p298
          try clear p30
          try clear q295
          try clear q298
          try clear q30
          obtain ⟨kq, x4_15, HA, HJ15, HO_4, HO_5, BK281, BK296, HB⟩ := hcut
          cases kq with
          | zero => exact absurd HA.out (by simp [impl_namesOf.j1])
          | succ kj15 =>
           have H := HA.out
           clear HA
           simp only [impl_namesOf.j1] at H
           by_cases c39 : ((rd_T64 l0_0 x23_1).f1) = true
           ·
            rw [if_pos c39] at H
            have c39b0 : ((rd_T64 l0_0 x23_1).f1) = true := c39
            clear c39
            by_cases c40 : 0 ≤ x23_1
            ·
             rw [if_pos c40] at H
             have c40b0 : decide (0 ≤ x23_1) = true := decide_eq_true c40
             clear c40
             by_cases c41 : x23_1 < (x4_15.length : Int)
             ·
              rw [if_pos c41] at H
              have c41b0 : decide (x23_1 < (x4_15.length : Int)) = true := decide_eq_true c41
              clear c41
              by_cases c42 : x5_1.length < 8796093022208
              ·
               rw [if_pos c42] at H
               have LMc42 := aM c42
               clear c42
               obtain ⟨y301, hy301⟩ : ∃ y_ : List ByteArray, y_ = (x5_1 ++ [rdOf ByteArray.empty x4_15 x23_1]) := ⟨_, rfl⟩
               replace H : (if ((rdOf ByteArray.empty x4_15 x23_1).size : Int) > 20 then (some (([] : List ByteArray), false)) else (impl_namesOf.l0 kj15 x4_15 y301 l0_0 (l0_0.length : Int) (wrap64 (x23_1 + 1)) l0_0)) = some (r1, r2) := by first | (rw [hy301]; with_reducible exact H) | (have H2_ := (Option.bind_some _ _).symm.trans H; rw [hy301]; with_reducible exact H2_) | (have H2_ := (Option.bind_some _ _).symm.trans H; with_reducible exact H2_) | with_reducible exact H | (rw [hy301]; exact H) | exact H
               have Ny301 := aM hy301
               clear hy301
               by_cases c43 : ((rdOf ByteArray.empty x4_15 x23_1).size : Int) > 20
               ·
                rw [if_pos c43] at H
                have c43b0 : decide (20 < ((rdOf ByteArray.empty x4_15 x23_1).size : Int)) = true := decide_eq_true c43
                have c43b1 : decide (20 < (rdOf ByteArray.empty x4_15 x23_1).size) = true := decide_eq_true (by omega)
                clear c43
                simp only [Option.some.injEq, Prod.mk.injEq] at H
                obtain ⟨rfl, rfl⟩ := H
                have hnb44 := NB296_281.out
                have hnc44 := NB281_296.out
                have hcz45_0 : wc.cell? ⟨gb296, 0, none⟩ = some (.string ((rd_T64 l0_0 x23_1).f0)) := (blk_cell BK296.out 0).trans rfl
                have hcz45_1 : wc.cell? ⟨gb296, 1, none⟩ = some (.bool ((rd_T64 l0_0 x23_1).f1)) := (blk_cell BK296.out 1).trans rfl
                have hcz45_2 : wc.cell? ⟨gb296, 2, none⟩ = some (.int .i64 ((rd_T64 l0_0 x23_1).f2)) := (blk_cell BK296.out 2).trans rfl
                have hfz45_0 := blk_frozen BK296.out 0
                have hfz45_1 := blk_frozen BK296.out 1
                have hfz45_2 := blk_frozen BK296.out 2
                obtain ⟨Ao46, co46, eo46⟩ := Kd.R_slice HO_4.out
                subst eo46
                have p300 : 0 ≤ (x23_1 : Int) := of_decide_eq_true (by first | (with_reducible assumption) | assumption)
                have q300 : x23_1 < (x4_15.length : Int) := of_decide_eq_true (by first | (with_reducible assumption) | assumption)
                obtain ⟨ad300, e300, hx300_0⟩ := Kd.at_string (Kd.R_reads' HO_4.out).2.2 x23_1 p300 q300
                cases e300
                replace p300 := eq_true p300
                replace q300 := eq_true q300
                go_wp2_with (first | ((with_reducible refine gate_builtin (b := .append) (xs := #[.tmp 55, .tmp 60]) rfl ?_); (try (refine gate_guard (by rfl) ?_; dsimp only)); at_builtin; refine Kd.R_append Kd.string (w0 := w) w.heap.size rfl (.tmp 55) (.tmp 60) 22 9 (.string ⟨#[]⟩) 16 rfl Try.underlying22 info9 rfl (by decide) (by omega) u5 x5_1 (rdOf ByteArray.empty x4_15 x23_1) [.string (rdOf ByteArray.empty x4_15 x23_1)] (fun k_ => some k_ ≠ (.slice (some ad300) x4_15.length co46 : Value).ownBlock) (fun _ => False) rfl rfl ?aP (fun _ hk => hk.elim) ?aF ?aO ?aB ?aS ?aL ?_; (case aP => exact rfl); (case aB => exact (by repeat (first | (with_reducible first | exact HB.out | apply below_alloc | apply pw_below_drewN | apply below_drew1 | refine below_set ?_ GE281.out | refine below_set ?_ GE296.out) | exact HB.out))); (case aF => exact (fun k_ hk => Kd.fresh' (Kd.R_lt (by (with_reducible repeat (first | apply Kd.R_alloc | apply Kd.R_drewN | apply Kd.R_drew)); exact HO_4.out)) k_ hk)); (case aO => exact (by (with_reducible repeat (first | apply Kd.R_alloc | apply Kd.R_drewN | apply Kd.R_drew)); exact HO_5.out)); (case aS => exact (below_size (by repeat (first | (with_reducible first | exact HB.out | apply below_alloc | apply pw_below_drewN | apply below_drew1 | refine below_set ?_ GE281.out | refine below_set ?_ GE296.out) | exact HB.out)))); (case aL => have := LMc42.out; omega); intro v302 w47 ho hb hg hat; rw [← Ny301.out] at ho; have n0_ := aM (Kd.R_after (ok := (fun _ => True)) (by (with_reducible repeat (first | apply Kd.R_alloc | apply Kd.R_drewN | apply Kd.R_drew)); exact Kd.R_mono HO_4.out (fun _ hk => ⟨trivial, hk⟩)) hg hat); have n1_ := aM (blk_grown (g := gb281) (o := .cells #[.slice (some ad295) l0_0.length c0_0] 26 (0, 0)) (by (with_reducible repeat (first | refine blk_drewN ?_ _ | refine blk_drew ?_ | refine blk_alloc ?_ _)); exact BK281.out) hg (Kd.R_ne HO_5.out BK281.out (by decide))); have n2_ := aM (blk_grown (g := gb296) (o := .cells #[.string ((rd_T64 l0_0 x23_1).f0), .bool ((rd_T64 l0_0 x23_1).f1), .int .i64 ((rd_T64 l0_0 x23_1).f2)] 64 (0, 0)) (by (with_reducible repeat (first | refine blk_drewN ?_ _ | refine blk_drew ?_ | refine blk_alloc ?_ _)); exact BK296.out) hg (Kd.R_ne HO_5.out BK296.out (by decide))); have n3_ := aM (hb); have n4_ := aM (ho); clear HO_4; clear BK281; clear BK296; clear HB; clear HO_5; have HO_4 := n0_; have BK281 := n1_; have BK296 := n2_; have HB := n3_; have HO303 := n4_; clear n0_ n1_ n2_ n3_ n4_; clear ho hb hg hat; have p304 : 0 ≤ (x23_1 : Int) := of_decide_eq_true (by first | (with_reducible assumption) | assumption); have q304 : x23_1 < (x4_15.length : Int) := of_decide_eq_true (by first | (with_reducible assumption) | assumption); obtain ⟨ad304, e304, hx304_0⟩ := Kd.at_string (Kd.R_reads' HO_4.out).2.2 x23_1 p304 q304; obtain rfl : ad300 = ad304 := (by injection e304); replace p304 := eq_true p304; replace q304 := eq_true q304))
                go_ret2
                exact ⟨_, by first | rfl | (simp [errW_none, errW_some] <;> rfl) | (simp [*, errW_none, errW_some] <;> rfl), by first | exact Kd.R_nil _ _ _ _ _ | exact Kd.N_nil _ _ _ _ _ | exact Kd.V_nil _ _ _ _ _ | exact Kd.Q_nil _ _ _ _ _ | exact Kd.S_nil _ _ _ _ _, by repeat (first | (with_reducible first | exact HB.out | apply below_alloc | apply pw_below_drewN | apply below_drew1 | refine below_set ?_ GE281.out | refine below_set ?_ GE296.out) | exact HB.out)⟩
               ·
                rw [if_neg c43] at H
                have c43b0 : decide (20 < ((rdOf ByteArray.empty x4_15 x23_1).size : Int)) = false := decide_eq_false c43
                have c43b1 : decide (20 < (rdOf ByteArray.empty x4_15 x23_1).size) = false := decide_eq_false (by omega)
                clear c43
                have H' := aM H
                clear H
                have hnb48 := NB296_281.out
                have hnc48 := NB281_296.out
                have hcz49_0 : wc.cell? ⟨gb296, 0, none⟩ = some (.string ((rd_T64 l0_0 x23_1).f0)) := (blk_cell BK296.out 0).trans rfl
                have hcz49_1 : wc.cell? ⟨gb296, 1, none⟩ = some (.bool ((rd_T64 l0_0 x23_1).f1)) := (blk_cell BK296.out 1).trans rfl
                have hcz49_2 : wc.cell? ⟨gb296, 2, none⟩ = some (.int .i64 ((rd_T64 l0_0 x23_1).f2)) := (blk_cell BK296.out 2).trans rfl
                have hfz49_0 := blk_frozen BK296.out 0
                have hfz49_1 := blk_frozen BK296.out 1
                have hfz49_2 := blk_frozen BK296.out 2
                obtain ⟨Ao50, co50, eo50⟩ := Kd.R_slice HO_4.out
                subst eo50
                have p300 : 0 ≤ (x23_1 : Int) := of_decide_eq_true (by first | (with_reducible assumption) | assumption)
                have q300 : x23_1 < (x4_15.length : Int) := of_decide_eq_true (by first | (with_reducible assumption) | assumption)
                obtain ⟨ad300, e300, hx300_0⟩ := Kd.at_string (Kd.R_reads' HO_4.out).2.2 x23_1 p300 q300
                cases e300
                replace p300 := eq_true p300
                replace q300 := eq_true q300
                go_wp2_with (first | ((with_reducible refine gate_builtin (b := .append) (xs := #[.tmp 55, .tmp 60]) rfl ?_); (try (refine gate_guard (by rfl) ?_; dsimp only)); at_builtin; refine Kd.R_append Kd.string (w0 := w) w.heap.size rfl (.tmp 55) (.tmp 60) 22 9 (.string ⟨#[]⟩) 16 rfl Try.underlying22 info9 rfl (by decide) (by omega) u5 x5_1 (rdOf ByteArray.empty x4_15 x23_1) [.string (rdOf ByteArray.empty x4_15 x23_1)] (fun k_ => some k_ ≠ (.slice (some ad300) x4_15.length co50 : Value).ownBlock) (fun _ => False) rfl rfl ?aP (fun _ hk => hk.elim) ?aF ?aO ?aB ?aS ?aL ?_; (case aP => exact rfl); (case aB => exact (by repeat (first | (with_reducible first | exact HB.out | apply below_alloc | apply pw_below_drewN | apply below_drew1 | refine below_set ?_ GE281.out | refine below_set ?_ GE296.out) | exact HB.out))); (case aF => exact (fun k_ hk => Kd.fresh' (Kd.R_lt (by (with_reducible repeat (first | apply Kd.R_alloc | apply Kd.R_drewN | apply Kd.R_drew)); exact HO_4.out)) k_ hk)); (case aO => exact (by (with_reducible repeat (first | apply Kd.R_alloc | apply Kd.R_drewN | apply Kd.R_drew)); exact HO_5.out)); (case aS => exact (below_size (by repeat (first | (with_reducible first | exact HB.out | apply below_alloc | apply pw_below_drewN | apply below_drew1 | refine below_set ?_ GE281.out | refine below_set ?_ GE296.out) | exact HB.out)))); (case aL => have := LMc42.out; omega); intro v302 w51 ho hb hg hat; rw [← Ny301.out] at ho; have n0_ := aM (Kd.R_after (ok := (fun _ => True)) (by (with_reducible repeat (first | apply Kd.R_alloc | apply Kd.R_drewN | apply Kd.R_drew)); exact Kd.R_mono HO_4.out (fun _ hk => ⟨trivial, hk⟩)) hg hat); have n1_ := aM (blk_grown (g := gb281) (o := .cells #[.slice (some ad295) l0_0.length c0_0] 26 (0, 0)) (by (with_reducible repeat (first | refine blk_drewN ?_ _ | refine blk_drew ?_ | refine blk_alloc ?_ _)); exact BK281.out) hg (Kd.R_ne HO_5.out BK281.out (by decide))); have n2_ := aM (blk_grown (g := gb296) (o := .cells #[.string ((rd_T64 l0_0 x23_1).f0), .bool ((rd_T64 l0_0 x23_1).f1), .int .i64 ((rd_T64 l0_0 x23_1).f2)] 64 (0, 0)) (by (with_reducible repeat (first | refine blk_drewN ?_ _ | refine blk_drew ?_ | refine blk_alloc ?_ _)); exact BK296.out) hg (Kd.R_ne HO_5.out BK296.out (by decide))); have n3_ := aM (hb); have n4_ := aM (ho); clear HO_4; clear BK281; clear BK296; clear HB; clear HO_5; have HO_4 := n0_; have BK281 := n1_; have BK296 := n2_; have HB := n3_; have HO303 := n4_; clear n0_ n1_ n2_ n3_ n4_; clear ho hb hg hat; have p304 : 0 ≤ (x23_1 : Int) := of_decide_eq_true (by first | (with_reducible assumption) | assumption); have q304 : x23_1 < (x4_15.length : Int) := of_decide_eq_true (by first | (with_reducible assumption) | assumption); obtain ⟨ad304, e304, hx304_0⟩ := Kd.at_string (Kd.R_reads' HO_4.out).2.2 x23_1 p304 q304; obtain rfl : ad300 = ad304 := (by injection e304); replace p304 := eq_true p304; replace q304 := eq_true q304))
                go_roundg kj15
                case measure => have := HK1.out; have := HJ15.out; omega
                case rel => exact ⟨(x4_15), (y301), (wrap64 (x23_1 + 1)), (by first | rfl | (simp; done) | (simp [*]; done)), H', ⟨by have := HK1.out; have := HJ15.out; omega⟩, ⟨by (with_reducible repeat (first | apply Kd.R_alloc | apply Kd.R_drewN | apply Kd.R_drew)); exact Kd.R_mono HO_4.out (fun _ hk => hk.2)⟩, ⟨by (with_reducible repeat (first | apply Kd.R_alloc | apply Kd.R_drewN | apply Kd.R_drew)); exact HO303.out⟩, ⟨by (with_reducible repeat (first | refine blk_drewN ?_ _ | refine blk_drew ?_ | refine blk_alloc ?_ _)); exact BK281.out⟩, ⟨by repeat (first | (with_reducible first | exact HB.out | apply below_alloc | apply pw_below_drewN | apply below_drew1 | refine below_set ?_ GE281.out | refine below_set ?_ GE296.out) | exact HB.out)⟩⟩
              ·
               rw [if_neg c42] at H
               exact absurd H (by simp)
             ·
              rw [if_neg c41] at H
              exact absurd H (by simp)
            ·
             rw [if_neg c40] at H
             exact absurd H (by simp)
           ·
            rw [if_neg c39] at H
            have c39b0 : ((rd_T64 l0_0 x23_1).f1) = false := by simpa using c39
            clear c39
            by_cases c52 : 0 ≤ x23_1
            ·
             rw [if_pos c52] at H
             have c52b0 : decide (0 ≤ x23_1) = true := decide_eq_true c52
             clear c52
             by_cases c53 : x23_1 < (x4_15.length : Int)
             ·
              rw [if_pos c53] at H
              have c53b0 : decide (x23_1 < (x4_15.length : Int)) = true := decide_eq_true c53
              clear c53
              by_cases c54 : ((rdOf ByteArray.empty x4_15 x23_1).size : Int) > 20
              ·
               rw [if_pos c54] at H
               have c54b0 : decide (20 < ((rdOf ByteArray.empty x4_15 x23_1).size : Int)) = true := decide_eq_true c54
               have c54b1 : decide (20 < (rdOf ByteArray.empty x4_15 x23_1).size) = true := decide_eq_true (by omega)
               clear c54
               simp only [Option.some.injEq, Prod.mk.injEq] at H
               obtain ⟨rfl, rfl⟩ := H
               have hnb55 := NB296_281.out
               have hnc55 := NB281_296.out
               have hcz56_0 : wc.cell? ⟨gb296, 0, none⟩ = some (.string ((rd_T64 l0_0 x23_1).f0)) := (blk_cell BK296.out 0).trans rfl
               have hcz56_1 : wc.cell? ⟨gb296, 1, none⟩ = some (.bool ((rd_T64 l0_0 x23_1).f1)) := (blk_cell BK296.out 1).trans rfl
               have hcz56_2 : wc.cell? ⟨gb296, 2, none⟩ = some (.int .i64 ((rd_T64 l0_0 x23_1).f2)) := (blk_cell BK296.out 2).trans rfl
               have hfz56_0 := blk_frozen BK296.out 0
               have hfz56_1 := blk_frozen BK296.out 1
               have hfz56_2 := blk_frozen BK296.out 2
               obtain ⟨Ao57, co57, eo57⟩ := Kd.R_slice HO_4.out
               subst eo57
               have p305 : 0 ≤ (x23_1 : Int) := of_decide_eq_true (by first | (with_reducible assumption) | assumption)
               have q305 : x23_1 < (x4_15.length : Int) := of_decide_eq_true (by first | (with_reducible assumption) | assumption)
               obtain ⟨ad305, e305, hx305_0⟩ := Kd.at_string (Kd.R_reads' HO_4.out).2.2 x23_1 p305 q305
               cases e305
               replace p305 := eq_true p305
               replace q305 := eq_true q305
               go_wp2
               go_ret2
               exact ⟨_, by first | rfl | (simp [errW_none, errW_some] <;> rfl) | (simp [*, errW_none, errW_some] <;> rfl), by first | exact Kd.R_nil _ _ _ _ _ | exact Kd.N_nil _ _ _ _ _ | exact Kd.V_nil _ _ _ _ _ | exact Kd.Q_nil _ _ _ _ _ | exact Kd.S_nil _ _ _ _ _, by repeat (first | (with_reducible first | exact HB.out | apply below_alloc | apply pw_below_drewN | apply below_drew1 | refine below_set ?_ GE281.out | refine below_set ?_ GE296.out) | exact HB.out)⟩
              ·
               rw [if_neg c54] at H
               have c54b0 : decide (20 < ((rdOf ByteArray.empty x4_15 x23_1).size : Int)) = false := decide_eq_false c54
               have c54b1 : decide (20 < (rdOf ByteArray.empty x4_15 x23_1).size) = false := decide_eq_false (by omega)
               clear c54
               have H' := aM H
               clear H
               have hnb58 := NB296_281.out
               have hnc58 := NB281_296.out
               have hcz59_0 : wc.cell? ⟨gb296, 0, none⟩ = some (.string ((rd_T64 l0_0 x23_1).f0)) := (blk_cell BK296.out 0).trans rfl
               have hcz59_1 : wc.cell? ⟨gb296, 1, none⟩ = some (.bool ((rd_T64 l0_0 x23_1).f1)) := (blk_cell BK296.out 1).trans rfl
               have hcz59_2 : wc.cell? ⟨gb296, 2, none⟩ = some (.int .i64 ((rd_T64 l0_0 x23_1).f2)) := (blk_cell BK296.out 2).trans rfl
               have hfz59_0 := blk_frozen BK296.out 0
               have hfz59_1 := blk_frozen BK296.out 1
               have hfz59_2 := blk_frozen BK296.out 2
               obtain ⟨Ao60, co60, eo60⟩ := Kd.R_slice HO_4.out
               subst eo60
               have p305 : 0 ≤ (x23_1 : Int) := of_decide_eq_true (by first | (with_reducible assumption) | assumption)
               have q305 : x23_1 < (x4_15.length : Int) := of_decide_eq_true (by first | (with_reducible assumption) | assumption)
               obtain ⟨ad305, e305, hx305_0⟩ := Kd.at_string (Kd.R_reads' HO_4.out).2.2 x23_1 p305 q305
               cases e305
               replace p305 := eq_true p305
               replace q305 := eq_true q305
               go_wp2
               go_roundg kj15
               case measure => have := HK1.out; have := HJ15.out; omega
               case rel => exact ⟨(x4_15), (x5_1), (wrap64 (x23_1 + 1)), (by first | rfl | (simp; done) | (simp [*]; done)), H', ⟨by have := HK1.out; have := HJ15.out; omega⟩, ⟨by (with_reducible repeat (first | apply Kd.R_alloc | apply Kd.R_drewN | apply Kd.R_drew)); exact HO_4.out⟩, ⟨by (with_reducible repeat (first | apply Kd.R_alloc | apply Kd.R_drewN | apply Kd.R_drew)); exact HO_5.out⟩, ⟨by (with_reducible repeat (first | refine blk_drewN ?_ _ | refine blk_drew ?_ | refine blk_alloc ?_ _)); exact BK281.out⟩, ⟨by repeat (first | (with_reducible first | exact HB.out | apply below_alloc | apply pw_below_drewN | apply below_drew1 | refine below_set ?_ GE281.out | refine below_set ?_ GE296.out) | exact HB.out)⟩⟩
             ·
              rw [if_neg c53] at H
              exact absurd H (by simp)
            ·
             rw [if_neg c52] at H
             exact absurd H (by simp)
        ·
         rw [if_neg c15] at H
         exact absurd H (by simp)
       ·
        rw [if_neg c14] at H
        exact absurd H (by simp)
      ·
       rw [if_neg c13] at H
       have c13b0 : decide (x23_1 < (l0_0.length : Int)) = false := decide_eq_false c13
       clear c13
       replace H := Option.bind_eq_some_iff.mp H
       obtain ⟨⟨t289, t292⟩, A610, H⟩ := H
       replace H : (if t292 = true then ((impl_Edge_79.f k1 t289 l0_0).bind fun t294 => (some (x5_1, t294))) else (some (x5_1, false))) = some (r1, r2) := H
       have A61 := aM A610
       clear A610
       by_cases c62 : t292 = true
       ·
        subst c62
        have H1 : ((impl_Edge_79.f k1 t289 l0_0).bind fun t294 => (some (x5_1, t294))) = some (r1, r2) := by rw [if_pos rfl] at H; exact H
        clear H
        have H := H1
        clear H1
        replace H := Option.bind_eq_some_iff.mp H
        obtain ⟨t294, A630, H⟩ := H
        replace H : (some (x5_1, t294)) = some (r1, r2) := H
        have A63 := aM A630
        clear A630
        simp only [Option.some.injEq, Prod.mk.injEq] at H
        obtain ⟨rfl, rfl⟩ := H
        obtain ⟨Ao64, co64, eo64⟩ := Kd.R_slice HO_5.out
        subst eo64
        go_wp2_with (first | ((with_reducible refine gate_callee (f := 14) rfl ?_); refine goesL_ (some 71) rfl rfl Try.func14 (by kernel_rfl) rfl #[.slice Ao64 x5_1.length co64] rfl (by (try simp only [List.map_toArray, List.map_cons, List.map_nil]); first | done | rfl | (simp only [List.length_drop, List.length_take]; rfl)) ?_; (with_reducible refine (impl_RadixOf.calls _ _ x5_1 t289 true _ ?side1 ?side2 A61.out).mono ?_); (case side1 => repeat (first | exact (Kd.R_reads' HO_5.out).2.2 | (with_reducible refine Kd.C_alloc ?_ _) | (with_reducible refine Kd.C_drewN ?_ _) | (with_reducible refine Kd.C_drew ?_))); (case side2 => exact (Kd.R_reads' HO_5.out).2.1); rintro e w65 ⟨v290, rfl, ho0, hb⟩; refine ⟨_, rfl, ?_⟩; have n0_ := aM (Kd.R_below (by (with_reducible repeat (first | apply Kd.R_alloc | apply Kd.R_drewN | apply Kd.R_drew)); exact HO_4.out) hb); have n1_ := aM (Kd.R_below (by (with_reducible repeat (first | apply Kd.R_alloc | apply Kd.R_drewN | apply Kd.R_drew)); exact HO_5.out) hb); have n2_ := aM (Kd.R_lower ho0 (below_size (by repeat (first | (with_reducible first | exact HB.out | apply below_alloc | apply pw_below_drewN | apply below_drew1 | refine below_set ?_ GE281.out) | exact HB.out)))); have n3_ := aM (blk_below (g := gb281) (o := .cells #[.slice A0_0 l0_0.length c0_0] 26 (0, 0)) (by (with_reducible repeat (first | refine blk_drewN ?_ _ | refine blk_drew ?_ | refine blk_alloc ?_ _)); exact BK281.out) hb); have n4_ := aM (below_step (by repeat (first | (with_reducible first | exact HB.out | apply below_alloc | apply pw_below_drewN | apply below_drew1 | refine below_set ?_ GE281.out) | exact HB.out)) hb); clear HO_4; clear HO_5; clear BK281; clear HB; have HO_4 := n0_; have HO_5 := n1_; have HO291 := n2_; have BK281 := n3_; have HB := n4_; clear n0_ n1_ n2_ n3_ n4_; (try clear hb); (try clear hb2); (try clear hk); (try clear hi); (try clear ho0)) | ((with_reducible refine gate_dst (N := 8) rfl ?_); (try (refine gate_guard (by rfl) ?_; dsimp only)); refine box_event ?hg (N := 8) ?hd (cs := #[.slice none 0 0]) (t := 26) ?hr ?_; (case hd => rfl); (case hg => rfl); (case hr => first | (go_simp; done) | (go_simp; rfl)); intro gb293 hg w66 hbox hb; have n0_ := aM (Kd.R_below (by (with_reducible repeat (first | apply Kd.R_alloc | apply Kd.R_drewN | apply Kd.R_drew)); exact HO_4.out) hb); have n1_ := aM (Kd.R_below (by (with_reducible repeat (first | apply Kd.R_alloc | apply Kd.R_drewN | apply Kd.R_drew)); exact HO_5.out) hb); have n2_ := aM (Kd.R_below (by (with_reducible repeat (first | apply Kd.R_alloc | apply Kd.R_drewN | apply Kd.R_drew)); exact HO291.out) hb); have n3_ := aM (blk_below (g := gb281) (o := .cells #[.slice A0_0 l0_0.length c0_0] 26 (0, 0)) (by (with_reducible repeat (first | refine blk_drewN ?_ _ | refine blk_drew ?_ | refine blk_alloc ?_ _)); exact BK281.out) hb); have n4_ := aM (below_step (by repeat (first | (with_reducible first | exact HB.out | apply below_alloc | apply pw_below_drewN | apply below_drew1 | refine below_set ?_ GE281.out) | exact HB.out)) hb); have n5_ := aM (hbox); have n6_ := aM ((by rw [hg]; exact (below_size (by repeat (first | (with_reducible first | exact HB.out | apply below_alloc | apply pw_below_drewN | apply below_drew1 | refine below_set ?_ GE281.out) | exact HB.out))) : w.heap.size ≤ gb293)); have n7_ := aM ((by rw [hg]; exact (below_size (by repeat (first | (with_reducible first | exact HB.out | apply below_alloc | apply pw_below_drewN | apply below_drew1 | refine below_set ?_ GE281.out) | exact HB.out))) : w.heap.size ≤ gb293)); have n8_ := aM ((by rw [hg]; exact Nat.ne_of_lt (blk_lt (g := gb281) (o := .cells #[.slice A0_0 l0_0.length c0_0] 26 (0, 0)) (by (with_reducible repeat (first | refine blk_drewN ?_ _ | refine blk_drew ?_ | refine blk_alloc ?_ _)); exact BK281.out)) : gb281 ≠ gb293)); have n9_ := aM ((by rw [hg]; exact Nat.ne_of_gt (blk_lt (g := gb281) (o := .cells #[.slice A0_0 l0_0.length c0_0] 26 (0, 0)) (by (with_reducible repeat (first | refine blk_drewN ?_ _ | refine blk_drew ?_ | refine blk_alloc ?_ _)); exact BK281.out)) : gb293 ≠ gb281)); clear HO_4; clear HO_5; clear HO291; clear BK281; clear HB; have HO_4 := n0_; have HO_5 := n1_; have HO291 := n2_; have BK281 := n3_; have HB := n4_; have BK293 := n5_; have GW293 := n6_; have GE293 := n7_; have NB281_293 := n8_; have NB293_281 := n9_; clear n0_ n1_ n2_ n3_ n4_ n5_ n6_ n7_ n8_ n9_; clear hb hbox hg; obtain ⟨Ao67, co67, eo67⟩ := Kd.R_slice HO291.out; subst eo67; have hnb68 := NB293_281.out; have hnc68 := NB281_293.out; have hcz69_0 : w66.cell? ⟨gb293, 0, none⟩ = some (.slice none 0 0) := (blk_cell BK293.out 0).trans rfl; have hfz69_0 := blk_frozen BK293.out 0; have hcz70_0 : w66.cell? ⟨gb281, 0, none⟩ = some (.slice A0_0 l0_0.length c0_0) := (blk_cell BK281.out 0).trans rfl; have hfz70_0 := blk_frozen BK281.out 0) | (go_at_call 79; (try simp only [i64_w]); (with_reducible refine (impl_Edge_79.calls k1 _ _ t289 _ _ l0_0 t294 _ ?side1 ?side2 ?side3 ?side4 A63.out).mono ?_); (case side1 => refine (Kd.R_reads' (e := 64) (base := w.heap.size) (ok := fun k_ => True) (n := t289.length) (c := co67) ?_).2.2; exact (by (with_reducible repeat (first | apply Kd.R_alloc | apply Kd.R_drewN | apply Kd.R_drew)); exact (Kd.R_mono (Kd.R_far (p := ⟨gb293, 0, none⟩) (Kd.R_types HO291.out BK293.out (by decide)) (fun _ hk => hk.2) (.slice Ao67 t289.length co67)) (fun _ h_ => h_.1)))); (case side2 => exact (Kd.R_reads' HO291.out).2.1); (case side3 => exact Kd.C_below HR0_0.out (by repeat (first | (with_reducible first | exact HB.out | apply below_alloc | apply pw_below_drewN | apply below_drew1 | refine below_set ?_ GE281.out | refine below_set ?_ GE293.out) | exact HB.out))); (case side4 => exact HC0_0.out); rintro e w' ⟨rfl, ⟨nd, rfl⟩⟩))
        go_ret2
        exact ⟨_, by first | rfl | (simp [errW_none, errW_some] <;> rfl) | (simp [*, errW_none, errW_some] <;> rfl), by (with_reducible repeat (first | apply Kd.R_alloc | apply Kd.R_drewN | apply Kd.R_drew)); exact Kd.R_mono (Kd.R_far (p := ⟨gb293, 0, none⟩) (Kd.R_types HO_5.out BK293.out (by decide)) (fun _ hk => hk.2) (.slice Ao67 t289.length co67)) (fun _ hk => trivial), by repeat (first | (with_reducible first | exact HB.out | apply below_alloc | apply pw_below_drewN | apply below_drew1 | refine below_set ?_ GE281.out | refine below_set ?_ GE293.out) | exact HB.out)⟩
       ·
        replace c62 := Bool.eq_false_iff.mpr c62
        subst c62
        have H1 : (some (x5_1, false)) = some (r1, r2) := by rw [if_neg (show ¬ (false = true) by decide)] at H; exact H
        clear H
        have H := H1
        clear H1
        simp only [Option.some.injEq, Prod.mk.injEq] at H
        obtain ⟨rfl, rfl⟩ := H
        obtain ⟨Ao71, co71, eo71⟩ := Kd.R_slice HO_5.out
        subst eo71
        go_wp2_with (first | ((with_reducible refine gate_callee (f := 14) rfl ?_); refine goesL_ (some 71) rfl rfl Try.func14 (by kernel_rfl) rfl #[.slice Ao71 x5_1.length co71] rfl (by (try simp only [List.map_toArray, List.map_cons, List.map_nil]); first | done | rfl | (simp only [List.length_drop, List.length_take]; rfl)) ?_; (with_reducible refine (impl_RadixOf.calls _ _ x5_1 t289 false _ ?side1 ?side2 A61.out).mono ?_); (case side1 => repeat (first | exact (Kd.R_reads' HO_5.out).2.2 | (with_reducible refine Kd.C_alloc ?_ _) | (with_reducible refine Kd.C_drewN ?_ _) | (with_reducible refine Kd.C_drew ?_))); (case side2 => exact (Kd.R_reads' HO_5.out).2.1); rintro e w72 ⟨v290, rfl, ho0, hb⟩; refine ⟨_, rfl, ?_⟩; have n0_ := aM (Kd.R_below (by (with_reducible repeat (first | apply Kd.R_alloc | apply Kd.R_drewN | apply Kd.R_drew)); exact HO_4.out) hb); have n1_ := aM (Kd.R_below (by (with_reducible repeat (first | apply Kd.R_alloc | apply Kd.R_drewN | apply Kd.R_drew)); exact HO_5.out) hb); have n2_ := aM (Kd.R_lower ho0 (below_size (by repeat (first | (with_reducible first | exact HB.out | apply below_alloc | apply pw_below_drewN | apply below_drew1 | refine below_set ?_ GE281.out) | exact HB.out)))); have n3_ := aM (blk_below (g := gb281) (o := .cells #[.slice A0_0 l0_0.length c0_0] 26 (0, 0)) (by (with_reducible repeat (first | refine blk_drewN ?_ _ | refine blk_drew ?_ | refine blk_alloc ?_ _)); exact BK281.out) hb); have n4_ := aM (below_step (by repeat (first | (with_reducible first | exact HB.out | apply below_alloc | apply pw_below_drewN | apply below_drew1 | refine below_set ?_ GE281.out) | exact HB.out)) hb); clear HO_4; clear HO_5; clear BK281; clear HB; have HO_4 := n0_; have HO_5 := n1_; have HO291 := n2_; have BK281 := n3_; have HB := n4_; clear n0_ n1_ n2_ n3_ n4_; (try clear hb); (try clear hb2); (try clear hk); (try clear hi); (try clear ho0)) | ((with_reducible refine gate_dst (N := 8) rfl ?_); (try (refine gate_guard (by rfl) ?_; dsimp only)); refine box_event ?hg (N := 8) ?hd (cs := #[.slice none 0 0]) (t := 26) ?hr ?_; (case hd => rfl); (case hg => rfl); (case hr => first | (go_simp; done) | (go_simp; rfl)); intro gb293 hg w73 hbox hb; have n0_ := aM (Kd.R_below (by (with_reducible repeat (first | apply Kd.R_alloc | apply Kd.R_drewN | apply Kd.R_drew)); exact HO_4.out) hb); have n1_ := aM (Kd.R_below (by (with_reducible repeat (first | apply Kd.R_alloc | apply Kd.R_drewN | apply Kd.R_drew)); exact HO_5.out) hb); have n2_ := aM (Kd.R_below (by (with_reducible repeat (first | apply Kd.R_alloc | apply Kd.R_drewN | apply Kd.R_drew)); exact HO291.out) hb); have n3_ := aM (blk_below (g := gb281) (o := .cells #[.slice A0_0 l0_0.length c0_0] 26 (0, 0)) (by (with_reducible repeat (first | refine blk_drewN ?_ _ | refine blk_drew ?_ | refine blk_alloc ?_ _)); exact BK281.out) hb); have n4_ := aM (below_step (by repeat (first | (with_reducible first | exact HB.out | apply below_alloc | apply pw_below_drewN | apply below_drew1 | refine below_set ?_ GE281.out) | exact HB.out)) hb); have n5_ := aM (hbox); have n6_ := aM ((by rw [hg]; exact (below_size (by repeat (first | (with_reducible first | exact HB.out | apply below_alloc | apply pw_below_drewN | apply below_drew1 | refine below_set ?_ GE281.out) | exact HB.out))) : w.heap.size ≤ gb293)); have n7_ := aM ((by rw [hg]; exact (below_size (by repeat (first | (with_reducible first | exact HB.out | apply below_alloc | apply pw_below_drewN | apply below_drew1 | refine below_set ?_ GE281.out) | exact HB.out))) : w.heap.size ≤ gb293)); have n8_ := aM ((by rw [hg]; exact Nat.ne_of_lt (blk_lt (g := gb281) (o := .cells #[.slice A0_0 l0_0.length c0_0] 26 (0, 0)) (by (with_reducible repeat (first | refine blk_drewN ?_ _ | refine blk_drew ?_ | refine blk_alloc ?_ _)); exact BK281.out)) : gb281 ≠ gb293)); have n9_ := aM ((by rw [hg]; exact Nat.ne_of_gt (blk_lt (g := gb281) (o := .cells #[.slice A0_0 l0_0.length c0_0] 26 (0, 0)) (by (with_reducible repeat (first | refine blk_drewN ?_ _ | refine blk_drew ?_ | refine blk_alloc ?_ _)); exact BK281.out)) : gb293 ≠ gb281)); clear HO_4; clear HO_5; clear HO291; clear BK281; clear HB; have HO_4 := n0_; have HO_5 := n1_; have HO291 := n2_; have BK281 := n3_; have HB := n4_; have BK293 := n5_; have GW293 := n6_; have GE293 := n7_; have NB281_293 := n8_; have NB293_281 := n9_; clear n0_ n1_ n2_ n3_ n4_ n5_ n6_ n7_ n8_ n9_; clear hb hbox hg; obtain ⟨Ao74, co74, eo74⟩ := Kd.R_slice HO291.out; subst eo74; have hnb75 := NB293_281.out; have hnc75 := NB281_293.out; have hcz76_0 : w73.cell? ⟨gb293, 0, none⟩ = some (.slice none 0 0) := (blk_cell BK293.out 0).trans rfl; have hfz76_0 := blk_frozen BK293.out 0))
        go_ret2
        exact ⟨_, by first | rfl | (simp [errW_none, errW_some] <;> rfl) | (simp [*, errW_none, errW_some] <;> rfl), by (with_reducible repeat (first | apply Kd.R_alloc | apply Kd.R_drewN | apply Kd.R_drew)); exact Kd.R_mono (Kd.R_far (p := ⟨gb293, 0, none⟩) (Kd.R_types HO_5.out BK293.out (by decide)) (fun _ hk => hk.2) (.slice Ao74 t289.length co74)) (fun _ hk => trivial), by repeat (first | (with_reducible first | exact HB.out | apply below_alloc | apply pw_below_drewN | apply below_drew1 | refine below_set ?_ GE281.out | refine below_set ?_ GE293.out) | exact HB.out)⟩
   ·
    rw [if_neg c5] at H
    exact absurd H (by simp)
  ·
   rw [if_neg c4] at H
   exact absurd H (by simp)
 ·
  replace c3 := Bool.eq_false_iff.mpr c3
  subst c3
  have H1 : (some (([] : List ByteArray), false)) = some (r1, r2) := by rw [if_neg (show ¬ (false = true) by decide)] at H; exact H
  clear H
  have H := H1
  clear H1
  simp only [Option.some.injEq, Prod.mk.injEq] at H
  obtain ⟨rfl, rfl⟩ := H
  go_enter Try.func54, Try.ntmps54
  go_wp2_with (first | ((with_reducible refine gate_dst (N := 1) rfl ?_); (try (refine gate_guard (by rfl) ?_; dsimp only)); refine box_event ?hg (N := 1) ?hd (cs := #[.slice A0_0 l0_0.length c0_0]) (t := 26) ?hr ?_; (case hd => rfl); (case hg => rfl); (case hr => first | (go_simp; done) | (go_simp; rfl)); intro gb281 hg w77 hbox hb; have n0_ := aM (below_step (by repeat (first | (with_reducible first | exact HB.out | apply below_alloc | apply pw_below_drewN | apply below_drew1) | exact HB.out)) hb); have n1_ := aM (hbox); have n2_ := aM ((by rw [hg]; exact (below_size (by repeat (first | (with_reducible first | exact HB.out | apply below_alloc | apply pw_below_drewN | apply below_drew1) | exact HB.out))) : w.heap.size ≤ gb281)); have n3_ := aM ((by rw [hg]; exact (below_size (by repeat (first | (with_reducible first | exact HB.out | apply below_alloc | apply pw_below_drewN | apply below_drew1) | exact HB.out))) : w.heap.size ≤ gb281)); clear HB; have HB := n0_; have BK281 := n1_; have GW281 := n2_; have GE281 := n3_; clear n0_ n1_ n2_ n3_; clear hb hbox hg; have hcz78_0 : w77.cell? ⟨gb281, 0, none⟩ = some (.slice A0_0 l0_0.length c0_0) := (blk_cell BK281.out 0).trans rfl; have hfz78_0 := blk_frozen BK281.out 0) | ((with_reducible refine gate_callee (f := 78) rfl ?_); refine goesL_ (some 13) rfl rfl Try.func78 (by kernel_rfl) rfl #[.int .i64 (l0_0.length : Int), .int .i64 1, .int .i64 81] rfl (by (try simp only [List.map_toArray, List.map_cons, List.map_nil]); first | done | rfl | (simp only [List.length_drop, List.length_take]; rfl)) ?_; (with_reducible refine (impl_within.calls (l0_0.length : Int) 1 81 false _ A2.out).mono ?_); rintro e w' ⟨rfl, ⟨nd, rfl⟩⟩; refine ⟨_, rfl, ?_⟩))
  go_ret2
  exact ⟨_, by first | rfl | (simp [errW_none, errW_some] <;> rfl) | (simp [*, errW_none, errW_some] <;> rfl), by first | exact Kd.R_nil _ _ _ _ _ | exact Kd.N_nil _ _ _ _ _ | exact Kd.V_nil _ _ _ _ _ | exact Kd.Q_nil _ _ _ _ _ | exact Kd.S_nil _ _ _ _ _, by repeat (first | (with_reducible first | exact HB.out | apply below_alloc | apply pw_below_drewN | apply below_drew1 | refine below_set ?_ GE281.out) | exact HB.out)⟩

end Go.Proofs.Ytcngebfcpobnnaa.PQ
end

section
namespace Go.Proofs.Ytcngebfcpobnnaa.Rx
set_option linter.unusedVariables false
set_option linter.unusedSimpArgs false
open Go.RowKit Go.Proofs.Ytcngebfcpobnnaa.PQ Go.Proofs.YtcngebfcpobnnaaW.PrintWords Go.Proofs.YtcngebfcpobnnaaW.PrintLast Go.Proofs.Ytcngebfcpobnnaa.Pre Go.Proofs.Ytcngebfcpobnnaa.CmpL Go.Proofs.Ytcngebfcpobnnaa.Com Go.Proofs.Ytcngebfcpobnnaa.Sml Go.Proofs.Ytcngebfcpobnnaa.SrE
/-- The texts and names behind the first edges. -/
def s0 (r : List Eg) : List ByteArray × List ByteArray := ([⟨#[]⟩], if (r.getD 0 root).f1 = true then [⟨#[]⟩] else [])
def st (r : List Eg) (i : Nat) : List ByteArray × List ByteArray := run ((r.drop 1).take i) (s0 r)
theorem st_succ (r : List Eg) (i : Nat) (h : i + 1 < r.length) : st r (i + 1) = next (st r i) r[i + 1] := by
 unfold st
 have h2 : i < (r.drop 1).length := by rw [List.length_drop]; omega
 rw [List.take_succ_eq_append_getElem h2, run_app]
 have e : (r.drop 1)[i] = r[i + 1] := by rw [List.getElem_drop]; simp only [Nat.add_comm 1]
 rw [e]
 rfl
theorem st_len (r : List Eg) (i : Nat) (h : i < r.length) : (st r i).1.length = i + 1 := by
 unfold st
 rw [run_len, List.length_take, List.length_drop]
 show 1 + _ = _
 omega
theorem st_names (r : List Eg) : ∀ i, i < r.length → (st r i).2.length ≤ i + 1
 | 0, _ => by
  show (if _ then _ else _ : List ByteArray).length ≤ 1
  split <;> simp
 | i + 1, h => by
  have ih := st_names r i (by omega)
  rw [st_succ r i h]
  unfold next
  dsimp only
  split
  ·
   rw [List.length_append, List.length_singleton]
   omega
  ·
   omega
theorem st_sub (r : List Eg) : ∀ i, i < r.length → ∀ n ∈ (st r i).2, n ∈ (st r i).1
 | 0, _, n, hn => by
  have hn : n ∈ (if (r.getD 0 root).f1 = true then [⟨#[]⟩] else [] : List ByteArray) := hn
  split at hn
  ·
   exact hn
  ·
   cases hn
 | i + 1, h, n, hn => by
  have ih := st_sub r i (by omega)
  rw [st_succ r i h] at hn ⊢
  unfold next at hn ⊢
  dsimp only at hn ⊢
  rw [List.mem_append]
  split at hn
  ·
   rcases List.mem_append.1 hn with hn | hn
   ·
    exact .inl (ih n hn)
   ·
    exact .inr hn
  ·
   exact .inl (ih n hn)
/-- What the program asks of an edge. -/
def Chk (r : List Eg) (j : Nat) (e : Eg) : Prop := 0 ≤ e.f2 ∧ e.f2 ≤ (j : Int) - 1 ∧ e.f0.size ≤ 20 ∧ ((st r (j - 1)).1.getD e.f2.toNat ⟨#[]⟩ ++ e.f0).size ≤ 20
theorem within_ev (a b c : Int) : impl_within.f a b c = some (decide (b ≤ a ∧ a ≤ c)) := by
 unfold impl_within.f
 by_cases h : a ≥ b
 ·
  rw [if_pos h]
  simp [show b ≤ a from h]
 ·
  rw [if_neg h]
  simp [show ¬ b ≤ a from h]
theorem in_ev (a b c : Int) : spec_l1In.f a b c = some (decide (b ≤ a ∧ a ≤ c)) := by
 unfold spec_l1In.f
 by_cases h : a ≥ b
 ·
  rw [if_pos h]
  simp [show b ≤ a from h]
 ·
  rw [if_neg h]
  simp [show ¬ b ≤ a from h]
theorem edge_eq (x y : Eg) : (!((x.f0.toList) == (y.f0.toList)) || (!(x.f1 == y.f1) || (!(x.f2 == y.f2)))) = false ↔ x = y := by
 obtain ⟨a, b, c⟩ := x
 obtain ⟨a', b', c'⟩ := y
 simp only [Bool.or_eq_false_iff, Bool.not_eq_false', beq_iff_eq]
 constructor
 ·
  rintro ⟨h1, h2, h3⟩
  rw [Byt.toList_inj h1, h2, h3]
 ·
  intro h
  injection h with h1 h2 h3
  exact ⟨by rw [h1], h2, h3⟩
theorem equal_ev (a b : List Eg) (hl : a.length ≤ 1048576) : ∃ c, Evt (fun k => impl_Edge_79.f k a b) c ∧ (c = true ↔ a = b) := by
 unfold impl_Edge_79.f
 by_cases hn : a.length = b.length
 ·
  have key : ∀ (m i : Nat), i + m = a.length → a.take i = b.take i → ∃ c, Evt (fun k => impl_Edge_79.l0 k a b (a.length : Int) (i : Int)) c ∧ (c = true ↔ a = b) := by
   intro m
   induction m with
   | zero =>
    intro i hi ht
    refine ⟨true, Evt.step (fun k => impl_Edge_79.l0.eq_2 _ _ _ _ k) (Evt.neg (by omega) (Evt.const _)), fun _ => ?_, fun _ => rfl⟩
    rw [List.take_of_length_le (by omega), List.take_of_length_le (by omega)] at ht
    exact ht
   | succ m ih =>
    intro i hi ht
    by_cases he : a[i]'(by omega) = b[i]'(by omega)
    ·
     obtain ⟨c, h1, h2⟩ := ih (i + 1) (by omega) (by rw [List.take_succ_eq_append_getElem (by omega), List.take_succ_eq_append_getElem (by omega), ht, he])
     refine ⟨c, Evt.step (fun k => impl_Edge_79.l0.eq_2 _ _ _ _ k) (Evt.pos (by omega) (Evt.pos (by omega) (Evt.pos (by omega) (Evt.pos (by omega) ?_)))), h2⟩
     rw [rd_eg a i (by omega), rd_eg b i (by omega), w64 (n := (i : Int) + 1) (by omega) (by omega)]
     exact Evt.neg (by rw [(edge_eq _ _).2 he]; decide) h1
    ·
     refine ⟨false, Evt.step (fun k => impl_Edge_79.l0.eq_2 _ _ _ _ k) (Evt.pos (by omega) (Evt.pos (by omega) (Evt.pos (by omega) (Evt.pos (by omega) ?_)))), (fun h => by cases h), fun e => ?_⟩
     ·
      rw [rd_eg a i (by omega), rd_eg b i (by omega)]
      exact Evt.pos (by
       cases h : (!((a[i].f0.toList) == (b[i].f0.toList)) || (!(a[i].f1 == b[i].f1) || (!(a[i].f2 == b[i].f2)))) with
       | true => rfl
       | false => exact absurd ((edge_eq _ _).1 h) he) (Evt.const _)
     ·
      subst e
      exact absurd rfl he
  obtain ⟨c, h1, h2⟩ := key a.length 0 (by omega) rfl
  exact ⟨c, Evt.pos (by omega) h1, h2⟩
 ·
  exact ⟨false, Evt.neg (by omega) (Evt.const _), (fun h => by cases h), fun e => absurd (by rw [e]) hn⟩
/-- A name's list that is told: it is that of the tree. -/
def Tells (N : List ByteArray) (r : List Eg) : Prop := (ansRad N).2 = true ∧ (ansRad N).1 = r
theorem impl_end (r : List Eg) (N : List ByteArray) (hN : N.length ≤ 1048576 ∧ ∀ s ∈ N, s.size ≤ 1048576) :
  ∃ b, Evt (fun k => (impl_RadixOf.f N).bind fun bt513 => (if bt513.2 = true then ((impl_Edge_79.f k bt513.1 r).bind fun t518 => (some (N, t518))) else (some (N, false)))) (N, b) ∧ (b = true ↔ Tells N r) := by
 have hI : impl_RadixOf.f N = some (ansRad N) := if_pos hN
 rw [hI]
 have hl := ansRad_len N
 unfold Tells
 by_cases h : (ansRad N).2 = true
 ·
  obtain ⟨c, h1, h2⟩ := equal_ev (ansRad N).1 r (by omega)
  exact ⟨c, Evt.bsome (Evt.pos h (Evt.bind h1 (Evt.const _))), h2.trans ⟨fun e => ⟨h, e⟩, fun e => e.2⟩⟩
 ·
  exact ⟨false, Evt.bsome (Evt.neg h (Evt.const _)), (fun h => by cases h), fun e => absurd e.1 h⟩
theorem getD_app {α : Type} (a b : List α) (i : Nat) (d : α) (h : i < a.length) : (a ++ b).getD i d = a.getD i d := by
 rw [List.getD_eq_getElem?_getD, List.getElem?_append_left h, ← List.getD_eq_getElem?_getD]
theorem rd_getD (l : List ByteArray) (i : Int) (h : 0 ≤ i) : rdOf ByteArray.empty l i = l.getD i.toNat ByteArray.empty := rfl
theorem set_fill (T : List ByteArray) (m : Nat) (t z : ByteArray) : (T ++ List.replicate (m + 1) z).set T.length t = (T ++ [t]) ++ List.replicate m z := by
 rw [List.set_append_right _ _ (Nat.le_refl _), Nat.sub_self, List.replicate_succ, List.append_assoc]
 rfl
/-- The program's way along the edges. -/
theorem impl_loop (r : List Eg) (hn : 1 ≤ r.length ∧ r.length ≤ 81) (hz : ∀ e ∈ r, e.f0.size ≤ 1048576) : ∀ (m i : Nat), i + 1 + m = r.length → (∀ t ∈ (st r i).1, t.size ≤ 20) →
  ∃ x b, Evt (fun k => impl_namesOf.l0 k ((st r i).1 ++ List.replicate m (⟨#[]⟩ : ByteArray)) (st r i).2 r (r.length : Int) ((i + 1 : Nat) : Int) r) (x, b) ∧
   ((b = false ∧ x.length ≤ 81 ∧ ∃ j, ∃ h : j < r.length, i + 1 ≤ j ∧ ¬ Chk r j r[j]) ∨ (x = (st r (r.length - 1)).2 ∧ (b = true ↔ Tells x r) ∧ ∀ j, ∀ h : j < r.length, i + 1 ≤ j → Chk r j r[j])) := by
 intro m
 induction m with
 | zero =>
  intro i hi ht
  have e : r.length - 1 = i := by omega
  have hs := st_names r i (by omega)
  obtain ⟨b, h1, h2⟩ := impl_end r (st r i).2 ⟨by omega, fun s hs => by have := ht s (st_sub r i (by omega) s hs); omega⟩
  exact ⟨_, b, Evt.step (fun k => impl_namesOf.l0.eq_2 _ _ _ _ _ _ k) (Evt.neg (by omega) h1), .inr ⟨by rw [e], h2, fun j h hj => by omega⟩⟩
 | succ m ih =>
  intro i hi ht
  have hlt : i + 1 < r.length := by omega
  have hl := st_len r i (by omega)
  have hs := st_names r i (by omega)
  have hss := st_succ r i hlt
  have hze := hz _ (List.getElem_mem hlt)
  have hgo : ∀ x b, Evt (fun k => (impl_within.f (r[i + 1].f2) 0 ((i : Nat) : Int)).bind fun t521 => (if t521 = true then (if ((r[i + 1].f0).size : Int) > 20 then (some (([] : List ByteArray), false)) else (if 0 ≤ (r[i + 1].f2) then (if (r[i + 1].f2) < (((st r i).1 ++ List.replicate (m + 1) (⟨#[]⟩ : ByteArray)).length : Int) then (if (rdOf ByteArray.empty ((st r i).1 ++ List.replicate (m + 1) (⟨#[]⟩ : ByteArray)) (r[i + 1].f2)).size + (r[i + 1].f0).size ≤ 9223372036854775807 then (if ((i + 1 : Nat) : Int) < (((st r i).1 ++ List.replicate (m + 1) (⟨#[]⟩ : ByteArray)).length : Int) then (impl_namesOf.j1 k (((st r i).1 ++ List.replicate (m + 1) (⟨#[]⟩ : ByteArray)).set (i + 1) ((rdOf ByteArray.empty ((st r i).1 ++ List.replicate (m + 1) (⟨#[]⟩ : ByteArray)) (r[i + 1].f2)) ++ (r[i + 1].f0))) (st r i).2 ((i + 1 : Nat) : Int) r (r.length : Int) ((i + 1 : Nat) : Int) r (r[i + 1].f0) (r[i + 1].f1) (r[i + 1].f2)) else (none)) else (none)) else (none)) else (none))) else (some (([] : List ByteArray), false)))) (x, b) →
    Evt (fun k => impl_namesOf.l0 k ((st r i).1 ++ List.replicate (m + 1) (⟨#[]⟩ : ByteArray)) (st r i).2 r (r.length : Int) ((i + 1 : Nat) : Int) r) (x, b) := fun x b h => by
   refine Evt.step (fun k => impl_namesOf.l0.eq_2 _ _ _ _ _ _ k) (Evt.pos (by omega) (Evt.pos (by omega) (Evt.pos (by omega) (Evt.pos (by omega) ?_))))
   rw [rd_eg r (i + 1) hlt, w64 (n := ((i + 1 : Nat) : Int) - 1) (by omega) (by omega), show ((i + 1 : Nat) : Int) - 1 = (i : Int) by omega]
   simp only [Int.toNat_natCast]
   exact h
  generalize hE : r[i + 1] = e at *
  by_cases hu : 0 ≤ e.f2 ∧ e.f2 ≤ (i : Int)
  ·
   by_cases h20 : e.f0.size ≤ 20
   ·
    obtain ⟨u, hu2⟩ := Int.eq_ofNat_of_zero_le hu.1
    have hul : u < (st r i).1.length := by omega
    have e1 : rdOf ByteArray.empty ((st r i).1 ++ List.replicate (m + 1) (⟨#[]⟩ : ByteArray)) e.f2 = (st r i).1.getD e.f2.toNat ⟨#[]⟩ := by
     rw [rd_getD _ _ hu.1, hu2, Int.toNat_natCast, getD_app _ _ _ _ hul]
     rfl
    obtain ⟨t, htt⟩ : ∃ t, t = (st r i).1.getD e.f2.toNat ⟨#[]⟩ ++ e.f0 := ⟨_, rfl⟩
    have hpz : ((st r i).1.getD e.f2.toNat ⟨#[]⟩).size ≤ 20 := by
     rw [hu2, Int.toNat_natCast, List.getD_eq_getElem?_getD, List.getElem?_eq_getElem hul]
     exact ht _ (List.getElem_mem hul)
    have hset : ((st r i).1 ++ List.replicate (m + 1) (⟨#[]⟩ : ByteArray)).set (i + 1) t = ((st r i).1 ++ [t]) ++ List.replicate m (⟨#[]⟩ : ByteArray) := by
     have := set_fill (st r i).1 m t ⟨#[]⟩
     rw [hl] at this
     exact this
    have hrt : rdOf ByteArray.empty (((st r i).1 ++ [t]) ++ List.replicate m (⟨#[]⟩ : ByteArray)) ((i + 1 : Nat) : Int) = t := by
     rw [rd_getD _ _ (by omega), Int.toNat_natCast, List.getD_eq_getElem?_getD, List.append_assoc, List.getElem?_append_right (by omega), hl, Nat.sub_self]
     rfl
    have hll : (((st r i).1 ++ [t]) ++ List.replicate m (⟨#[]⟩ : ByteArray)).length = r.length := by simp; omega
    have hpre : ∀ x b, Evt (fun k => impl_namesOf.j1 k (((st r i).1 ++ [t]) ++ List.replicate m (⟨#[]⟩ : ByteArray)) (st r i).2 ((i + 1 : Nat) : Int) r (r.length : Int) ((i + 1 : Nat) : Int) r e.f0 e.f1 e.f2) (x, b) →
      Evt (fun k => impl_namesOf.l0 k ((st r i).1 ++ List.replicate (m + 1) (⟨#[]⟩ : ByteArray)) (st r i).2 r (r.length : Int) ((i + 1 : Nat) : Int) r) (x, b) := fun x b h => by
     refine hgo x b ?_
     rw [within_ev, decide_eq_true hu, e1, ← htt, hset]
     exact Evt.bsome (Evt.pos rfl (Evt.neg (by omega) (Evt.pos hu.1 (Evt.pos (by simp; omega) (Evt.pos (by omega) (Evt.pos (by simp; omega) h))))))
    by_cases ht20 : t.size ≤ 20
    ·
     have hsn : st r (i + 1) = ((st r i).1 ++ [t], if e.f1 = true then (st r i).2 ++ [t] else (st r i).2) := by
      rw [hss, htt]
      rfl
     obtain ⟨x, b, h1, h2⟩ := ih (i + 1) (by omega) (by
      rw [hsn]
      intro y hy
      rcases List.mem_append.1 hy with hy | hy
      ·
       exact ht y hy
      ·
       rw [List.mem_singleton.1 hy]
       exact ht20)
     rw [hsn] at h1
     have hchk : Chk r (i + 1) e := ⟨hu.1, by omega, h20, by rw [Nat.add_sub_cancel, ← htt]; exact ht20⟩
     refine ⟨x, b, hpre x b (Evt.step (fun k => impl_namesOf.j1.eq_2 _ _ _ _ _ _ _ _ _ _ k) ?_), ?_⟩
     ·
      rw [hrt, w64 (n := ((i + 1 : Nat) : Int) + 1) (by omega) (by omega)]
      by_cases hf : e.f1 = true
      ·
       rw [if_pos hf] at h1
       exact Evt.pos hf (Evt.pos (by omega) (Evt.pos (by omega) (Evt.pos (by omega) (Evt.neg (by omega) h1))))
      ·
       rw [if_neg hf] at h1
       exact Evt.neg hf (Evt.pos (by omega) (Evt.pos (by omega) (Evt.neg (by omega) h1)))
     ·
      rcases h2 with ⟨q1, q2, j, hj, q3, q4⟩ | ⟨q1, q2, q3⟩
      ·
       exact .inl ⟨q1, q2, j, hj, by omega, q4⟩
      ·
       refine .inr ⟨q1, q2, fun j hj hij => ?_⟩
       by_cases ej : j = i + 1
       ·
        subst ej
        rw [hE]
        exact hchk
       ·
        exact q3 j hj (by omega)
    ·
     refine ⟨[], false, hpre _ _ (Evt.step (fun k => impl_namesOf.j1.eq_2 _ _ _ _ _ _ _ _ _ _ k) ?_), .inl ⟨rfl, Nat.zero_le _, i + 1, hlt, Nat.le_refl _, fun h => ?_⟩⟩
     ·
      rw [hrt]
      by_cases hf : e.f1 = true
      ·
       exact Evt.pos hf (Evt.pos (by omega) (Evt.pos (by omega) (Evt.pos (by omega) (Evt.pos (by omega) (Evt.const _)))))
      ·
       exact Evt.neg hf (Evt.pos (by omega) (Evt.pos (by omega) (Evt.pos (by omega) (Evt.const _))))
     ·
      rw [hE] at h
      have := h.2.2.2
      rw [Nat.add_sub_cancel, ← htt] at this
      exact ht20 this
   ·
    refine ⟨[], false, hgo _ _ ?_, .inl ⟨rfl, Nat.zero_le _, i + 1, hlt, Nat.le_refl _, fun h => ?_⟩⟩
    ·
     rw [within_ev, decide_eq_true hu]
     exact Evt.bsome (Evt.pos rfl (Evt.pos (by omega) (Evt.const _)))
    ·
     rw [hE] at h
     exact h20 h.2.2.1
  ·
   refine ⟨[], false, hgo _ _ ?_, .inl ⟨rfl, Nat.zero_le _, i + 1, hlt, Nat.le_refl _, fun h => ?_⟩⟩
   ·
    rw [within_ev, decide_eq_false hu]
    exact Evt.bsome (Evt.neg (by decide) (Evt.const _))
   ·
    rw [hE] at h
    exact hu ⟨h.1, by have := h.2.1; omega⟩
theorem impl_all (r : List Eg) (hl : r.length ≤ 1048576) (hz : ∀ e ∈ r, e.f0.size ≤ 1048576) : ∃ x b, Evt (fun k => impl_namesOf.f k r) (x, b) ∧ x.length ≤ 81 ∧
  (b = true → (1 ≤ r.length ∧ r.length ≤ 81) ∧ x = (st r (r.length - 1)).2 ∧ Tells x r) ∧
  ((1 ≤ r.length ∧ r.length ≤ 81) → (∀ j, ∀ h : j < r.length, 1 ≤ j → Chk r j r[j]) → x = (st r (r.length - 1)).2 ∧ (b = true ↔ Tells x r)) := by
 unfold impl_namesOf.f
 rw [within_ev]
 by_cases hn : 1 ≤ r.length ∧ r.length ≤ 81
 ·
  obtain ⟨x, b, h1, h2⟩ := impl_loop r hn hz (r.length - 1) 0 (by omega) (fun t ht => by
   have ht : t ∈ [(⟨#[]⟩ : ByteArray)] := ht
   rw [List.mem_singleton.1 ht]
   exact Nat.zero_le _)
  have hx : x.length ≤ 81 := by
   rcases h2 with ⟨_, h, _⟩ | ⟨h, _, _⟩
   ·
    exact h
   ·
    rw [h]
    have := st_names r (r.length - 1) (by omega)
    omega
  refine ⟨x, b, ?_, hx, fun hb => ?_, fun _ hc => ?_⟩
  ·
   rw [decide_eq_true (by omega)]
   refine Evt.bsome (Evt.pos rfl (Evt.pos (by omega) (Evt.pos (by omega) ?_)))
   have h0 : 0 < r.length := by omega
   have e0 : r.getD 0 root = r[0] := by rw [List.getD_eq_getElem?_getD, List.getElem?_eq_getElem h0]; rfl
   have er : List.replicate ((r.length : Int)).toNat (⟨#[]⟩ : ByteArray) = [(⟨#[]⟩ : ByteArray)] ++ List.replicate (r.length - 1) (⟨#[]⟩ : ByteArray) := by
    rw [Int.toNat_natCast]
    conv => lhs; rw [show r.length = (r.length - 1) + 1 by omega, List.replicate_succ]
    rfl
   rw [er]
   refine Evt.step (fun k => impl_namesOf.l0.eq_2 _ _ _ _ _ _ k) (Evt.pos (by omega) (Evt.pos (by omega) (Evt.pos (by omega) (Evt.neg (by omega) ?_))))
   have e1 : rd_T64 r 0 = r[0] := rd_eg r 0 h0
   rw [e1]
   have h1 : Evt (fun k => impl_namesOf.l0 k ([(⟨#[]⟩ : ByteArray)] ++ List.replicate (r.length - 1) (⟨#[]⟩ : ByteArray)) (if (r.getD 0 root).f1 = true then [(⟨#[]⟩ : ByteArray)] else []) r (r.length : Int) 1 r) (x, b) := h1
   rw [e0] at h1
   have ew : wrap64 (0 + 1) = 1 := by rw [w64 (by omega) (by omega)]; rfl
   have e2 : rdOf ByteArray.empty ([(⟨#[]⟩ : ByteArray)] ++ List.replicate (r.length - 1) (⟨#[]⟩ : ByteArray)) 0 = (⟨#[]⟩ : ByteArray) := rfl
   refine Evt.step (fun k => impl_namesOf.j1.eq_2 _ _ _ _ _ _ _ _ _ _ k) ?_
   rw [e2, ew]
   by_cases hf : (r[0]).f1 = true
   ·
    rw [if_pos hf] at h1
    exact Evt.pos hf (Evt.pos (by omega) (Evt.pos (by simp) (Evt.pos (by simp) (Evt.neg (by show ¬ ((0 : Nat) : Int) > 20; omega) h1))))
   ·
    rw [if_neg hf] at h1
    exact Evt.neg hf (Evt.pos (by omega) (Evt.pos (by simp) (Evt.neg (by show ¬ ((0 : Nat) : Int) > 20; omega) h1)))
  ·
   rcases h2 with ⟨h, _⟩ | ⟨h, h3, _⟩
   ·
    rw [hb] at h
    cases h
   ·
    exact ⟨hn, h, h3.1 hb⟩
  ·
   rcases h2 with ⟨_, _, j, hj, h3, h4⟩ | ⟨h, h3, _⟩
   ·
    exact absurd (hc j hj (by omega)) h4
   ·
    exact ⟨h, h3⟩
 ·
  rw [decide_eq_false (by omega)]
  exact ⟨[], false, Evt.bsome (Evt.neg (by decide) (Evt.const _)), Nat.zero_le _, (fun h => by cases h), fun h => absurd h hn⟩
theorem st_mono (r : List Eg) (i : Nat) : ∀ m, i + m < r.length → ∀ t ∈ (st r i).1, t ∈ (st r (i + m)).1
 | 0, _, t, h => h
 | m + 1, hm, t, h => by
  have ih := st_mono r i m (by omega) t h
  rw [show i + (m + 1) = (i + m) + 1 by omega, st_succ r (i + m) (by omega)]
  exact List.mem_append_left _ ih
theorem srt_self {L : List ByteArray} (h : Names L) : srt L = L :=
 rise_unique (srt_perm L) (srt_rise (h.rise.imp (fun h e => by rw [e, ltS_irrefl] at h; cases h))) h.rise
theorem names_nodup {L : List ByteArray} (h : Names L) : L.Nodup := h.rise.imp (fun h e => by rw [e, ltS_irrefl] at h; cases h)
theorem names_any {L : List ByteArray} (h : Names L) : L.any notN = false := by
 rw [List.any_eq_false]
 intro n hn
 unfold notN
 rw [h.each n hn]
 decide
theorem tells_self {L : List ByteArray} (h : Names L) (h40 : L.length ≤ 40) : Tells L (tree L) := by
 unfold Tells ansRad
 rw [if_pos ⟨h40, names_any h, names_nodup h⟩, srt_self h]
 exact ⟨rfl, rfl⟩
theorem tells_tree {N : List ByteArray} {r : List Eg} (h : Tells N r) : Names (srt N) ∧ (srt N).length ≤ 40 ∧ tree (srt N) = r := by
 unfold Tells ansRad at h
 split at h
 ·
  rename_i hc
  exact ⟨names_srt hc.2.1 hc.2.2, by rw [srt_len]; exact hc.1, h.2⟩
 ·
  cases h.1
/-- What a tree of names is like. -/
theorem tree_facts {L : List ByteArray} (h : Names L) : (st (tree L) ((tree L).length - 1)).2 = L ∧ (∀ t ∈ (st (tree L) ((tree L).length - 1)).1, t.size ≤ 20) ∧ (tree L)[0]? = some root ∧
  (∀ (j : Nat) (hj : j < (tree L).length), 1 ≤ j → New L 0 0 1 (tree L)[j] (j - 1)) ∧ (tree L).Pairwise (fun x y => x.f2 = y.f2 → bt x.f0 0 ≠ bt y.f0 0 ∨ x.f2 = -1) := by
 obtain ⟨E, h1, ⟨T', h2, h3⟩, h4, h5, _, _, _⟩ := bld_all (Rx.left L 0) L 0 0 [root] [⟨#[]⟩] [] h.ok (Nat.le_refl _) rfl (by simp) (fun n hn => by
  apply Byt.bytesOf_inj
  rw [Byt.bytesOf_take]
  rfl)
 have ht : tree L = root :: E := h1
 have hst : st (tree L) ((tree L).length - 1) = ([⟨#[]⟩] ++ T', L) := by
  rw [ht]
  unfold st
  show run (E.take (E.length + 1 - 1)) ([⟨#[]⟩], []) = _
  rw [Nat.add_sub_cancel, List.take_length, h2, List.nil_append]
 refine ⟨by rw [hst], fun t htm => ?_, by rw [ht]; rfl, fun j hj h1 => ?_, ?_⟩
 ·
  rw [hst] at htm
  rcases List.mem_append.1 htm with htm | htm
  ·
   rw [List.mem_singleton.1 htm]
   exact Nat.zero_le _
  ·
   obtain ⟨n, hn, hs⟩ := h3 t htm
   have := h.size n hn
   omega
 ·
  obtain ⟨i, rfl⟩ : ∃ i, j = i + 1 := ⟨j - 1, by omega⟩
  have hi : i < E.length := by rw [ht] at hj; simpa using hj
  have e : (tree L)[i + 1] = E[i] := by
   have : (tree L)[i + 1]? = E[i]? := by rw [ht]; rfl
   rw [List.getElem?_eq_getElem hj, List.getElem?_eq_getElem hi] at this
   exact Option.some.inj this
  rw [e]
  exact h4 i hi
 ·
  rw [ht]
  exact List.pairwise_cons.2 ⟨fun x _ _ => .inr rfl, h5.imp (fun h e => .inl (h e))⟩
theorem tree_chk {L : List ByteArray} (h : Names L) : ∀ j, ∀ hj : j < (tree L).length, 1 ≤ j → Chk (tree L) j (tree L)[j] := by
 obtain ⟨h1, h2, h3, h4, h5⟩ := tree_facts h
 intro j hj hj1
 have hn := h4 j hj hj1
 obtain ⟨n, hnm, x, y, q1, q2, q3, q4⟩ := hn.text
 have hu := hn.up0
 have hsn := h.size n hnm
 obtain ⟨i, rfl⟩ : ∃ i, j = i + 1 := ⟨j - 1, by omega⟩
 refine ⟨hu.1, by omega, by rw [q4, ByteArray.size_extract]; omega, h2 _ ?_⟩
 have hm := st_mono (tree L) (i + 1) ((tree L).length - 1 - (i + 1)) (by omega) ((st (tree L) (i + 1 - 1)).1.getD ((tree L)[i + 1]).f2.toNat ⟨#[]⟩ ++ ((tree L)[i + 1]).f0) (by
  rw [st_succ (tree L) i hj, Nat.add_sub_cancel]
  exact List.mem_append_right _ (List.mem_singleton.2 rfl))
 rw [show i + 1 + ((tree L).length - 1 - (i + 1)) = (tree L).length - 1 by omega] at hm
 exact hm
theorem tree_short {L : List ByteArray} (h : Names L) (h40 : L.length ≤ 40) : 1 ≤ (tree L).length ∧ (tree L).length ≤ 81 := by
 have := tree_len h
 omega
theorem tree_text {L : List ByteArray} (h : Names L) : ∀ e ∈ tree L, e.f0.size ≤ 20 := by
 intro e he
 obtain ⟨j, hj, rfl⟩ := List.getElem_of_mem he
 by_cases h0 : j = 0
 ·
  subst h0
  have := (tree_facts h).2.2.1
  rw [List.getElem?_eq_getElem hj] at this
  rw [Option.some.inj this]
  exact Nat.zero_le _
 ·
  exact (tree_chk h j hj (by omega)).2.2.1
/-- The program's names of a tree. -/
theorem impl_names {L : List ByteArray} (h : Names L) (h40 : L.length ≤ 40) : Evt (fun k => impl_namesOf.f k (tree L)) (L, true) := by
 have hs := tree_short h h40
 obtain ⟨x, b, h1, _, _, h2⟩ := impl_all (tree L) (by omega) (fun e he => by have := tree_text h e he; omega)
 obtain ⟨h3, h4⟩ := h2 hs (tree_chk h)
 rw [(tree_facts h).1] at h3
 subst h3
 rw [h4.2 (tells_self h h40)] at h1
 exact h1
/-- What the program says of a tree that is not one of names. -/
theorem impl_other (r : List Eg) (hl : r.length ≤ 1048576) (hz : ∀ e ∈ r, e.f0.size ≤ 1048576) (hno : ∀ L, Names L → L.length ≤ 40 → tree L ≠ r) : ∃ x, Evt (fun k => impl_namesOf.f k r) (x, false) ∧ x.length ≤ 81 := by
 obtain ⟨x, b, h1, h2, h3, _⟩ := impl_all r hl hz
 cases b with
 | false => exact ⟨x, h1, h2⟩
 | true =>
  obtain ⟨_, _, h4⟩ := h3 rfl
  obtain ⟨q1, q2, q3⟩ := tells_tree h4
  exact absurd q3 (hno _ q1 q2)

theorem spec_names (r : List Eg) (hn : 1 ≤ r.length ∧ r.length ≤ 81) (hc : ∀ (j : Nat) (h : j < r.length), 1 ≤ j → 0 ≤ (r[j]).f2 ∧ (r[j]).f2 ≤ (j : Int) - 1 ∧ (r[j]).f0.size ≤ 20) :
  Evt (fun k => spec_l13Names.f k r) (st r (r.length - 1)).2 ∧ ∀ t ∈ (st r (r.length - 1)).1, t.size ≤ 20 * r.length := by
 have hsz : ∀ i, i < r.length → ∀ t ∈ (st r i).1, t.size ≤ 20 * i := by
  intro i
  induction i with
  | zero =>
   intro _ t ht
   have ht : t ∈ [(⟨#[]⟩ : ByteArray)] := ht
   rw [List.mem_singleton.1 ht]
   exact Nat.zero_le _
  | succ i ih =>
   intro h t ht
   have ih := ih (by omega)
   rw [st_succ r i h] at ht
   rcases List.mem_append.1 ht with ht | ht
   ·
    have := ih t ht
    omega
   ·
    rw [List.mem_singleton.1 ht, ByteArray.size_append]
    have h1 := (hc (i + 1) h (by omega)).2.2
    have h2 : ((st r i).1.getD (r[i + 1]).f2.toNat ⟨#[]⟩).size ≤ 20 * i := by
     rw [List.getD_eq_getElem?_getD]
     cases h3 : (st r i).1[(r[i + 1]).f2.toNat]? with
     | none => exact Nat.zero_le _
     | some t' => exact ih t' (List.mem_of_getElem? h3)
    omega
 refine ⟨?_, fun t ht => by have := hsz (r.length - 1) (by omega) t ht; omega⟩
 have key : ∀ (m i : Nat), i + 1 + m = r.length → Evt (fun k => spec_l13Names.l0 k (st r i).2 ((st r i).1 ++ List.replicate m (⟨#[]⟩ : ByteArray)) r (r.length : Int) ((i + 1 : Nat) : Int)) (st r (r.length - 1)).2 := by
  intro m
  induction m with
  | zero =>
   intro i hi
   refine Evt.step (fun k => spec_l13Names.l0.eq_2 _ _ _ _ _ k) (Evt.neg (by omega) ((Evt.const _).eq ?_))
   rw [show r.length - 1 = i by omega]
  | succ m ih =>
   intro i hi
   have hlt : i + 1 < r.length := by omega
   have hl := st_len r i (by omega)
   have hs := st_names r i (by omega)
   have hss := st_succ r i hlt
   have hci := hc (i + 1) hlt (by omega)
   have hr := ih (i + 1) (by omega)
   obtain ⟨u, hu2⟩ := Int.eq_ofNat_of_zero_le hci.1
   have hul : u < (st r i).1.length := by omega
   have e1 : rdOf ByteArray.empty ((st r i).1 ++ List.replicate (m + 1) (⟨#[]⟩ : ByteArray)) (r[i + 1]).f2 = (st r i).1.getD (r[i + 1]).f2.toNat ⟨#[]⟩ := by
    rw [rd_getD _ _ hci.1, hu2, Int.toNat_natCast, getD_app _ _ _ _ hul]
    rfl
   have hpz : ((st r i).1.getD (r[i + 1]).f2.toNat ⟨#[]⟩).size ≤ 20 * i := by
    rw [hu2, Int.toNat_natCast, List.getD_eq_getElem?_getD, List.getElem?_eq_getElem hul]
    exact hsz i (by omega) _ (List.getElem_mem hul)
   have hset := set_fill (st r i).1 m ((st r i).1.getD (r[i + 1]).f2.toNat ⟨#[]⟩ ++ (r[i + 1]).f0) ⟨#[]⟩
   rw [hl] at hset
   refine Evt.step (fun k => spec_l13Names.l0.eq_2 _ _ _ _ _ k) (Evt.pos (by omega) (Evt.pos (by omega) (Evt.pos (by omega) (Evt.pos (by omega) ?_))))
   rw [rd_eg r (i + 1) hlt, e1, w64 (n := ((i + 1 : Nat) : Int) + 1) (by omega) (by omega)]
   refine Evt.pos hci.1 (Evt.pos (by simp; omega) (Evt.pos (by omega) (Evt.pos (by simp; omega) (Evt.bsome ?_))))
   rw [Int.toNat_natCast, hset]
   rw [hss] at hr
   by_cases hf : (r[i + 1]).f1 = true
   ·
    unfold next at hr
    rw [if_pos hf] at hr
    exact Evt.pos hf (Evt.pos (by omega) hr)
   ·
    unfold next at hr
    rw [if_neg hf] at hr
    exact Evt.neg hf hr
 unfold spec_l13Names.f
 refine Evt.pos (by omega) (Evt.pos (by omega) ?_)
 have h0 : 0 < r.length := by omega
 have e0 : r.getD 0 root = r[0] := by rw [List.getD_eq_getElem?_getD, List.getElem?_eq_getElem h0]; rfl
 have er : List.replicate ((r.length : Int)).toNat (⟨#[]⟩ : ByteArray) = [(⟨#[]⟩ : ByteArray)] ++ List.replicate (r.length - 1) (⟨#[]⟩ : ByteArray) := by
  rw [Int.toNat_natCast]
  conv => lhs; rw [show r.length = (r.length - 1) + 1 by omega, List.replicate_succ]
  rfl
 have h1 : Evt (fun k => spec_l13Names.l0 k (if (r.getD 0 root).f1 = true then [(⟨#[]⟩ : ByteArray)] else []) ([(⟨#[]⟩ : ByteArray)] ++ List.replicate (r.length - 1) (⟨#[]⟩ : ByteArray)) r (r.length : Int) 1) (st r (r.length - 1)).2 := key (r.length - 1) 0 (by omega)
 rw [e0] at h1
 have ew : wrap64 (0 + 1) = 1 := by rw [w64 (by omega) (by omega)]; rfl
 have e1 : rd_T64 r 0 = r[0] := rd_eg r 0 h0
 rw [er]
 refine Evt.step (fun k => spec_l13Names.l0.eq_2 _ _ _ _ _ k) (Evt.pos (by omega) (Evt.pos (by omega) (Evt.pos (by omega) (Evt.neg (by omega) ?_))))
 rw [e1, ew]
 by_cases hf : (r[0]).f1 = true
 ·
  rw [if_pos hf] at h1
  exact Evt.pos hf (Evt.pos (by simp) (Evt.pos (by simp) h1))
 ·
  rw [if_neg hf] at h1
  exact Evt.neg hf h1
/-- The reference's look at names that were told. -/
theorem spec_l1 (r : List Eg) (hr : r.length ≤ 81) (N : List ByteArray) (hN : N.length ≤ 81 ∧ ∀ s ∈ N, s.size ≤ 1048576) : ∃ y b, Evt (fun k => spec_l13Good.l1 k (r.length : Int) N N (N.length : Int) 0 r) (y, b) ∧ (b = false → y = []) ∧
  (b = true → y = N ∧ Names N ∧ N.length ≤ 40 ∧ tree N = r) ∧ (Names N → N.length ≤ 40 → tree N = r → b = true) := by
 have hend : Names N → ∃ y b, Evt (fun k => if (N.length : Int) > 40 then (some (([] : List ByteArray), false)) else ((spec_l13Radix.f k N).bind fun t449 => (if (t449.length : Int) = (r.length : Int) then (spec_l13Good.l2 k N (t449.length : Int) 0 r t449) else (some (([] : List ByteArray), false))))) (y, b) ∧ (b = false → y = []) ∧ (b = true → y = N ∧ Names N ∧ N.length ≤ 40 ∧ tree N = r) ∧ (Names N → N.length ≤ 40 → tree N = r → b = true) := fun hNm => by
  by_cases h40 : N.length ≤ 40
  ·
   have ht := tree_short hNm h40
   by_cases hl : (tree N).length = r.length
   ·
    have key : ∀ (m i : Nat), i + m = (tree N).length → (tree N).take i = r.take i → ∃ y b, Evt (fun k => spec_l13Good.l2 k N ((tree N).length : Int) (i : Int) r (tree N)) (y, b) ∧ (b = false → y = []) ∧ (b = true → y = N ∧ Names N ∧ N.length ≤ 40 ∧ tree N = r) ∧ (Names N → N.length ≤ 40 → tree N = r → b = true) := by
     intro m
     induction m with
     | zero =>
      intro i hi htk
      rw [List.take_of_length_le (by omega), List.take_of_length_le (by omega)] at htk
      exact ⟨N, true, Evt.step (fun k => spec_l13Good.l2.eq_2 _ _ _ _ _ k) (Evt.neg (by omega) (Evt.const _)), (fun h => by cases h), fun _ => ⟨rfl, hNm, h40, htk⟩, fun _ _ _ => rfl⟩
     | succ m ih =>
      intro i hi htk
      by_cases he : (tree N)[i]'(by omega) = r[i]'(by omega)
      ·
       obtain ⟨y, b, h1, h2⟩ := ih (i + 1) (by omega) (by rw [List.take_succ_eq_append_getElem (by omega), List.take_succ_eq_append_getElem (by omega), htk, he])
       refine ⟨y, b, Evt.step (fun k => spec_l13Good.l2.eq_2 _ _ _ _ _ k) (Evt.pos (by omega) (Evt.pos (by omega) (Evt.pos (by omega) (Evt.pos (by omega) ?_)))), h2⟩
       rw [rd_eg (tree N) i (by omega), rd_eg r i (by omega), w64 (n := (i : Int) + 1) (by omega) (by omega)]
       exact Evt.neg (by rw [(edge_eq _ _).2 he]; decide) h1
      ·
       refine ⟨[], false, Evt.step (fun k => spec_l13Good.l2.eq_2 _ _ _ _ _ k) (Evt.pos (by omega) (Evt.pos (by omega) (Evt.pos (by omega) (Evt.pos (by omega) ?_)))), fun _ => rfl, (fun h => by cases h), fun _ _ e => ?_⟩
       ·
        rw [rd_eg (tree N) i (by omega), rd_eg r i (by omega)]
        exact Evt.pos (by
         cases h : (!(((tree N)[i].f0.toList) == (r[i].f0.toList)) || (!((tree N)[i].f1 == r[i].f1) || (!((tree N)[i].f2 == r[i].f2)))) with
         | true => rfl
         | false => exact absurd ((edge_eq _ _).1 h) he) (Evt.const _)
       ·
        exfalso
        apply he
        simp only [e]
    obtain ⟨y, b, h1, h2⟩ := key (tree N).length 0 (by omega) rfl
    exact ⟨y, b, Evt.neg (by omega) (Evt.bind (spec_tree hNm (by omega)) (Evt.pos (by omega) h1)), h2⟩
   ·
    exact ⟨[], false, Evt.neg (by omega) (Evt.bind (spec_tree hNm (by omega)) (Evt.neg (by omega) (Evt.const _))), fun _ => rfl, (fun h => by cases h), fun _ _ e => absurd (by rw [e]) hl⟩
  ·
   exact ⟨[], false, Evt.pos (by omega) (Evt.const _), fun _ => rfl, (fun h => by cases h), fun _ h _ => absurd h h40⟩
 have key : ∀ (m i : Nat), i + m = N.length → Names (N.take i) → ∃ y b, Evt (fun k => spec_l13Good.l1 k (r.length : Int) N N (N.length : Int) (i : Int) r) (y, b) ∧ (b = false → y = []) ∧ (b = true → y = N ∧ Names N ∧ N.length ≤ 40 ∧ tree N = r) ∧ (Names N → N.length ≤ 40 → tree N = r → b = true) := by
  intro m
  induction m with
  | zero =>
   intro i hi hNm
   rw [List.take_of_length_le (by omega)] at hNm
   obtain ⟨y, b, h1, h2⟩ := hend hNm
   exact ⟨y, b, Evt.step (fun k => spec_l13Good.l1.eq_2 _ _ _ _ _ _ k) (Evt.neg (by omega) h1), h2⟩
  | succ m ih =>
   intro i hi hNm
   have hlt : i < N.length := by omega
   have hsz := hN.2 _ (List.getElem_mem hlt)
   have bad : ∀ (h : ¬ Names N), Evt (fun k => spec_l13Good.l1 k (r.length : Int) N N (N.length : Int) (i : Int) r) ([], false) → ∃ y b, Evt (fun k => spec_l13Good.l1 k (r.length : Int) N N (N.length : Int) (i : Int) r) (y, b) ∧ (b = false → y = []) ∧ (b = true → y = N ∧ Names N ∧ N.length ≤ 40 ∧ tree N = r) ∧ (Names N → N.length ≤ 40 → tree N = r → b = true) :=
    fun h h1 => ⟨[], false, h1, fun _ => rfl, (fun h => by cases h), fun h2 => absurd h2 h⟩
   by_cases hisN : isN N[i] = true
   ·
    by_cases h0 : i = 0
    ·
     subst h0
     obtain ⟨y, b, h1, h2⟩ := ih 1 (by omega) (by
      rw [show N.take 1 = [N[0]] by rw [List.take_succ_eq_append_getElem hlt]; rfl]
      exact ⟨List.pairwise_singleton _ _, fun n hn => by rw [List.mem_singleton.1 hn]; exact hisN⟩)
     refine ⟨y, b, Evt.step (fun k => spec_l13Good.l1.eq_2 _ _ _ _ _ _ k) (Evt.pos (by omega) (Evt.pos (by omega) (Evt.pos (by omega) ?_))), h2⟩
     have e0 : rdOf ByteArray.empty N ((0 : Nat) : Int) = N[0] := rd_str N 0 hlt
     rw [e0]
     refine Evt.bind (spec_name _ hsz) (Evt.pos hisN (Evt.neg (by omega) ?_))
     rw [w64 (n := ((0 : Nat) : Int) + 1) (by omega) (by omega)]
     exact h1
    ·
     obtain ⟨j, rfl⟩ : ∃ j, i = j + 1 := ⟨i - 1, by omega⟩
     have e1 : wrap64 (((j + 1 : Nat) : Int) - 1) = (j : Int) := by rw [w64 (by omega) (by omega)]; omega
     cases hlt2 : ltS N[j] N[j + 1] with
     | true =>
      obtain ⟨y, b, h1, h2⟩ := ih (j + 1 + 1) (by omega) (by
       rw [List.take_succ_eq_append_getElem hlt]
       refine ⟨List.pairwise_append.2 ⟨hNm.rise, List.pairwise_singleton _ _, fun a ha b hb => ?_⟩, fun n hn => ?_⟩
       ·
        rw [List.mem_singleton.1 hb]
        rw [List.take_succ_eq_append_getElem (by omega)] at ha hNm
        rcases List.mem_append.1 ha with ha | ha
        ·
         exact ltS_trans ((List.pairwise_append.1 hNm.rise).2.2 a ha _ (List.mem_singleton.2 rfl)) hlt2
        ·
         rw [List.mem_singleton.1 ha]
         exact hlt2
       ·
        rcases List.mem_append.1 hn with hn | hn
        ·
         exact hNm.each n hn
        ·
         rw [List.mem_singleton.1 hn]
         exact hisN)
      refine ⟨y, b, Evt.step (fun k => spec_l13Good.l1.eq_2 _ _ _ _ _ _ k) (Evt.pos (by omega) (Evt.pos (by omega) (Evt.pos (by omega) ?_))), h2⟩
      rw [rd_str N (j + 1) hlt, e1, rd_str N j (by omega)]
      refine Evt.bind (spec_name _ hsz) (Evt.pos hisN (Evt.pos (by omega) (Evt.pos (by omega) (Evt.pos (by omega) (Evt.pos hlt2 ?_)))))
      rw [w64 (n := ((j + 1 : Nat) : Int) + 1) (by omega) (by omega)]
      exact h1
     | false =>
      refine bad (fun h => ?_) (Evt.step (fun k => spec_l13Good.l1.eq_2 _ _ _ _ _ _ k) (Evt.pos (by omega) (Evt.pos (by omega) (Evt.pos (by omega) ?_))))
      ·
       have := List.pairwise_iff_getElem.1 h.rise j (j + 1) (by omega) hlt (Nat.lt_succ_self j)
       rw [hlt2] at this
       cases this
      ·
       rw [rd_str N (j + 1) hlt, e1, rd_str N j (by omega)]
       exact Evt.bind (spec_name _ hsz) (Evt.pos hisN (Evt.pos (by omega) (Evt.pos (by omega) (Evt.pos (by omega) (Evt.neg (by show ¬ ltS _ _ = true; rw [hlt2]; decide) (Evt.const _))))))
   ·
    refine bad (fun h => hisN (h.each _ (List.getElem_mem hlt))) (Evt.step (fun k => spec_l13Good.l1.eq_2 _ _ _ _ _ _ k) (Evt.pos (by omega) (Evt.pos (by omega) (Evt.pos (by omega) ?_))))
    rw [rd_str N i hlt]
    exact Evt.bind (spec_name _ hsz) (Evt.neg hisN (Evt.const _))
 exact key N.length 0 (by omega) ⟨List.Pairwise.nil, fun _ h => by cases h⟩
/-- What the reference asks of an edge. -/
def ChkS (j : Nat) (e : Eg) : Prop := (j = 0 ↔ e.f2 = -1) ∧ (-1 ≤ e.f2 ∧ e.f2 ≤ (j : Int) - 1) ∧ sml e.f0 20 = true
theorem spec_all (r : List Eg) (hl : r.length ≤ 1048576) (hz : ∀ e ∈ r, e.f0.size ≤ 1048576) : ∃ y b, Evt (fun k => spec_l13Good.f k r) (y, b) ∧ (b = false → y = []) ∧ (b = true → Names y ∧ y.length ≤ 40 ∧ tree y = r) ∧
  ((1 ≤ r.length ∧ r.length ≤ 81) → (∀ (j : Nat) (h : j < r.length), ChkS j r[j]) → ∀ L, Names L → L.length ≤ 40 → tree L = r → (y, b) = (L, true)) := by
 unfold spec_l13Good.f
 rw [in_ev]
 by_cases hn : 1 ≤ r.length ∧ r.length ≤ 81
 ·
  have key : ∀ (m i : Nat), i + m = r.length → (∀ (j : Nat) (h : j < r.length), j < i → ChkS j r[j]) → ∃ y b, Evt (fun k => spec_l13Good.l0 k (r.length : Int) r (r.length : Int) (i : Int) r) (y, b) ∧ (b = false → y = []) ∧ (b = true → Names y ∧ y.length ≤ 40 ∧ tree y = r) ∧
    ((1 ≤ r.length ∧ r.length ≤ 81) → (∀ (j : Nat) (h : j < r.length), ChkS j r[j]) → ∀ L, Names L → L.length ≤ 40 → tree L = r → (y, b) = (L, true)) := by
   intro m
   induction m with
   | zero =>
    intro i hi hc
    have hcc : ∀ (j : Nat) (h : j < r.length), 1 ≤ j → 0 ≤ (r[j]).f2 ∧ (r[j]).f2 ≤ (j : Int) - 1 ∧ (r[j]).f0.size ≤ 20 := fun j h hj => by
     obtain ⟨c1, c2, c3⟩ := hc j h (by omega)
     have h1 : (r[j]).f2 ≠ -1 := fun e => by have := c1.2 e; omega
     unfold sml at c3
     rw [Bool.and_eq_true, decide_eq_true_eq] at c3
     exact ⟨by omega, c2.2, by omega⟩
    obtain ⟨h1, h2⟩ := spec_names r hn hcc
    have h3 := st_names r (r.length - 1) (by omega)
    obtain ⟨y, b, g1, g2, g3, g4⟩ := spec_l1 r hn.2 (st r (r.length - 1)).2 ⟨by omega, fun s hs => by have := h2 s (st_sub r (r.length - 1) (by omega) s hs); omega⟩
    refine ⟨y, b, Evt.step (fun k => spec_l13Good.l0.eq_2 _ _ _ _ _ k) (Evt.neg (by omega) (Evt.bind h1 g1)), g2, fun h => ?_, fun _ _ L hL h40 hT => ?_⟩
    ·
     obtain ⟨e, q⟩ := g3 h
     rw [e]
     exact q
    ·
     have e : (st r (r.length - 1)).2 = L := by
      have := (tree_facts hL).1
      rw [hT] at this
      exact this
     rw [e] at g4 g3
     have hb := g4 hL h40 hT
     rw [(g3 hb).1, hb]
   | succ m ih =>
    intro i hi hc
    have hlt : i < r.length := by omega
    have hze := hz _ (List.getElem_mem hlt)
    have bad : ∀ (h : ¬ ChkS i r[i]), Evt (fun k => spec_l13Good.l0 k (r.length : Int) r (r.length : Int) (i : Int) r) ([], false) → ∃ y b, Evt (fun k => spec_l13Good.l0 k (r.length : Int) r (r.length : Int) (i : Int) r) (y, b) ∧ (b = false → y = []) ∧ (b = true → Names y ∧ y.length ≤ 40 ∧ tree y = r) ∧
      ((1 ≤ r.length ∧ r.length ≤ 81) → (∀ (j : Nat) (h : j < r.length), ChkS j r[j]) → ∀ L, Names L → L.length ≤ 40 → tree L = r → (y, b) = (L, true)) :=
     fun h h1 => ⟨[], false, h1, fun _ => rfl, (fun h => by cases h), fun _ h2 => absurd (h2 i hlt) h⟩
    have hgo : ∀ v, Evt (fun k => if (((i : Int) == 0) != ((r[i].f2) == (-1))) = true then (some (([] : List ByteArray), false)) else ((spec_l1In.f (r[i].f2) (-1) ((i : Int) - 1)).bind fun t441 => (if t441 = true then ((spec_l13Small.f k (r[i].f0) 20).bind fun t442 => (if t442 = true then (spec_l13Good.l0 k (r.length : Int) r (r.length : Int) ((i : Int) + 1) r) else (some (([] : List ByteArray), false)))) else (some (([] : List ByteArray), false))))) v → Evt (fun k => spec_l13Good.l0 k (r.length : Int) r (r.length : Int) (i : Int) r) v := fun v h => by
     refine Evt.step (fun k => spec_l13Good.l0.eq_2 _ _ _ _ _ k) (Evt.pos (by omega) (Evt.pos (by omega) (Evt.pos (by omega) ?_)))
     rw [rd_eg r i hlt, w64 (n := (i : Int) - 1) (by omega) (by omega), w64 (n := (i : Int) + 1) (by omega) (by omega)]
     exact h
    by_cases c1 : (i = 0 ↔ (r[i]).f2 = -1)
    ·
     have e1 : (((i : Int) == 0) != ((r[i].f2) == (-1))) = false := by
      by_cases h0 : i = 0
      ·
       rw [show ((i : Int) == 0) = true from beq_iff_eq.2 (by omega), show (r[i].f2 == -1) = true from beq_iff_eq.2 (c1.1 h0)]
       rfl
      ·
       rw [show ((i : Int) == 0) = false from beq_eq_false_iff_ne.2 (by omega), show (r[i].f2 == -1) = false from beq_eq_false_iff_ne.2 (fun h => h0 (c1.2 h))]
       rfl
     by_cases c2 : -1 ≤ (r[i]).f2 ∧ (r[i]).f2 ≤ (i : Int) - 1
     ·
      by_cases c3 : sml (r[i]).f0 20 = true
      ·
       obtain ⟨y, b, h1, h2⟩ := ih (i + 1) (by omega) (fun j h hj => by
        by_cases e : j = i
        ·
         subst e
         exact ⟨c1, c2, c3⟩
        ·
         exact hc j h (by omega))
       refine ⟨y, b, hgo _ (Evt.neg (by rw [e1]; decide) ?_), h2⟩
       rw [in_ev, decide_eq_true c2]
       exact Evt.bsome (Evt.pos rfl (Evt.bind (spec_small _ hze 20) (Evt.pos c3 h1)))
      ·
       refine bad (fun h => c3 h.2.2) (hgo _ (Evt.neg (by rw [e1]; decide) ?_))
       rw [in_ev, decide_eq_true c2]
       exact Evt.bsome (Evt.pos rfl (Evt.bind (spec_small _ hze 20) (Evt.neg c3 (Evt.const _))))
     ·
      refine bad (fun h => c2 h.2.1) (hgo _ (Evt.neg (by rw [e1]; decide) ?_))
      rw [in_ev, decide_eq_false c2]
      exact Evt.bsome (Evt.neg (by decide) (Evt.const _))
    ·
     refine bad (fun h => c1 h.1) (hgo _ (Evt.pos ?_ (Evt.const _)))
     cases h : (((i : Int) == 0) != ((r[i].f2) == (-1))) with
     | true => rfl
     | false =>
      exfalso
      apply c1
      have h := of_decide_eq_true (show decide (((i : Int) == 0) = ((r[i].f2) == (-1))) = true by simpa using h)
      constructor
      ·
       intro h0
       rw [show ((i : Int) == 0) = true from beq_iff_eq.2 (by omega)] at h
       exact beq_iff_eq.1 h.symm
      ·
       intro h0
       rw [show (r[i].f2 == -1) = true from beq_iff_eq.2 h0] at h
       have := beq_iff_eq.1 h
       omega
  obtain ⟨y, b, h1, h2⟩ := key r.length 0 (by omega) (fun j _ h => absurd h (Nat.not_lt_zero _))
  refine ⟨y, b, ?_, h2⟩
  rw [decide_eq_true (by omega)]
  exact Evt.bsome (Evt.pos rfl h1)
 ·
  rw [decide_eq_false (by omega)]
  exact ⟨[], false, Evt.bsome (Evt.neg (by decide) (Evt.const _)), fun _ => rfl, (fun h => by cases h), fun h => absurd h hn⟩
theorem tree_chkS {L : List ByteArray} (h : Names L) : ∀ (j : Nat) (hj : j < (tree L).length), ChkS j (tree L)[j] := by
 obtain ⟨h1, h2, h3, h4, h5⟩ := tree_facts h
 intro j hj
 by_cases h0 : j = 0
 ·
  subst h0
  rw [List.getElem?_eq_getElem hj] at h3
  rw [Option.some.inj h3]
  exact ⟨⟨fun _ => rfl, fun _ => rfl⟩, ⟨by decide, by decide⟩, by decide⟩
 ·
  have hn := h4 j hj (by omega)
  obtain ⟨n, hnm, x, y, q1, q2, q3, q4⟩ := hn.text
  have hu := hn.up0
  have hsn := isN_size (h.each n hnm)
  refine ⟨⟨fun e => absurd e h0, fun e => by omega⟩, ⟨by omega, by omega⟩, ?_⟩
  unfold sml
  rw [Bool.and_eq_true, decide_eq_true_eq, List.all_eq_true]
  refine ⟨fun c hc => ?_, by rw [q4, ByteArray.size_extract]; omega⟩
  rw [q4, Byt.bytesOf_mid] at hc
  have := hsn.2.2 c (List.mem_of_mem_drop (List.mem_of_mem_take hc))
  exact decide_eq_true this
/-- Both sides tell the names of a tree alike. -/
theorem both (r : List Eg) (hl : r.length ≤ 1048576) (hz : ∀ e ∈ r, e.f0.size ≤ 1048576) :
  (∃ L, Names L ∧ L.length ≤ 40 ∧ tree L = r ∧ Evt (fun k => impl_namesOf.f k r) (L, true) ∧ Evt (fun k => spec_l13Good.f k r) (L, true)) ∨
  (∃ x, x.length ≤ 81 ∧ Evt (fun k => impl_namesOf.f k r) (x, false) ∧ Evt (fun k => spec_l13Good.f k r) ([], false)) := by
 obtain ⟨y, b, h1, h2, h3, h4⟩ := spec_all r hl hz
 by_cases hex : ∃ L, Names L ∧ L.length ≤ 40 ∧ tree L = r
 ·
  obtain ⟨L, g1, g2, g3⟩ := hex
  have e := h4 (by rw [← g3]; exact tree_short g1 g2) (by subst g3; exact tree_chkS g1) L g1 g2 g3
  rw [e] at h1
  exact .inl ⟨L, g1, g2, g3, by rw [← g3]; exact impl_names g1 g2, h1⟩
 ·
  obtain ⟨x, q1, q2⟩ := impl_other r hl hz (fun L a b c => hex ⟨L, a, b, c⟩)
  cases b with
  | true => exact absurd ⟨y, h3 rfl⟩ hex
  | false =>
   rw [h2 rfl] at h1
   exact .inr ⟨x, q2, q1, h1⟩
end Go.Proofs.Ytcngebfcpobnnaa.Rx
end
