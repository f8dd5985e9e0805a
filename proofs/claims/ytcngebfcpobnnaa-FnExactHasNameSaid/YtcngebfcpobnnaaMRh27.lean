/- Several texts in one: what the claim's last text rests on. No conditions. -/
import Derived.Test.YtcngebfcpobnnaaMRh26
import Derived.Test.YtcngebfcpobnnaaMRh8
import Derived.BigRegion
import Derived.Test.YtcngebfcpobnnaaMRh7
import Derived.Test.YtcngebfcpobnnaaMRh24
import Derived.Test.YtcngebfcpobnnaaMRh5
import Derived.Test.YtcngebfcpobnnaaMRh15
section
namespace Go.Proofs.Ytcngebfcpobnnaa.Has
set_option linter.unusedVariables false
set_option linter.unusedSimpArgs false
open Go.RowKit Go.Lib Go.Proofs.Ytcngebfcpobnnaa.PQ Go.Proofs.YtcngebfcpobnnaaW.PrintWords Go.Proofs.YtcngebfcpobnnaaW.PrintLast Go.Proofs.YtcngebfcpobnnaaW.PrintMore Go.Proofs.Ytcngebfcpobnnaa.Pre Go.Proofs.Ytcngebfcpobnnaa.Sml Go.Proofs.Ytcngebfcpobnnaa.Rx
theorem lit_calls (x : Eg) (a : Int) (s : ByteArray) (p q : Nat) (w : World) (hp : w.cell? ⟨p, 0, none⟩ = some (.int .i64 a)) (hq : w.cell? ⟨q, 0, none⟩ = some (.string s)) (hs : s.size ≤ 1048576) (hx : x.f0.size ≤ 1048576) :
  Calls Try.prog 58 #[.agg #[.string x.f0, .bool x.f1, .int .i64 x.f2], .pointer (some ⟨p, 0, none⟩), .pointer (some ⟨q, 0, none⟩)] w fun e w' => e = .returned (.bool (fit a s x)) ∧ Below w.heap.size w w' := by
 have HB := aM (below_alloc (Below.refl w.heap.size w) (.cells #[.string x.f0, .bool x.f1, .int .i64 x.f2] 64))
 have hp2 : (w.alloc (.cells #[.string x.f0, .bool x.f1, .int .i64 x.f2] 64)).cell? ⟨p, 0, none⟩ = some (.int .i64 a) := (HB.out.cell (World.block_lt_of_cell? w _ hp)).trans hp
 have hq2 : (w.alloc (.cells #[.string x.f0, .bool x.f1, .int .i64 x.f2] 64)).cell? ⟨q, 0, none⟩ = some (.string s) := (HB.out.cell (World.block_lt_of_cell? w _ hq)).trans hq
 have HH := aM (pre_has s x.f0 hs hx)
 clear hp hq hs hx
 unfold fit
 obtain ⟨b, hb⟩ : ∃ b, b = (x.f2 == a) := ⟨_, rfl⟩
 rw [← hb]
 cases b with
 | false =>
  have hE : (x.f2 == a) = false := hb.symm
  clear hb
  go_enter Try.func58, Try.ntmps58
  go_wp2
  go_ret
  exact ⟨rfl, HB.out⟩
 | true =>
  have hE : (x.f2 == a) = true := hb.symm
  clear hb
  obtain ⟨d, hd⟩ : ∃ d, d = pre s x.f0 := ⟨_, rfl⟩
  rw [← hd] at HH ⊢
  clear hd
  go_enter Try.func58, Try.ntmps58
  go_wp2_with (first | (go_at_call 55; go_loud ((with_reducible refine (strings_HasPrefix.calls s x.f0 d _ HH.out).mono ?_); rintro e w2 ⟨rfl, hd⟩; have HB2 := aM (below_step HB.out hd.below); clear hd)))
  go_ret
  exact ⟨rfl, HB2.out⟩
set_option maxHeartbeats 1000000 in
theorem index_calls (A : Option Addr) (c : Nat) (l : List Eg) (a : Int) (s : ByteArray) (p q : Nat) (w : World) (hp : ∀ w', Below w.heap.size w w' → w'.cell? ⟨p, 0, none⟩ = some (.int .i64 a)) (hq : ∀ w', Below w.heap.size w w' → w'.cell? ⟨q, 0, none⟩ = some (.string s)) (hr : Kd.C k64 w A l.length l) (hl : l.length ≤ 1048576) (hs : s.size ≤ 1048576) (hz : ∀ x ∈ l, x.f0.size ≤ 1048576) :
  Calls Try.prog 57 #[.slice A l.length c, .func (.func 58) #[] #[.pointer (some ⟨p, 0, none⟩), .pointer (some ⟨q, 0, none⟩)]] w fun e w' => e = .returned (.int .i64 (nx l a s)) ∧ Below w.heap.size w w' := by
 have HR := aM hr
 have HL := aM hl
 have HP := aM hp
 have HQ := aM hq
 have HS := aM hs
 have HZ := aM hz
 clear hr hl hp hq hs hz
 go_enter Try.func57, Try.ntmps57
 go_wp2
 go_loopg [8] l.length (fun kq v8 w' => ∃ i : Nat, v8 = .int .i64 (i : Int) ∧ i ≤ l.length ∧ kq = l.length - i ∧ Aside0 ((l.take i).any (fit a s) = false) ∧ Aside0 (Below w.heap.size w w'))
 case atStart => exact ⟨0, rfl, by omega, by omega, ⟨by simp⟩, ⟨Below.refl _ _⟩⟩
 case round =>
  obtain ⟨i, rfl, hi, hk, HE, HB⟩ := hrel
  by_cases hlt : i < l.length
  ·
   have HI := aM hlt
   have p1 : (0 : Int) ≤ (i : Int) := by omega
   have q1 : (i : Int) < (l.length : Int) := by omega
   obtain ⟨ad, rfl, hx0, hx1, hx2⟩ := at_T64 HR.out (i : Int) p1 q1
   replace hx0 := (HB.out.cell (World.block_lt_of_cell? w _ hx0)).trans hx0
   replace hx1 := (HB.out.cell (World.block_lt_of_cell? w _ hx1)).trans hx1
   replace hx2 := (HB.out.cell (World.block_lt_of_cell? w _ hx2)).trans hx2
   rw [Int.toNat_natCast, rd_eg l i hlt] at hx0 hx1 hx2
   obtain ⟨x, hxe⟩ : ∃ x, x = l[i] := ⟨_, rfl⟩
   rw [← hxe] at hx0 hx1 hx2
   have HX : Aside0 (x.f0.size ≤ 1048576) := ⟨by rw [hxe]; exact HZ.out _ (List.getElem_mem hlt)⟩
   have HT : Aside0 ((l.take (i + 1)).any (fit a s) = fit a s x) := ⟨by rw [List.take_succ_eq_append_getElem hlt, List.any_append, HE.out, ← hxe]; simp⟩
   have HM : Aside0 (fit a s x = true → nx l a s = (i : Int)) := ⟨fun h => nx_hit hlt HE.out (by rw [← hxe]; exact h)⟩
   clear hxe
   obtain ⟨b, hb⟩ : ∃ b, b = fit a s x := ⟨_, rfl⟩
   have HBB := aM hb
   clear hb
   cases b with
   | true =>
    go_wp2_with (first | (go_at_call 58; go_loud ((with_reducible refine (lit_calls x a s p q _ (HP.out _ HB.out) (HQ.out _ HB.out) HS.out HX.out).mono ?_); rintro e w2 ⟨rfl, hb⟩; rw [← HBB.out]; have HB2 := aM (below_step HB.out hb); clear hb)))
    go_ret
    exact ⟨congrArg (fun n => Ending.returned (Value.int .i64 n)) (HM.out HBB.out.symm).symm, HB2.out⟩
   | false =>
    go_wp2_with (first | (go_at_call 58; go_loud ((with_reducible refine (lit_calls x a s p q _ (HP.out _ HB.out) (HQ.out _ HB.out) HS.out HX.out).mono ?_); rintro e w2 ⟨rfl, hb⟩; rw [← HBB.out]; have HB2 := aM (below_step HB.out hb); clear hb)))
    go_roundg (l.length - (i + 1))
    case measure => have := HI.out; omega
    case rel => exact ⟨i + 1, by have := HL.out; have := HI.out; first | go_num | (rw [w64 (by omega) (by omega)]; go_num), by have := HI.out; omega, by omega, ⟨HT.out.trans HBB.out.symm⟩, HB2⟩
  ·
   obtain rfl : i = l.length := by omega
   go_wp2
   go_ret
   exact ⟨congrArg (fun n => Ending.returned (Value.int .i64 n)) (nx_miss (by have h_ := HE.out; rwa [List.take_length] at h_)).symm, HB.out⟩
theorem keep {W : World} {P : Nat} {v : Value} {t : TypeId} (h : W.heap[P]? = some (.cells #[v] t (0, 0))) : ∀ w2, Below W.heap.size W w2 → w2.cell? ⟨P, 0, none⟩ = some v := fun w2 hb => by
 have h1 : W.cell? ⟨P, 0, none⟩ = some v := (blk_cell h 0).trans rfl
 exact (hb.cell (World.block_lt_of_cell? W _ h1)).trans h1
theorem wk_inv {r : List Eg} {a : Int} {s : ByteArray} {n : Int} {R : Int × ByteArray × Int} (h : Wk r a s n R) : (nx r a s = -1 ∧ R = (a, s, n)) ∨ ∃ j, ∃ h : j < r.length, nx r a s = (j : Int) ∧ 1 ≤ r[j].f0.size ∧ r[j].f0.size ≤ s.size ∧ Wk r (j : Int) (rest s r[j].f0.size) (n + 1) R := by
 cases h with
 | stop h => exact .inl ⟨h, rfl⟩
 | go j hj e h1 h2 w => exact .inr ⟨j, hj, e, h1, h2, w⟩
set_option maxHeartbeats 2000000 in
set_option maxRecDepth 100000 in
theorem has_calls (A : Option Addr) (c : Nat) (r : List Eg) (s : ByteArray) (w : World) (hr : Kd.C k64 w A r.length r) (hc : r.length ≤ c) (hm : r.length ≤ 1048576) (hz : ∀ x ∈ r, x.f0.size ≤ 1048576) (hs : s.size ≤ 1048576) :
  Calls Try.prog 27 #[.agg #[.slice A r.length c], .string s] w fun e w' => e = .returned (.tuple #[.bool (ansHas r s).1, .int .i64 (ansHas r s).2.1, .bool (ansHas r s).2.2]) ∧ Below w.heap.size w w' := by
 have HC := aM hr
 have HCC := aM hc
 have HM := aM hm
 have HZ := aM hz
 have HS := aM hs
 have HB0 : Aside0 (Below w.heap.size w (w.alloc (.cells #[.slice A r.length c] 26))) := ⟨below_alloc (Below.refl _ _) _⟩
 have HSZ : Aside0 (w.heap.size ≤ (w.alloc (.cells #[.slice A r.length c] 26)).heap.size) := ⟨by simp⟩
 have HS0 : Aside0 (w.heap.size + 1 ≤ (w.alloc (.cells #[.slice A r.length c] 26)).heap.size) := ⟨by simp⟩
 have HR0 : Aside0 ((w.alloc (.cells #[.slice A r.length c] 26)).heap[w.heap.size]? = some (.cells #[.slice A r.length c] 26 (0, 0))) := ⟨by show (w.heap.push _)[w.heap.size]? = _; simp⟩
 rcases goodRadix_ev r hm hz with ⟨L, hL, h40, ht, h1, _⟩ | ⟨x, h1, _, hno⟩
 ·
  obtain ⟨kg, hkg⟩ := (show Evt (fun k => impl_GoodRadix.f k r) true from by unfold impl_GoodRadix.f; exact Evt.bind h1 (Evt.const _)).ex
  have EG := aM hkg
  obtain ⟨kn, hkn⟩ := (impl_name s hs).ex
  have EN := aM hkn
  by_cases hN : isN s = true
  ·
   rw [hN] at EN
   have g : OneWay r := ht ▸ good_tree hL
   have hsh := tree_short hL h40
   rw [ht] at hsh
   obtain ⟨R, hW⟩ := wk_ex g s.size 0 s 1 (Nat.le_refl _) (by omega)
   rw [ansHas_yes ⟨⟨L, hL, h40, ht⟩, hN⟩ hW]
   have H1 := aM hsh.1
   have HW0 := aM hW
   clear hr hc hm hz hs h1 hkg hkn hN hL h40 ht g hsh hW
   go_enter Try.func27, Try.ntmps27
   go_wp2_with (first | (go_at_call 23; go_loud ((with_reducible refine (impl_GoodRadix.calls kg A c r true _ (Kd.C_below HC.out HB0.out) HCC.out EG.out).mono ?_); rintro e w2 ⟨rfl, hb⟩; have HR2 := aM ((hb.block w.heap.size (by simp)).trans HR0.out); have HB2 := aM (below_then HB0.out HSZ.out hb); have HS2 := aM (Nat.le_trans HS0.out hb.size); clear hb)) | (go_at_call 42; go_loud ((with_reducible refine (impl_nameOK.calls kn s true _ EN.out).mono ?_); rintro e w3 ⟨rfl, hd⟩; have HR3 := aM ((hd.below.block w.heap.size (by have := HS2.out; omega)).trans HR2.out); have HB3 := aM (below_step HB2.out hd.below); have HS3 := aM (Nat.le_trans HS2.out hd.below.size); clear hd)))
   have HPS : Aside0 (w.heap.size < w3.heap.size) := ⟨HS3.out⟩
   go_loopg [9] s.size (fun kq v9 w' => ∃ (a : Int) (t : ByteArray) (n : Int), v9 = .int .i64 n ∧ kq = t.size ∧ Aside0 (Wk r a t n R) ∧ Aside0 (0 ≤ a ∧ a < (r.length : Int)) ∧ Aside0 (1 ≤ n ∧ n + t.size ≤ 2097152 ∧ t.size ≤ 1048576) ∧ Aside0 (w'.heap[w.heap.size]? = some (.cells #[.slice A r.length c] 26 (0, 0))) ∧ Aside0 (w'.heap[w3.heap.size]? = some (.cells #[.int .i64 a] 3 (0, 0))) ∧ Aside0 (w'.heap[w3.heap.size + 1]? = some (.cells #[.string t] 9 (0, 0))) ∧ Aside0 (Below w.heap.size w w') ∧ Aside0 (w3.heap.size + 2 ≤ w'.heap.size))
   case atStart =>
    refine ⟨0, s, 1, rfl, rfl, HW0, ⟨by omega, by have := H1.out; omega⟩, ⟨by omega, by have := HS.out; omega, HS.out⟩, ⟨?_⟩, ⟨?_⟩, ⟨?_⟩, ⟨?_⟩, ⟨?_⟩⟩
    ·
     exact ((below_alloc (below_alloc (Below.refl w3.heap.size w3) _) _).block w.heap.size HPS.out).trans HR3.out
    ·
     show ((w3.heap.push _).push _)[w3.heap.size]? = _
     simp [Array.getElem?_push]
    ·
     show ((w3.heap.push _).push _)[w3.heap.size + 1]? = _
     rw [Array.getElem?_push, if_pos (by simp)]
    ·
     exact below_alloc (below_alloc HB3.out _) _
    ·
     show _ ≤ ((w3.heap.push _).push _).size
     simp
   case round =>
    obtain ⟨a, t, n, rfl, hk, HW, HA, HT, HRW, HP, HQ, HBW, HWS⟩ := hrel
    have crw := (blk_cell HRW.out 0).trans (rfl : _ = some (Value.slice A r.length c))
    rcases wk_inv HW.out with ⟨hnx, e⟩ | ⟨j, hj, hnx, h1, h2, hw⟩
    ·
     have HE := aM e
     clear e
     have p1 : 0 ≤ a := HA.out.1
     have q1 : a < (r.length : Int) := HA.out.2
     obtain ⟨ad, rfl, hx0, hx1, hx2⟩ := at_T64 HC.out a p1 q1
     have HX1 := aM hx1
     clear hx0 hx1 hx2
     obtain ⟨b, hb⟩ : ∃ b, b = (t.toList == ([] : List UInt8)) := ⟨_, rfl⟩
     have hbb : (t.toList == ([] : List UInt8)) = b := hb.symm
     have HBB := aM hb
     clear hb
     cases b with
     | true =>
      go_wp2_with (first | (go_at_call 57; go_loud ((with_reducible refine (index_calls (some ad) c r a t w3.heap.size (w3.heap.size + 1) _ (keep HP.out) (keep HQ.out) (Kd.C_below HC.out HBW.out) HM.out HT.out.2.2 HZ.out).mono ?_); rintro e w5 ⟨rfl, hb⟩; rw [hnx]; have HR5 := aM ((hb.block w.heap.size (by have := HWS.out; have := HPS.out; omega)).trans HRW.out); have HP5 := aM ((hb.block w3.heap.size (by have := HWS.out; omega)).trans HP.out); have HQ5 := aM ((hb.block (w3.heap.size + 1) (by have := HWS.out; omega)).trans HQ.out); have HB5 := aM (below_step HBW.out hb); have HS5 := aM (Nat.le_trans HWS.out hb.size); have cr5 : w5.cell? ⟨w.heap.size, 0, none⟩ = some (.slice (some ad) r.length c) := (blk_cell HR5.out 0).trans rfl; have cp5 : w5.cell? ⟨w3.heap.size, 0, none⟩ = some (.int .i64 a) := (blk_cell HP5.out 0).trans rfl; have cq5 : w5.cell? ⟨w3.heap.size + 1, 0, none⟩ = some (.string t) := (blk_cell HQ5.out 0).trans rfl; have fp5 : w5.frozen? ⟨w3.heap.size, 0, none⟩ = false := blk_frozen HP5.out 0; have fq5 : w5.frozen? ⟨w3.heap.size + 1, 0, none⟩ = false := blk_frozen HQ5.out 0; clear hb; have cx5 := (HB5.out.cell (World.block_lt_of_cell? w _ HX1.out)).trans HX1.out)))
      go_ret3
      exact ⟨by rw [HE.out]; simp [← HBB.out], HB5.out⟩
     | false =>
      go_wp2_with (first | (go_at_call 57; go_loud ((with_reducible refine (index_calls (some ad) c r a t w3.heap.size (w3.heap.size + 1) _ (keep HP.out) (keep HQ.out) (Kd.C_below HC.out HBW.out) HM.out HT.out.2.2 HZ.out).mono ?_); rintro e w5 ⟨rfl, hb⟩; rw [hnx]; have HR5 := aM ((hb.block w.heap.size (by have := HWS.out; have := HPS.out; omega)).trans HRW.out); have HP5 := aM ((hb.block w3.heap.size (by have := HWS.out; omega)).trans HP.out); have HQ5 := aM ((hb.block (w3.heap.size + 1) (by have := HWS.out; omega)).trans HQ.out); have HB5 := aM (below_step HBW.out hb); have HS5 := aM (Nat.le_trans HWS.out hb.size); have cr5 : w5.cell? ⟨w.heap.size, 0, none⟩ = some (.slice (some ad) r.length c) := (blk_cell HR5.out 0).trans rfl; have cp5 : w5.cell? ⟨w3.heap.size, 0, none⟩ = some (.int .i64 a) := (blk_cell HP5.out 0).trans rfl; have cq5 : w5.cell? ⟨w3.heap.size + 1, 0, none⟩ = some (.string t) := (blk_cell HQ5.out 0).trans rfl; have fp5 : w5.frozen? ⟨w3.heap.size, 0, none⟩ = false := blk_frozen HP5.out 0; have fq5 : w5.frozen? ⟨w3.heap.size + 1, 0, none⟩ = false := blk_frozen HQ5.out 0; clear hb)))
      go_ret3
      exact ⟨by rw [HE.out]; simp [← HBB.out], HB5.out⟩
    ·
     obtain ⟨x, hxe⟩ : ∃ x, x = r[j] := ⟨_, rfl⟩
     rw [← hxe] at h1 h2 hw
     have HJ := aM hj
     have H1x := aM h1
     have H2x := aM h2
     have HWx := aM hw
     have p1 : (0 : Int) ≤ (j : Int) := by omega
     have q1 : (j : Int) < (r.length : Int) := by omega
     obtain ⟨ad, hA, hx0, hx1, hx2⟩ := at_T64 HC.out (j : Int) p1 q1
     rw [Int.toNat_natCast, rd_eg r j hj, ← hxe] at hx0
     have HX0 := aM hx0
     clear hx0 hx1 hx2 hxe h1 h2 hw hj
     subst hA
     have p2 : (0 : Int) ≤ (x.f0.size : Int) := by omega
     have q2 : (x.f0.size : Int) ≤ (t.size : Int) := by have := H2x.out; omega
     go_wp2_with (first | (go_at_call 57; go_loud ((with_reducible refine (index_calls (some ad) c r a t w3.heap.size (w3.heap.size + 1) _ (keep HP.out) (keep HQ.out) (Kd.C_below HC.out HBW.out) HM.out HT.out.2.2 HZ.out).mono ?_); rintro e w5 ⟨rfl, hb⟩; rw [hnx]; have HR5 := aM ((hb.block w.heap.size (by have := HWS.out; have := HPS.out; omega)).trans HRW.out); have HP5 := aM ((hb.block w3.heap.size (by have := HWS.out; omega)).trans HP.out); have HQ5 := aM ((hb.block (w3.heap.size + 1) (by have := HWS.out; omega)).trans HQ.out); have HB5 := aM (below_step HBW.out hb); have HS5 := aM (Nat.le_trans HWS.out hb.size); have cr5 : w5.cell? ⟨w.heap.size, 0, none⟩ = some (.slice (some ad) r.length c) := (blk_cell HR5.out 0).trans rfl; have cp5 : w5.cell? ⟨w3.heap.size, 0, none⟩ = some (.int .i64 a) := (blk_cell HP5.out 0).trans rfl; have cq5 : w5.cell? ⟨w3.heap.size + 1, 0, none⟩ = some (.string t) := (blk_cell HQ5.out 0).trans rfl; have fp5 : w5.frozen? ⟨w3.heap.size, 0, none⟩ = false := blk_frozen HP5.out 0; have fq5 : w5.frozen? ⟨w3.heap.size + 1, 0, none⟩ = false := blk_frozen HQ5.out 0; clear hb; have cx5 := (HB5.out.cell (World.block_lt_of_cell? w _ HX0.out)).trans HX0.out)))
     have cr6 : (w5.setCell ⟨w3.heap.size, 0, none⟩ (.int .i64 (j : Int))).cell? ⟨w.heap.size, 0, none⟩ = some (.slice (some ad) r.length c) := (blk_cell (blk_far HR5.out (show w.heap.size ≠ w3.heap.size from by have := HPS.out; omega) _) 0).trans rfl
     have cq6 : (w5.setCell ⟨w3.heap.size, 0, none⟩ (.int .i64 (j : Int))).cell? ⟨w3.heap.size + 1, 0, none⟩ = some (.string t) := (blk_cell (blk_far HQ5.out (show w3.heap.size + 1 ≠ w3.heap.size from by omega) _) 0).trans rfl
     have fq6 : (w5.setCell ⟨w3.heap.size, 0, none⟩ (.int .i64 (j : Int))).frozen? ⟨w3.heap.size + 1, 0, none⟩ = false := blk_frozen (blk_far HQ5.out (show w3.heap.size + 1 ≠ w3.heap.size from by omega) _) 0
     have cx6 := ((HB5.out.setCell (p := ⟨w3.heap.size, 0, none⟩) (Nat.le_of_lt HPS.out) (.int .i64 (j : Int))).cell (World.block_lt_of_cell? w _ HX0.out)).trans HX0.out
     go_region
     go_wp2
     go_roundg (rest t x.f0.size).size
     case measure => rw [rest_size _ _ H2x.out]; have := H1x.out; have := H2x.out; omega
     case rel =>
      have hrs := rest_size t _ H2x.out
      have h1 := H1x.out
      have h3 := HT.out
      refine ⟨(j : Int), rest t x.f0.size, n + 1, ?_, rfl, HWx, ⟨by omega, by have := HJ.out; omega⟩, ⟨by omega, by omega, by omega⟩, ⟨?_⟩, ⟨?_⟩, ⟨?_⟩, ⟨?_⟩, ⟨?_⟩⟩
      ·
       rw [w64 (by omega) (by omega)]
      ·
       show ((w5.setCell _ _).setCell _ _).heap[w.heap.size]? = _
       exact blk_far (blk_far HR5.out (show w.heap.size ≠ w3.heap.size from by have := HPS.out; omega) _) (show w.heap.size ≠ w3.heap.size + 1 from by have := HPS.out; omega) _
      ·
       show ((w5.setCell _ _).setCell _ _).heap[w3.heap.size]? = _
       exact blk_far (blk_put HP5.out 0 _ rfl) (show w3.heap.size ≠ w3.heap.size + 1 from by omega) _
      ·
       show ((w5.setCell _ _).setCell _ _).heap[w3.heap.size + 1]? = _
       exact blk_put (blk_far HQ5.out (show w3.heap.size + 1 ≠ w3.heap.size from by omega) _) 0 _ rfl
      ·
       exact ((HB5.out.setCell (p := ⟨w3.heap.size, 0, none⟩) (Nat.le_of_lt HPS.out) _).setCell (p := ⟨w3.heap.size + 1, 0, none⟩) (Nat.le_succ_of_le (Nat.le_of_lt HPS.out)) _).drew
      ·
       show _ ≤ ((w5.setCell _ _).setCell _ _).heap.size
       have := HS5.out
       simpa using this
  ·
   rw [Bool.eq_false_iff.2 hN] at EN
   rw [ansHas_no (fun h => hN h.2)]
   clear hr hc hm hz hs h1 hkg hkn hN
   go_enter Try.func27, Try.ntmps27
   go_wp2_with (first | (go_at_call 23; go_loud ((with_reducible refine (impl_GoodRadix.calls kg A c r true _ (Kd.C_below HC.out HB0.out) HCC.out EG.out).mono ?_); rintro e w2 ⟨rfl, hb⟩; have HR2 := aM ((hb.block w.heap.size (by simp)).trans HR0.out); have HB2 := aM (below_then HB0.out HSZ.out hb); have HS2 := aM (Nat.le_trans HS0.out hb.size); clear hb)) | (go_at_call 42; go_loud ((with_reducible refine (impl_nameOK.calls kn s false _ EN.out).mono ?_); rintro e w3 ⟨rfl, hd⟩; have HR3 := aM ((hd.below.block w.heap.size (by have := HS2.out; omega)).trans HR2.out); have HB3 := aM (below_step HB2.out hd.below); have HS3 := aM (Nat.le_trans HS2.out hd.below.size); clear hd)))
   go_ret3
   exact ⟨rfl, HB3.out⟩
 ·
  obtain ⟨kg, hkg⟩ := (show Evt (fun k => impl_GoodRadix.f k r) false from by unfold impl_GoodRadix.f; exact Evt.bind h1 (Evt.const _)).ex
  have EG := aM hkg
  rw [ansHas_no (fun h => hno h.1)]
  clear hr hc hm hz hs h1 hkg hno
  go_enter Try.func27, Try.ntmps27
  go_wp2_with (first | (go_at_call 23; go_loud ((with_reducible refine (impl_GoodRadix.calls kg A c r false _ (Kd.C_below HC.out HB0.out) HCC.out EG.out).mono ?_); rintro e w2 ⟨rfl, hb⟩; have HR2 := aM ((hb.block w.heap.size (by simp)).trans HR0.out); have HB2 := aM (below_then HB0.out HSZ.out hb); have HS2 := aM (Nat.le_trans HS0.out hb.size); clear hb)))
  go_ret3
  exact ⟨rfl, HB2.out⟩
end Go.Proofs.Ytcngebfcpobnnaa.Has
end

section
namespace Go.Proofs.Ytcngebfcpobnnaa.PQ
open Go.RowKit Go.Proofs.YtcngebfcpobnnaaW.PrintWords Go.Proofs.YtcngebfcpobnnaaW.PrintLast Go.Proofs.YtcngebfcpobnnaaW.PrintMore
attribute [local go_sem] max2_int min2_int max_two min_two max_three min_three max_four min_four
set_option linter.unusedVariables false
set_option linter.unusedSimpArgs false
noncomputable def impl_HasName.f (l0_0 : List (S64)) (a1 : ByteArray) : Option (Bool × Int × Bool) := open Classical in if l0_0.length ≤ 1048576 ∧ (∀ e ∈ l0_0, e.f0.size ≤ 1048576) ∧ a1.size ≤ 1048576 then some (Rx.ansHas l0_0 a1) else none
theorem impl_HasName.calls (A0_0 : Option Addr) (c0_0 : Nat) (l0_0 : List (S64)) (a1 : ByteArray) (r1 : Bool) (r2 : Int) (r3 : Bool) (w : World) (hr0_0 : Kd.C k64 w A0_0 l0_0.length l0_0) (hc0_0 : l0_0.length ≤ c0_0) (h : impl_HasName.f l0_0 a1 = some (r1, r2, r3)) :
  Calls Try.prog 27 #[.agg #[.slice A0_0 l0_0.length c0_0], .string a1] w fun e w' => e = .returned (.tuple #[.bool r1, .int .i64 r2, .bool r3]) ∧ Below w.heap.size w w' := by
 unfold impl_HasName.f at h
 split at h
 ·
  rename_i hs
  have h1 := Option.some.inj h
  have := Has.has_calls A0_0 c0_0 l0_0 a1 w hr0_0 hc0_0 hs.1 hs.2.1 hs.2.2
  rw [h1] at this
  exact this
 ·
  cases h

noncomputable def laws_FnExactHasName.j0 : Nat → Bool → List (S80) → List (S64) → Option (Bool)
 | 0, _, _, _ => none
 | k + 1, x50, x621000, x632000 => if x50 = true then (some false) else ((laws_toRadix.f k x621000).bind fun t635 => ((laws_eqRadix.f k x632000 t635).bind fun t638 => (if t638 = true then (some true) else (some false))))
noncomputable def laws_FnExactHasName.f (k : Nat) (l0_0 : List (S80)) (a1 : ByteArray) : Option (Bool) := if (a1.size : Int) > 1048576 then (some true) else ((laws_szRadix.f k l0_0 1048576).bind fun t621 => (if t621 < 0 then (some true) else ((laws_toRadix.f k l0_0).bind fun t622 => ((spec_HasName.f k t622 a1).bind fun bt625 => ((laws_toRadix.f k l0_0).bind fun t628 => ((impl_HasName.f t628 a1).bind fun bt632 => (if (bt632.1 != bt625.1) = true then (laws_FnExactHasName.j0 k true l0_0 t628) else (if bt632.2.1 = bt625.2.1 then (laws_FnExactHasName.j0 k (bt632.2.2 != bt625.2.2) l0_0 t628) else (laws_FnExactHasName.j0 k true l0_0 t628)))))))))
set_option maxHeartbeats 8000000 in
set_option maxRecDepth 100000 in
theorem laws_FnExactHasName.calls (k : Nat) (A0_0 : Option Addr) (c0_0 : Nat) (l0_0 : List (S80)) (a1 : ByteArray) (r : Bool) (w : World) (hr0_0 : Kd.C k80 w A0_0 l0_0.length l0_0) (hc0_0 : l0_0.length ≤ c0_0) (h : laws_FnExactHasName.f k l0_0 a1 = some r) :
  Calls Try.prog 6 #[.agg #[.slice A0_0 l0_0.length c0_0], .string a1] w fun e w' => e = .returned (.bool r) ∧ Below w.heap.size w w' := by
 have hu36 := Try.underlying36
 have hu26 := Try.underlying26
 have HR0_0 := aM hr0_0
 have HC0_0 := aM hc0_0
 clear hr0_0 hc0_0
 have HB := aM (Below.refl w.heap.size w)
 have H : (if (a1.size : Int) > 1048576 then (some true) else ((laws_szRadix.f k l0_0 1048576).bind fun t621 => (if t621 < 0 then (some true) else ((laws_toRadix.f k l0_0).bind fun t622 => ((spec_HasName.f k t622 a1).bind fun bt625 => ((laws_toRadix.f k l0_0).bind fun t628 => ((impl_HasName.f t628 a1).bind fun bt632 => (if (bt632.1 != bt625.1) = true then (laws_FnExactHasName.j0 k true l0_0 t628) else (if bt632.2.1 = bt625.2.1 then (laws_FnExactHasName.j0 k (bt632.2.2 != bt625.2.2) l0_0 t628) else (laws_FnExactHasName.j0 k true l0_0 t628)))))))))) = some r := h
 clear h
 by_cases c3 : (a1.size : Int) > 1048576
 ·
  rw [if_pos c3] at H
  have c3b0 : decide (1048576 < (a1.size : Int)) = true := decide_eq_true c3
  have c3b1 : decide (1048576 < a1.size) = true := decide_eq_true (by omega)
  clear c3
  obtain rfl := Option.some.inj H
  go_enter Try.func6, Try.ntmps6
  go_wp2_with (first | ((with_reducible refine gate_dst (N := 2) rfl ?_); refine box_event ?hg (N := 2) ?hd (cs := #[.slice A0_0 l0_0.length c0_0]) (t := 36) ?hr ?_; (case hd => rfl); (case hg => rfl); (case hr => first | (go_simp; done) | (go_simp; rfl)); intro gb620 hg w4 hbox hb; have n0_ := aM (below_step (by repeat (first | (with_reducible first | exact HB.out | apply below_alloc | apply pw_below_drewN | apply below_drew1) | exact HB.out)) hb); have n1_ := aM (hbox); have n2_ := aM ((by rw [hg]; exact (below_size (by repeat (first | (with_reducible first | exact HB.out | apply below_alloc | apply pw_below_drewN | apply below_drew1) | exact HB.out))) : w.heap.size ≤ gb620)); have n3_ := aM ((by rw [hg]; exact (below_size (by repeat (first | (with_reducible first | exact HB.out | apply below_alloc | apply pw_below_drewN | apply below_drew1) | exact HB.out))) : w.heap.size ≤ gb620)); clear HB; have HB := n0_; have BK620 := n1_; have GW620 := n2_; have GE620 := n3_; clear n0_ n1_ n2_ n3_; clear hb hbox hg))
  go_ret
  exact ⟨by first | rfl | (simp [errW_none, errW_some] <;> rfl) | (simp [*, errW_none, errW_some] <;> rfl), by repeat (first | (with_reducible first | exact HB.out | apply below_alloc | apply pw_below_drewN | apply below_drew1 | refine below_set ?_ GE620.out) | exact HB.out)⟩
 ·
  rw [if_neg c3] at H
  have c3b0 : decide (1048576 < (a1.size : Int)) = false := decide_eq_false c3
  have c3b1 : decide (1048576 < a1.size) = false := decide_eq_false (by omega)
  clear c3
  replace H := Option.bind_eq_some_iff.mp H
  obtain ⟨t621, A50, H⟩ := H
  replace H : (if t621 < 0 then (some true) else ((laws_toRadix.f k l0_0).bind fun t622 => ((spec_HasName.f k t622 a1).bind fun bt625 => ((laws_toRadix.f k l0_0).bind fun t628 => ((impl_HasName.f t628 a1).bind fun bt632 => (if (bt632.1 != bt625.1) = true then (laws_FnExactHasName.j0 k true l0_0 t628) else (if bt632.2.1 = bt625.2.1 then (laws_FnExactHasName.j0 k (bt632.2.2 != bt625.2.2) l0_0 t628) else (laws_FnExactHasName.j0 k true l0_0 t628)))))))) = some r := H
  have A5 := aM A50
  clear A50
  by_cases c6 : t621 < 0
  ·
   rw [if_pos c6] at H
   have c6b0 : decide (t621 < 0) = true := decide_eq_true c6
   clear c6
   obtain rfl := Option.some.inj H
   go_enter Try.func6, Try.ntmps6
   go_wp2_with (first | ((with_reducible refine gate_dst (N := 2) rfl ?_); refine box_event ?hg (N := 2) ?hd (cs := #[.slice A0_0 l0_0.length c0_0]) (t := 36) ?hr ?_; (case hd => rfl); (case hg => rfl); (case hr => first | (go_simp; done) | (go_simp; rfl)); intro gb620 hg w7 hbox hb; have n0_ := aM (below_step (by repeat (first | (with_reducible first | exact HB.out | apply below_alloc | apply pw_below_drewN | apply below_drew1) | exact HB.out)) hb); have n1_ := aM (hbox); have n2_ := aM ((by rw [hg]; exact (below_size (by repeat (first | (with_reducible first | exact HB.out | apply below_alloc | apply pw_below_drewN | apply below_drew1) | exact HB.out))) : w.heap.size ≤ gb620)); have n3_ := aM ((by rw [hg]; exact (below_size (by repeat (first | (with_reducible first | exact HB.out | apply below_alloc | apply pw_below_drewN | apply below_drew1) | exact HB.out))) : w.heap.size ≤ gb620)); clear HB; have HB := n0_; have BK620 := n1_; have GW620 := n2_; have GE620 := n3_; clear n0_ n1_ n2_ n3_; clear hb hbox hg; have hcz8_0 : w7.cell? ⟨gb620, 0, none⟩ = some (.slice A0_0 l0_0.length c0_0) := (blk_cell BK620.out 0).trans rfl; have hfz8_0 := blk_frozen BK620.out 0) | ((with_reducible refine gate_callee (f := 20) rfl ?_); refine goesL_ (some 18) rfl rfl Try.func20 (by kernel_rfl) rfl #[.agg #[.slice A0_0 l0_0.length c0_0], .int .i64 1048576] rfl (by (try simp only [List.map_toArray, List.map_cons, List.map_nil]); first | done | rfl | (simp only [List.length_drop, List.length_take]; rfl)) ?_; (with_reducible refine (laws_szRadix.calls k _ _ l0_0 1048576 t621 _ ?side1 ?side2 A5.out).mono ?_); (case side1 => repeat (first | exact (Kd.C_below HR0_0.out HB.out) | (with_reducible refine Kd.C_alloc ?_ _) | (with_reducible refine Kd.C_drewN ?_ _) | (with_reducible refine Kd.C_drew ?_))); (case side2 => exact HC0_0.out); rintro e w9 ⟨rfl, hb⟩; refine ⟨_, rfl, ?_⟩; have n0_ := aM (blk_below (g := gb620) (o := .cells #[.slice A0_0 l0_0.length c0_0] 36 (0, 0)) (by (with_reducible repeat (first | refine blk_drewN ?_ _ | refine blk_drew ?_ | refine blk_alloc ?_ _)); exact BK620.out) hb); have n1_ := aM (below_step (by repeat (first | (with_reducible first | exact HB.out | apply below_alloc | apply pw_below_drewN | apply below_drew1 | refine below_set ?_ GE620.out) | exact HB.out)) hb); clear BK620; clear HB; have BK620 := n0_; have HB := n1_; clear n0_ n1_; (try clear hb); (try clear hb2); (try clear hk); (try clear hi)))
   go_ret
   exact ⟨by first | rfl | (simp [errW_none, errW_some] <;> rfl) | (simp [*, errW_none, errW_some] <;> rfl), by repeat (first | (with_reducible first | exact HB.out | apply below_alloc | apply pw_below_drewN | apply below_drew1 | refine below_set ?_ GE620.out) | exact HB.out)⟩
  ·
   rw [if_neg c6] at H
   have c6b0 : decide (t621 < 0) = false := decide_eq_false c6
   clear c6
   replace H := Option.bind_eq_some_iff.mp H
   obtain ⟨t622, A100, H⟩ := H
   replace H : ((spec_HasName.f k t622 a1).bind fun bt625 => ((laws_toRadix.f k l0_0).bind fun t628 => ((impl_HasName.f t628 a1).bind fun bt632 => (if (bt632.1 != bt625.1) = true then (laws_FnExactHasName.j0 k true l0_0 t628) else (if bt632.2.1 = bt625.2.1 then (laws_FnExactHasName.j0 k (bt632.2.2 != bt625.2.2) l0_0 t628) else (laws_FnExactHasName.j0 k true l0_0 t628)))))) = some r := H
   have A10 := aM A100
   clear A100
   replace H := Option.bind_eq_some_iff.mp H
   obtain ⟨⟨t625, t626, t627⟩, A110, H⟩ := H
   replace H : ((laws_toRadix.f k l0_0).bind fun t628 => ((impl_HasName.f t628 a1).bind fun bt632 => (if (bt632.1 != t625) = true then (laws_FnExactHasName.j0 k true l0_0 t628) else (if bt632.2.1 = t626 then (laws_FnExactHasName.j0 k (bt632.2.2 != t627) l0_0 t628) else (laws_FnExactHasName.j0 k true l0_0 t628))))) = some r := H
   have A11 := aM A110
   clear A110
   replace H := Option.bind_eq_some_iff.mp H
   obtain ⟨t628, A120, H⟩ := H
   replace H : ((impl_HasName.f t628 a1).bind fun bt632 => (if (bt632.1 != t625) = true then (laws_FnExactHasName.j0 k true l0_0 t628) else (if bt632.2.1 = t626 then (laws_FnExactHasName.j0 k (bt632.2.2 != t627) l0_0 t628) else (laws_FnExactHasName.j0 k true l0_0 t628)))) = some r := H
   have A12 := aM A120
   clear A120
   replace H := Option.bind_eq_some_iff.mp H
   obtain ⟨⟨t632, t633, t634⟩, A130, H⟩ := H
   replace H : (if (t632 != t625) = true then (laws_FnExactHasName.j0 k true l0_0 t628) else (if t633 = t626 then (laws_FnExactHasName.j0 k (t634 != t627) l0_0 t628) else (laws_FnExactHasName.j0 k true l0_0 t628))) = some r := H
   have A13 := aM A130
   clear A130
   have HC14 := aM H
   clear H
   go_enter Try.func6, Try.ntmps6
   go_upto_region 10 with (first | ((with_reducible refine gate_dst (N := 2) rfl ?_); refine box_event ?hg (N := 2) ?hd (cs := #[.slice A0_0 l0_0.length c0_0]) (t := 36) ?hr ?_; (case hd => rfl); (case hg => rfl); (case hr => first | (go_simp; done) | (go_simp; rfl)); intro gb620 hg w15 hbox hb; have n0_ := aM (below_step (by repeat (first | (with_reducible first | exact HB.out | apply below_alloc | apply pw_below_drewN | apply below_drew1) | exact HB.out)) hb); have n1_ := aM (hbox); have n2_ := aM ((by rw [hg]; exact (below_size (by repeat (first | (with_reducible first | exact HB.out | apply below_alloc | apply pw_below_drewN | apply below_drew1) | exact HB.out))) : w.heap.size ≤ gb620)); have n3_ := aM ((by rw [hg]; exact (below_size (by repeat (first | (with_reducible first | exact HB.out | apply below_alloc | apply pw_below_drewN | apply below_drew1) | exact HB.out))) : w.heap.size ≤ gb620)); clear HB; have HB := n0_; have BK620 := n1_; have GW620 := n2_; have GE620 := n3_; clear n0_ n1_ n2_ n3_; clear hb hbox hg; have hcz16_0 : w15.cell? ⟨gb620, 0, none⟩ = some (.slice A0_0 l0_0.length c0_0) := (blk_cell BK620.out 0).trans rfl; have hfz16_0 := blk_frozen BK620.out 0) | ((with_reducible refine gate_callee (f := 20) rfl ?_); refine goesL_ (some 18) rfl rfl Try.func20 (by kernel_rfl) rfl #[.agg #[.slice A0_0 l0_0.length c0_0], .int .i64 1048576] rfl (by (try simp only [List.map_toArray, List.map_cons, List.map_nil]); first | done | rfl | (simp only [List.length_drop, List.length_take]; rfl)) ?_; (with_reducible refine (laws_szRadix.calls k _ _ l0_0 1048576 t621 _ ?side1 ?side2 A5.out).mono ?_); (case side1 => repeat (first | exact (Kd.C_below HR0_0.out HB.out) | (with_reducible refine Kd.C_alloc ?_ _) | (with_reducible refine Kd.C_drewN ?_ _) | (with_reducible refine Kd.C_drew ?_))); (case side2 => exact HC0_0.out); rintro e w17 ⟨rfl, hb⟩; refine ⟨_, rfl, ?_⟩; have n0_ := aM (blk_below (g := gb620) (o := .cells #[.slice A0_0 l0_0.length c0_0] 36 (0, 0)) (by (with_reducible repeat (first | refine blk_drewN ?_ _ | refine blk_drew ?_ | refine blk_alloc ?_ _)); exact BK620.out) hb); have n1_ := aM (below_step (by repeat (first | (with_reducible first | exact HB.out | apply below_alloc | apply pw_below_drewN | apply below_drew1 | refine below_set ?_ GE620.out) | exact HB.out)) hb); clear BK620; clear HB; have BK620 := n0_; have HB := n1_; clear n0_ n1_; (try clear hb); (try clear hb2); (try clear hk); (try clear hi); have hcz18_0 : w17.cell? ⟨gb620, 0, none⟩ = some (.slice A0_0 l0_0.length c0_0) := (blk_cell BK620.out 0).trans rfl; have hfz18_0 := blk_frozen BK620.out 0) | ((with_reducible refine gate_callee (f := 22) rfl ?_); refine goesL_ (some 23) rfl rfl Try.func22 (by kernel_rfl) rfl #[.agg #[.slice A0_0 l0_0.length c0_0]] rfl (by (try simp only [List.map_toArray, List.map_cons, List.map_nil]); first | done | rfl | (simp only [List.length_drop, List.length_take]; rfl)) ?_; (with_reducible refine (laws_toRadix.calls k _ _ l0_0 t622 _ ?side1 ?side2 A10.out).mono ?_); (case side1 => repeat (first | exact (Kd.C_below HR0_0.out HB.out) | (with_reducible refine Kd.C_alloc ?_ _) | (with_reducible refine Kd.C_drewN ?_ _) | (with_reducible refine Kd.C_drew ?_))); (case side2 => exact HC0_0.out); rintro e w19 ⟨v623, rfl, ho0, hb⟩; refine ⟨_, rfl, ?_⟩; have n0_ := aM (Kd.R_lower ho0 (below_size (by repeat (first | (with_reducible first | exact HB.out | apply below_alloc | apply pw_below_drewN | apply below_drew1 | refine below_set ?_ GE620.out) | exact HB.out)))); have n1_ := aM (blk_below (g := gb620) (o := .cells #[.slice A0_0 l0_0.length c0_0] 36 (0, 0)) (by (with_reducible repeat (first | refine blk_drewN ?_ _ | refine blk_drew ?_ | refine blk_alloc ?_ _)); exact BK620.out) hb); have n2_ := aM (below_step (by repeat (first | (with_reducible first | exact HB.out | apply below_alloc | apply pw_below_drewN | apply below_drew1 | refine below_set ?_ GE620.out) | exact HB.out)) hb); clear BK620; clear HB; have HO624 := n0_; have BK620 := n1_; have HB := n2_; clear n0_ n1_ n2_; (try clear hb); (try clear hb2); (try clear hk); (try clear hi); (try clear ho0); obtain ⟨Ao20, co20, eo20⟩ := Kd.R_slice HO624.out; subst eo20) | ((with_reducible refine gate_callee (f := 26) rfl ?_); refine goesL_ (some 25) rfl rfl Try.func26 (by kernel_rfl) rfl #[.agg #[.slice Ao20 t622.length co20], .string a1] rfl (by (try simp only [List.map_toArray, List.map_cons, List.map_nil]); first | done | rfl | (simp only [List.length_drop, List.length_take]; rfl)) ?_; (with_reducible refine (spec_HasName.calls k _ _ t622 a1 t625 t626 t627 _ ?side1 ?side2 A11.out).mono ?_); (case side1 => repeat (first | exact (Kd.R_reads' HO624.out).2.2 | (with_reducible refine Kd.C_alloc ?_ _) | (with_reducible refine Kd.C_drewN ?_ _) | (with_reducible refine Kd.C_drew ?_))); (case side2 => exact (Kd.R_reads' HO624.out).2.1); rintro e w21 ⟨rfl, hb⟩; refine ⟨_, rfl, ?_⟩; have n0_ := aM (Kd.R_below (by (with_reducible repeat (first | apply Kd.R_alloc | apply Kd.R_drewN | apply Kd.R_drew)); exact HO624.out) hb); have n1_ := aM (blk_below (g := gb620) (o := .cells #[.slice A0_0 l0_0.length c0_0] 36 (0, 0)) (by (with_reducible repeat (first | refine blk_drewN ?_ _ | refine blk_drew ?_ | refine blk_alloc ?_ _)); exact BK620.out) hb); have n2_ := aM (below_step (by repeat (first | (with_reducible first | exact HB.out | apply below_alloc | apply pw_below_drewN | apply below_drew1 | refine below_set ?_ GE620.out) | exact HB.out)) hb); clear HO624; clear BK620; clear HB; have HO624 := n0_; have BK620 := n1_; have HB := n2_; clear n0_ n1_ n2_; (try clear hb); (try clear hb2); (try clear hk); (try clear hi); have hcz22_0 : w21.cell? ⟨gb620, 0, none⟩ = some (.slice A0_0 l0_0.length c0_0) := (blk_cell BK620.out 0).trans rfl; have hfz22_0 := blk_frozen BK620.out 0) | ((with_reducible refine gate_callee (f := 22) rfl ?_); refine goesL_ (some 30) rfl rfl Try.func22 (by kernel_rfl) rfl #[.agg #[.slice A0_0 l0_0.length c0_0]] rfl (by (try simp only [List.map_toArray, List.map_cons, List.map_nil]); first | done | rfl | (simp only [List.length_drop, List.length_take]; rfl)) ?_; (with_reducible refine (laws_toRadix.calls k _ _ l0_0 t628 _ ?side1 ?side2 A12.out).mono ?_); (case side1 => repeat (first | exact (Kd.C_below HR0_0.out HB.out) | (with_reducible refine Kd.C_alloc ?_ _) | (with_reducible refine Kd.C_drewN ?_ _) | (with_reducible refine Kd.C_drew ?_))); (case side2 => exact HC0_0.out); rintro e w23 ⟨v629, rfl, ho0, hb⟩; refine ⟨_, rfl, ?_⟩; have n0_ := aM (Kd.R_elder' (by (with_reducible repeat (first | apply Kd.R_alloc | apply Kd.R_drewN | apply Kd.R_drew)); exact HO624.out) (Kd.R_base ho0) hb); have n1_ := aM (Kd.R_lower (Kd.R_new' ho0 (Kd.R_lt (by (with_reducible repeat (first | apply Kd.R_alloc | apply Kd.R_drewN | apply Kd.R_drew)); exact HO624.out))) (below_size (by repeat (first | (with_reducible first | exact HB.out | apply below_alloc | apply pw_below_drewN | apply below_drew1 | refine below_set ?_ GE620.out) | exact HB.out)))); have n2_ := aM (blk_below (g := gb620) (o := .cells #[.slice A0_0 l0_0.length c0_0] 36 (0, 0)) (by (with_reducible repeat (first | refine blk_drewN ?_ _ | refine blk_drew ?_ | refine blk_alloc ?_ _)); exact BK620.out) hb); have n3_ := aM (below_step (by repeat (first | (with_reducible first | exact HB.out | apply below_alloc | apply pw_below_drewN | apply below_drew1 | refine below_set ?_ GE620.out) | exact HB.out)) hb); clear HO624; clear BK620; clear HB; have HO624 := n0_; have HO630 := n1_; have BK620 := n2_; have HB := n3_; clear n0_ n1_ n2_ n3_; (try clear hb); (try clear hb2); (try clear hk); (try clear hi); (try clear ho0)) | ((with_reducible refine gate_dst (N := 9) rfl ?_); refine box_event ?hg (N := 9) ?hd (cs := #[.slice none 0 0]) (t := 26) ?hr ?_; (case hd => rfl); (case hg => rfl); (case hr => first | (go_simp; done) | (go_simp; rfl)); intro gb631 hg w24 hbox hb; have n0_ := aM (Kd.R_below (by (with_reducible repeat (first | apply Kd.R_alloc | apply Kd.R_drewN | apply Kd.R_drew)); exact HO624.out) hb); have n1_ := aM (Kd.R_below (by (with_reducible repeat (first | apply Kd.R_alloc | apply Kd.R_drewN | apply Kd.R_drew)); exact HO630.out) hb); have n2_ := aM (blk_below (g := gb620) (o := .cells #[.slice A0_0 l0_0.length c0_0] 36 (0, 0)) (by (with_reducible repeat (first | refine blk_drewN ?_ _ | refine blk_drew ?_ | refine blk_alloc ?_ _)); exact BK620.out) hb); have n3_ := aM (below_step (by repeat (first | (with_reducible first | exact HB.out | apply below_alloc | apply pw_below_drewN | apply below_drew1 | refine below_set ?_ GE620.out) | exact HB.out)) hb); have n4_ := aM (hbox); have n5_ := aM ((by rw [hg]; exact (below_size (by repeat (first | (with_reducible first | exact HB.out | apply below_alloc | apply pw_below_drewN | apply below_drew1 | refine below_set ?_ GE620.out) | exact HB.out))) : w.heap.size ≤ gb631)); have n6_ := aM ((by rw [hg]; exact (below_size (by repeat (first | (with_reducible first | exact HB.out | apply below_alloc | apply pw_below_drewN | apply below_drew1 | refine below_set ?_ GE620.out) | exact HB.out))) : w.heap.size ≤ gb631)); have n7_ := aM ((by rw [hg]; exact Nat.ne_of_lt (blk_lt (g := gb620) (o := .cells #[.slice A0_0 l0_0.length c0_0] 36 (0, 0)) (by (with_reducible repeat (first | refine blk_drewN ?_ _ | refine blk_drew ?_ | refine blk_alloc ?_ _)); exact BK620.out)) : gb620 ≠ gb631)); have n8_ := aM ((by rw [hg]; exact Nat.ne_of_gt (blk_lt (g := gb620) (o := .cells #[.slice A0_0 l0_0.length c0_0] 36 (0, 0)) (by (with_reducible repeat (first | refine blk_drewN ?_ _ | refine blk_drew ?_ | refine blk_alloc ?_ _)); exact BK620.out)) : gb631 ≠ gb620)); clear HO624; clear HO630; clear BK620; clear HB; have HO624 := n0_; have HO630 := n1_; have BK620 := n2_; have HB := n3_; have BK631 := n4_; have GW631 := n5_; have GE631 := n6_; have NB620_631 := n7_; have NB631_620 := n8_; clear n0_ n1_ n2_ n3_ n4_ n5_ n6_ n7_ n8_; clear hb hbox hg; obtain ⟨Ao25, co25, eo25⟩ := Kd.R_slice HO630.out; subst eo25; have hnb26 := NB631_620.out; have hnc26 := NB620_631.out; have hcz27_0 : w24.cell? ⟨gb631, 0, none⟩ = some (.slice none 0 0) := (blk_cell BK631.out 0).trans rfl; have hfz27_0 := blk_frozen BK631.out 0) | ((with_reducible refine gate_callee (f := 27) rfl ?_); refine goesL_ (some 34) rfl rfl Try.func27 (by kernel_rfl) rfl #[.agg #[.slice Ao25 t628.length co25], .string a1] rfl (by (try simp only [List.map_toArray, List.map_cons, List.map_nil]); first | done | rfl | (simp only [List.length_drop, List.length_take]; rfl)) ?_; (with_reducible refine (impl_HasName.calls _ _ t628 a1 t632 t633 t634 _ ?side1 ?side2 A13.out).mono ?_); (case side1 => refine (Kd.R_reads' (e := 64) (base := w.heap.size) (ok := fun k_ => (True ∧ some k_ ≠ (.slice Ao20 t622.length co20 : Value).ownBlock)) (n := t628.length) (c := co25) ?_).2.2; exact (by (with_reducible repeat (first | apply Kd.R_alloc | apply Kd.R_drewN | apply Kd.R_drew)); exact (Kd.R_mono (Kd.R_far (p := ⟨gb631, 0, none⟩) (Kd.R_types HO630.out BK631.out (by decide)) (fun _ hk => hk.2) (.slice Ao25 t628.length co25)) (fun _ h_ => h_.1)))); (case side2 => exact (Kd.R_reads' HO630.out).2.1); rintro e w28 ⟨rfl, hb⟩; refine ⟨_, rfl, ?_⟩; have n0_ := aM (Kd.R_below (by (with_reducible repeat (first | apply Kd.R_alloc | apply Kd.R_drewN | apply Kd.R_drew)); exact (Kd.R_mono (Kd.R_far (p := ⟨gb631, 0, none⟩) (Kd.R_types HO624.out BK631.out (by decide)) (fun _ hk => hk.2) (.slice Ao25 t628.length co25)) (fun _ h_ => h_.1))) hb); have n1_ := aM (Kd.R_below (by (with_reducible repeat (first | apply Kd.R_alloc | apply Kd.R_drewN | apply Kd.R_drew)); exact (Kd.R_mono (Kd.R_far (p := ⟨gb631, 0, none⟩) (Kd.R_types HO630.out BK631.out (by decide)) (fun _ hk => hk.2) (.slice Ao25 t628.length co25)) (fun _ h_ => h_.1))) hb); have n2_ := aM (blk_below (g := gb620) (o := .cells #[.slice A0_0 l0_0.length c0_0] 36 (0, 0)) (by (with_reducible repeat (first | refine blk_drewN ?_ _ | refine blk_drew ?_ | refine blk_alloc ?_ _)); refine blk_far ?_ NB620_631.out _; (with_reducible repeat (first | refine blk_drewN ?_ _ | refine blk_drew ?_ | refine blk_alloc ?_ _)); exact BK620.out) hb); have n3_ := aM (blk_below (g := gb631) (o := .cells #[.slice Ao25 t628.length co25] 26 (0, 0)) (by (with_reducible repeat (first | refine blk_drewN ?_ _ | refine blk_drew ?_ | refine blk_alloc ?_ _)); refine blk_put (cs := #[.slice none 0 0]) ?_ 0 _ rfl; (with_reducible repeat (first | refine blk_drewN ?_ _ | refine blk_drew ?_ | refine blk_alloc ?_ _)); exact BK631.out) hb); have n4_ := aM (below_step (by repeat (first | (with_reducible first | exact HB.out | apply below_alloc | apply pw_below_drewN | apply below_drew1 | refine below_set ?_ GE620.out | refine below_set ?_ GE631.out) | exact HB.out)) hb); clear HO624; clear HO630; clear BK620; clear BK631; clear HB; have HO624 := n0_; have HO630 := n1_; have BK620 := n2_; have BK631 := n3_; have HB := n4_; clear n0_ n1_ n2_ n3_ n4_; (try clear hb); (try clear hb2); (try clear hk); (try clear hi)))
   (try simp only [Act.put, zSA, zSB, zSC])
   go_cut [50] (fun v50 wc => ∃ (kq : Nat) (x50_13 : Bool), v50 = .bool x50_13 ∧ Aside0 (laws_FnExactHasName.j0 kq x50_13 l0_0 t628 = some r) ∧ Aside0 (kq ≤ k) ∧ Aside0 (Kd.R k64 64 wc w.heap.size (fun _ => True) (.slice Ao25 t628.length co25) t628) ∧ Aside0 (wc.heap[gb620]? = some (.cells #[(.slice A0_0 l0_0.length c0_0)] 36 (0, 0))) ∧ Aside0 (wc.heap[gb631]? = some (.cells #[(.slice Ao25 t628.length co25)] 26 (0, 0))) ∧ Aside0 (Below w.heap.size w wc))
   case first =>
    have H := HC14.out
    clear HC14
    by_cases c29 : (t632 != t625) = true
    ·
     rw [if_pos c29] at H
     have c29b0 : (t632 != t625) = true := c29
     (try (have c29b1 : decide (t632 = t625) = false := by simpa using c29))
     (try (have c29b2 : (t632 == t625) = false := by simpa using c29))
     (try (have c29b3 : ¬ (t632 = t625) := by simpa using c29))
     clear c29
     (first | rw [c29b0] | (simp only [i64_w, i32_w]; rw [c29b0]) | skip)
     have H' := aM H
     clear H
     go_wp2
     go_meet
     case rel => exact ⟨_, (true), (by first | rfl | (simp; done) | (simp [*]; done)), H', ⟨by first | omega | exact Nat.le_refl _⟩, ⟨by (with_reducible repeat (first | apply Kd.R_alloc | apply Kd.R_drewN | apply Kd.R_drew)); exact Kd.R_mono HO630.out (fun _ hk => trivial)⟩, ⟨by (with_reducible repeat (first | refine blk_drewN ?_ _ | refine blk_drew ?_ | refine blk_alloc ?_ _)); exact BK620.out⟩, ⟨by (with_reducible repeat (first | refine blk_drewN ?_ _ | refine blk_drew ?_ | refine blk_alloc ?_ _)); exact BK631.out⟩, ⟨by repeat (first | (with_reducible first | exact HB.out | apply below_alloc | apply pw_below_drewN | apply below_drew1 | refine below_set ?_ GE620.out | refine below_set ?_ GE631.out) | exact HB.out)⟩⟩
    ·
     rw [if_neg c29] at H
     have c29b0 : (t632 != t625) = false := by simpa using c29
     (try (have c29b1 : decide (t632 = t625) = true := by simpa using c29))
     (try (have c29b2 : (t632 == t625) = true := by simpa using c29))
     clear c29
     (first | rw [c29b0] | (simp only [i64_w, i32_w]; rw [c29b0]) | skip)
     by_cases c30 : t633 = t626
     ·
      rw [if_pos c30] at H
      have c30b0 : (t633 == t626) = true := beq_iff_eq.mpr c30
      have c30b1 : (t633 != t626) = false := bne_eq_false_iff_eq.mpr c30
      clear c30
      have H' := aM H
      clear H
      go_wp2
      go_meet
      case rel => exact ⟨_, ((t634 != t627)), (by first | rfl | (simp; done) | (simp [*]; done)), H', ⟨by first | omega | exact Nat.le_refl _⟩, ⟨by (with_reducible repeat (first | apply Kd.R_alloc | apply Kd.R_drewN | apply Kd.R_drew)); exact Kd.R_mono HO630.out (fun _ hk => trivial)⟩, ⟨by (with_reducible repeat (first | refine blk_drewN ?_ _ | refine blk_drew ?_ | refine blk_alloc ?_ _)); exact BK620.out⟩, ⟨by (with_reducible repeat (first | refine blk_drewN ?_ _ | refine blk_drew ?_ | refine blk_alloc ?_ _)); exact BK631.out⟩, ⟨by repeat (first | (with_reducible first | exact HB.out | apply below_alloc | apply pw_below_drewN | apply below_drew1 | refine below_set ?_ GE620.out | refine below_set ?_ GE631.out) | exact HB.out)⟩⟩
     ·
      rw [if_neg c30] at H
      have c30b0 : (t633 == t626) = false := beq_eq_false_iff_ne.mpr c30
      have c30b1 : (t633 != t626) = true := bne_iff_ne.mpr c30
      have H' := aM H
      clear H
      go_wp2
      go_meet
      case rel => exact ⟨_, (true), (by first | rfl | (simp; done) | (simp [*]; done)), H', ⟨by first | omega | exact Nat.le_refl _⟩, ⟨by (with_reducible repeat (first | apply Kd.R_alloc | apply Kd.R_drewN | apply Kd.R_drew)); exact Kd.R_mono HO630.out (fun _ hk => trivial)⟩, ⟨by (with_reducible repeat (first | refine blk_drewN ?_ _ | refine blk_drew ?_ | refine blk_alloc ?_ _)); exact BK620.out⟩, ⟨by (with_reducible repeat (first | refine blk_drewN ?_ _ | refine blk_drew ?_ | refine blk_alloc ?_ _)); exact BK631.out⟩, ⟨by repeat (first | (with_reducible first | exact HB.out | apply below_alloc | apply pw_below_drewN | apply below_drew1 | refine below_set ?_ GE620.out | refine below_set ?_ GE631.out) | exact HB.out)⟩⟩
   case rest =>
    clear HC14
    try clear c2
    try clear p2
    try clear c3
    try clear c3b0
    try clear c3b1
    try clear c6
    try clear c6b0
    try clear c20
    try clear c22
    try clear c26
    try clear c27
    try clear c29
    try clear c29b0
    try clear c29b1
    try clear c29b2
    try clear c30
    try clear c30b0
    try clear c30b1
    try clear hcz16_0
    try clear hcz18_0
    try clear hcz22_0
    try clear hcz27_0
    try clear hcz8_0
    try clear hfz16_0
    try clear hfz18_0
    try clear hfz22_0
    try clear hfz27_0
    try clear hfz8_0
    obtain ⟨kq, x50_13, rfl, HA, HJ13, HO_632000, BK620, BK631, HB⟩ := hcut
    cases kq with
    | zero => exact absurd HA.out (by simp [laws_FnExactHasName.j0])
    | succ kj13 =>
     have H := HA.out
     clear HA
     simp only [laws_FnExactHasName.j0] at H
     by_cases c31 : x50_13 = true
     ·
      subst c31
      have H1 : (some false) = some r := by rw [if_pos rfl] at H; exact H
      clear H
      have H := H1
      clear H1
      obtain rfl := Option.some.inj H
      go_wp2
      go_ret
      exact ⟨by first | rfl | (simp [errW_none, errW_some] <;> rfl) | (simp [*, errW_none, errW_some] <;> rfl), by repeat (first | (with_reducible first | exact HB.out | apply below_alloc | apply pw_below_drewN | apply below_drew1 | refine below_set ?_ GE620.out | refine below_set ?_ GE631.out) | exact HB.out)⟩
     ·
      replace c31 := Bool.eq_false_iff.mpr c31
      subst c31
      have H1 : ((laws_toRadix.f kj13 l0_0).bind fun t635 => ((laws_eqRadix.f kj13 t628 t635).bind fun t638 => (if t638 = true then (some true) else (some false)))) = some r := by rw [if_neg (show ¬ (false = true) by decide)] at H; exact H
      clear H
      have H := H1
      clear H1
      replace H := Option.bind_eq_some_iff.mp H
      obtain ⟨t635, A320, H⟩ := H
      replace H : ((laws_eqRadix.f kj13 t628 t635).bind fun t638 => (if t638 = true then (some true) else (some false))) = some r := H
      have A32 := aM A320
      clear A320
      replace H := Option.bind_eq_some_iff.mp H
      obtain ⟨t638, A330, H⟩ := H
      replace H : (if t638 = true then (some true) else (some false)) = some r := H
      have A33 := aM A330
      clear A330
      by_cases c34 : t638 = true
      ·
       subst c34
       have H1 : (some true) = some r := by rw [if_pos rfl] at H; exact H
       clear H
       have H := H1
       clear H1
       obtain rfl := Option.some.inj H
       try go_wp2
       have n0_ := aM (Kd.R_drew HO_632000.out)
       have n1_ := aM (blk_drew BK620.out)
       have n2_ := aM (blk_drew BK631.out)
       have n3_ := aM (below_drew1 HB.out)
       clear HO_632000
       clear BK620
       clear BK631
       clear HB
       have HO_632000 := n0_
       have BK620 := n1_
       have BK631 := n2_
       have HB := n3_
       clear n0_ n1_ n2_ n3_
       refine start_ (n := 5) (S := fun w' => w'.cell? ⟨gb631, 0, none⟩ = some (.slice Ao25 t628.length co25) ∧ w'.cell? ⟨gb620, 0, none⟩ = some (.slice A0_0 l0_0.length c0_0)) (ds := []) (bq 5 0) (by kernel_rfl) rfl (by kernel_rfl) ⟨(blk_cell BK631.out 0).trans rfl, (blk_cell BK620.out 0).trans rfl⟩ (fun hHeld => ?_)
       generalize wc.drew = w35 at HO_632000 BK620 BK631 HB hHeld ⊢
       refine take_ (i := 0) (N := some 51) (v := ?_) (a' := ?_) (bq 5 1) rfl rfl (by kernel_rfl) (fun _ _ _ h => h) (Or.inl ⟨by rfl, ?_⟩) hHeld ?_ ?_; rotate_left; (rintro w' ⟨s0, s1⟩; go_simp; (with_reducible rfl)); rotate_left; (simp only [Act.put, zSA, zSB, zSC, i64_w, i32_w]; rfl)
       refine take_ (i := 1) (N := some 52) (v := ?_) (a' := ?_) (bq 5 3) rfl rfl (by kernel_rfl) (fun _ _ _ h => h) (Or.inl ⟨by rfl, ?_⟩) hHeld ?_ ?_; rotate_left; (rintro w' ⟨s0, s1⟩; go_simp; (with_reducible rfl)); rotate_left; (simp only [Act.put, zSA, zSB, zSC, i64_w, i32_w]; rfl)
       refine one_ (i := 2) (N := some 53) (bq 5 7) rfl rfl (by kernel_rfl) (by decide) (fun K hK => ?_)
       refine goes_ Try.func22 (by kernel_rfl) rfl #[.agg #[.slice A0_0 l0_0.length c0_0]] (by rfl) rfl rfl (by (try simp only [List.map_toArray, List.map_cons, List.map_nil]); first | done | rfl | (simp only [List.length_drop, List.length_take]; rfl)) ?_
       with_reducible refine (laws_toRadix.calls kj13 _ _ l0_0 t635 _ ?side1 ?side2 A32.out).mono ?_
       (case side1 => repeat (first | exact (Kd.C_below HR0_0.out HB.out) | (with_reducible refine Kd.C_alloc ?_ _) | (with_reducible refine Kd.C_drewN ?_ _) | (with_reducible refine Kd.C_drew ?_)))
       (case side2 => exact HC0_0.out)
       rintro e w36 ⟨v636, rfl, ho0, hb⟩
       refine ⟨_, rfl, ?_⟩
       have n0_ := aM (Kd.R_elder' (by (with_reducible repeat (first | apply Kd.R_alloc | apply Kd.R_drewN | apply Kd.R_drew)); exact HO_632000.out) (Kd.R_base ho0) hb)
       have n1_ := aM (Kd.R_lower (Kd.R_new' ho0 (Kd.R_lt (by (with_reducible repeat (first | apply Kd.R_alloc | apply Kd.R_drewN | apply Kd.R_drew)); exact HO_632000.out))) (below_size (by repeat (first | (with_reducible first | exact HB.out | apply below_alloc | apply pw_below_drewN | apply below_drew1 | refine below_set ?_ GE620.out | refine below_set ?_ GE631.out) | exact HB.out))))
       have n2_ := aM (blk_below (g := gb620) (o := .cells #[.slice A0_0 l0_0.length c0_0] 36 (0, 0)) (by (with_reducible repeat (first | refine blk_drewN ?_ _ | refine blk_drew ?_ | refine blk_alloc ?_ _)); exact BK620.out) hb)
       have n3_ := aM (blk_below (g := gb631) (o := .cells #[.slice Ao25 t628.length co25] 26 (0, 0)) (by (with_reducible repeat (first | refine blk_drewN ?_ _ | refine blk_drew ?_ | refine blk_alloc ?_ _)); exact BK631.out) hb)
       have n4_ := aM (below_step (by repeat (first | (with_reducible first | exact HB.out | apply below_alloc | apply pw_below_drewN | apply below_drew1 | refine below_set ?_ GE620.out | refine below_set ?_ GE631.out) | exact HB.out)) hb)
       clear HO_632000
       clear BK620
       clear BK631
       clear HB
       have HO_632000 := n0_
       have HO637 := n1_
       have BK620 := n2_
       have BK631 := n3_
       have HB := n4_
       clear n0_ n1_ n2_ n3_ n4_
       (try clear hb)
       (try clear hb2)
       (try clear hk)
       (try clear hi)
       (try clear ho0)
       obtain ⟨Ao37, co37, eo37⟩ := Kd.R_slice HO637.out
       (first | subst eo37 | (injection eo37 with f1_ f2_ f3_; have f4_ := f1_.symm; have f5_ := f3_.symm; clear f1_ f2_ f3_; subst f4_; subst f5_))
       refine hK.out _ _ ⟨(blk_cell BK631.out 0).trans rfl, (blk_cell BK620.out 0).trans rfl⟩ (fun hHeld => ?_)
       clear hK K
       refine norm_ (a' := ?_) ?_ ?_
       rotate_left
       ·
        show Act.put _ (some 53) _ = _
        simp only [Act.put, zSA, zSB, zSC, i64_w, i32_w]
        rfl
       refine one_ (i := 3) (N := some 54) (bq 5 15) rfl rfl (by kernel_rfl) (by decide) (fun K hK => ?_)
       refine goes_ Try.func15 (by kernel_rfl) rfl #[.agg #[.slice Ao25 t628.length co25], .agg #[.slice Ao37 t635.length co37]] (by rfl) rfl rfl (by (try simp only [List.map_toArray, List.map_cons, List.map_nil]); first | done | rfl | (simp only [List.length_drop, List.length_take]; rfl)) ?_
       with_reducible refine (laws_eqRadix.calls kj13 _ _ t628 _ _ t635 true _ ?side1 ?side2 ?side3 ?side4 A33.out).mono ?_
       (case side1 => repeat (first | exact (Kd.R_reads' HO_632000.out).2.2 | (with_reducible refine Kd.C_alloc ?_ _) | (with_reducible refine Kd.C_drewN ?_ _) | (with_reducible refine Kd.C_drew ?_)))
       (case side2 => exact (Kd.R_reads' HO_632000.out).2.1)
       (case side3 => repeat (first | exact (Kd.R_reads' HO637.out).2.2 | (with_reducible refine Kd.C_alloc ?_ _) | (with_reducible refine Kd.C_drewN ?_ _) | (with_reducible refine Kd.C_drew ?_)))
       (case side4 => exact (Kd.R_reads' HO637.out).2.1)
       rintro e w38 ⟨rfl, hb⟩
       refine ⟨_, rfl, ?_⟩
       have n0_ := aM (Kd.R_below (by (with_reducible repeat (first | apply Kd.R_alloc | apply Kd.R_drewN | apply Kd.R_drew)); exact HO_632000.out) hb)
       have n1_ := aM (Kd.R_below (by (with_reducible repeat (first | apply Kd.R_alloc | apply Kd.R_drewN | apply Kd.R_drew)); exact HO637.out) hb)
       have n2_ := aM (blk_below (g := gb620) (o := .cells #[.slice A0_0 l0_0.length c0_0] 36 (0, 0)) (by (with_reducible repeat (first | refine blk_drewN ?_ _ | refine blk_drew ?_ | refine blk_alloc ?_ _)); exact BK620.out) hb)
       have n3_ := aM (blk_below (g := gb631) (o := .cells #[.slice Ao25 t628.length co25] 26 (0, 0)) (by (with_reducible repeat (first | refine blk_drewN ?_ _ | refine blk_drew ?_ | refine blk_alloc ?_ _)); exact BK631.out) hb)
       have n4_ := aM (below_step (by repeat (first | (with_reducible first | exact HB.out | apply below_alloc | apply pw_below_drewN | apply below_drew1 | refine below_set ?_ GE620.out | refine below_set ?_ GE631.out) | exact HB.out)) hb)
       clear HO_632000
       clear HO637
       clear BK620
       clear BK631
       clear HB
       have HO_632000 := n0_
       have HO637 := n1_
       have BK620 := n2_
       have BK631 := n3_
       have HB := n4_
       clear n0_ n1_ n2_ n3_ n4_
       (try clear hb)
       (try clear hb2)
       (try clear hk)
       (try clear hi)
       refine hK.out _ _ ⟨(blk_cell BK631.out 0).trans rfl, (blk_cell BK620.out 0).trans rfl⟩ (fun hHeld => ?_)
       clear hK K
       refine norm_ (a' := ?_) ?_ ?_
       rotate_left
       ·
        show Act.put _ (some 54) _ = _
        simp only [Act.put, zSA, zSB, zSC, i64_w, i32_w]
        rfl
       refine pure_ (i := 4) (N := some 55) (v := ?_) (a' := ?_) (bq 5 31) rfl rfl (by kernel_rfl) (fun _ _ _ h => h) (Or.inl ⟨by rfl, ?_⟩) ?_ ?_; rotate_left; (intro w'; go_simp; (with_reducible rfl)); rotate_left; (simp only [Act.put, zSA, zSB, zSC, i64_w, i32_w]; rfl)
       refine done_ (by kernel_rfl) ?_
       try go_wp2
       go_ret
       exact ⟨by first | rfl | (simp [errW_none, errW_some] <;> rfl) | (simp [*, errW_none, errW_some] <;> rfl), by repeat (first | (with_reducible first | exact HB.out | apply below_alloc | apply pw_below_drewN | apply below_drew1 | refine below_set ?_ GE620.out | refine below_set ?_ GE631.out) | exact HB.out)⟩
      ·
       replace c34 := Bool.eq_false_iff.mpr c34
       subst c34
       have H1 : (some false) = some r := by rw [if_neg (show ¬ (false = true) by decide)] at H; exact H
       clear H
       have H := H1
       clear H1
       obtain rfl := Option.some.inj H
       try go_wp2
       have n0_ := aM (Kd.R_drew HO_632000.out)
       have n1_ := aM (blk_drew BK620.out)
       have n2_ := aM (blk_drew BK631.out)
       have n3_ := aM (below_drew1 HB.out)
       clear HO_632000
       clear BK620
       clear BK631
       clear HB
       have HO_632000 := n0_
       have BK620 := n1_
       have BK631 := n2_
       have HB := n3_
       clear n0_ n1_ n2_ n3_
       refine start_ (n := 5) (S := fun w' => w'.cell? ⟨gb631, 0, none⟩ = some (.slice Ao25 t628.length co25) ∧ w'.cell? ⟨gb620, 0, none⟩ = some (.slice A0_0 l0_0.length c0_0)) (ds := []) (bq 5 0) (by kernel_rfl) rfl (by kernel_rfl) ⟨(blk_cell BK631.out 0).trans rfl, (blk_cell BK620.out 0).trans rfl⟩ (fun hHeld => ?_)
       generalize wc.drew = w39 at HO_632000 BK620 BK631 HB hHeld ⊢
       refine take_ (i := 0) (N := some 51) (v := ?_) (a' := ?_) (bq 5 1) rfl rfl (by kernel_rfl) (fun _ _ _ h => h) (Or.inl ⟨by rfl, ?_⟩) hHeld ?_ ?_; rotate_left; (rintro w' ⟨s0, s1⟩; go_simp; (with_reducible rfl)); rotate_left; (simp only [Act.put, zSA, zSB, zSC, i64_w, i32_w]; rfl)
       refine take_ (i := 1) (N := some 52) (v := ?_) (a' := ?_) (bq 5 3) rfl rfl (by kernel_rfl) (fun _ _ _ h => h) (Or.inl ⟨by rfl, ?_⟩) hHeld ?_ ?_; rotate_left; (rintro w' ⟨s0, s1⟩; go_simp; (with_reducible rfl)); rotate_left; (simp only [Act.put, zSA, zSB, zSC, i64_w, i32_w]; rfl)
       refine one_ (i := 2) (N := some 53) (bq 5 7) rfl rfl (by kernel_rfl) (by decide) (fun K hK => ?_)
       refine goes_ Try.func22 (by kernel_rfl) rfl #[.agg #[.slice A0_0 l0_0.length c0_0]] (by rfl) rfl rfl (by (try simp only [List.map_toArray, List.map_cons, List.map_nil]); first | done | rfl | (simp only [List.length_drop, List.length_take]; rfl)) ?_
       with_reducible refine (laws_toRadix.calls kj13 _ _ l0_0 t635 _ ?side1 ?side2 A32.out).mono ?_
       (case side1 => repeat (first | exact (Kd.C_below HR0_0.out HB.out) | (with_reducible refine Kd.C_alloc ?_ _) | (with_reducible refine Kd.C_drewN ?_ _) | (with_reducible refine Kd.C_drew ?_)))
       (case side2 => exact HC0_0.out)
       rintro e w40 ⟨v636, rfl, ho0, hb⟩
       refine ⟨_, rfl, ?_⟩
       have n0_ := aM (Kd.R_elder' (by (with_reducible repeat (first | apply Kd.R_alloc | apply Kd.R_drewN | apply Kd.R_drew)); exact HO_632000.out) (Kd.R_base ho0) hb)
       have n1_ := aM (Kd.R_lower (Kd.R_new' ho0 (Kd.R_lt (by (with_reducible repeat (first | apply Kd.R_alloc | apply Kd.R_drewN | apply Kd.R_drew)); exact HO_632000.out))) (below_size (by repeat (first | (with_reducible first | exact HB.out | apply below_alloc | apply pw_below_drewN | apply below_drew1 | refine below_set ?_ GE620.out | refine below_set ?_ GE631.out) | exact HB.out))))
       have n2_ := aM (blk_below (g := gb620) (o := .cells #[.slice A0_0 l0_0.length c0_0] 36 (0, 0)) (by (with_reducible repeat (first | refine blk_drewN ?_ _ | refine blk_drew ?_ | refine blk_alloc ?_ _)); exact BK620.out) hb)
       have n3_ := aM (blk_below (g := gb631) (o := .cells #[.slice Ao25 t628.length co25] 26 (0, 0)) (by (with_reducible repeat (first | refine blk_drewN ?_ _ | refine blk_drew ?_ | refine blk_alloc ?_ _)); exact BK631.out) hb)
       have n4_ := aM (below_step (by repeat (first | (with_reducible first | exact HB.out | apply below_alloc | apply pw_below_drewN | apply below_drew1 | refine below_set ?_ GE620.out | refine below_set ?_ GE631.out) | exact HB.out)) hb)
       clear HO_632000
       clear BK620
       clear BK631
       clear HB
       have HO_632000 := n0_
       have HO637 := n1_
       have BK620 := n2_
       have BK631 := n3_
       have HB := n4_
       clear n0_ n1_ n2_ n3_ n4_
       (try clear hb)
       (try clear hb2)
       (try clear hk)
       (try clear hi)
       (try clear ho0)
       obtain ⟨Ao41, co41, eo41⟩ := Kd.R_slice HO637.out
       (first | subst eo41 | (injection eo41 with f1_ f2_ f3_; have f4_ := f1_.symm; have f5_ := f3_.symm; clear f1_ f2_ f3_; subst f4_; subst f5_))
       refine hK.out _ _ ⟨(blk_cell BK631.out 0).trans rfl, (blk_cell BK620.out 0).trans rfl⟩ (fun hHeld => ?_)
       clear hK K
       refine norm_ (a' := ?_) ?_ ?_
       rotate_left
       ·
        show Act.put _ (some 53) _ = _
        simp only [Act.put, zSA, zSB, zSC, i64_w, i32_w]
        rfl
       refine one_ (i := 3) (N := some 54) (bq 5 15) rfl rfl (by kernel_rfl) (by decide) (fun K hK => ?_)
       refine goes_ Try.func15 (by kernel_rfl) rfl #[.agg #[.slice Ao25 t628.length co25], .agg #[.slice Ao41 t635.length co41]] (by rfl) rfl rfl (by (try simp only [List.map_toArray, List.map_cons, List.map_nil]); first | done | rfl | (simp only [List.length_drop, List.length_take]; rfl)) ?_
       with_reducible refine (laws_eqRadix.calls kj13 _ _ t628 _ _ t635 false _ ?side1 ?side2 ?side3 ?side4 A33.out).mono ?_
       (case side1 => repeat (first | exact (Kd.R_reads' HO_632000.out).2.2 | (with_reducible refine Kd.C_alloc ?_ _) | (with_reducible refine Kd.C_drewN ?_ _) | (with_reducible refine Kd.C_drew ?_)))
       (case side2 => exact (Kd.R_reads' HO_632000.out).2.1)
       (case side3 => repeat (first | exact (Kd.R_reads' HO637.out).2.2 | (with_reducible refine Kd.C_alloc ?_ _) | (with_reducible refine Kd.C_drewN ?_ _) | (with_reducible refine Kd.C_drew ?_)))
       (case side4 => exact (Kd.R_reads' HO637.out).2.1)
       rintro e w42 ⟨rfl, hb⟩
       refine ⟨_, rfl, ?_⟩
       have n0_ := aM (Kd.R_below (by (with_reducible repeat (first | apply Kd.R_alloc | apply Kd.R_drewN | apply Kd.R_drew)); exact HO_632000.out) hb)
       have n1_ := aM (Kd.R_below (by (with_reducible repeat (first | apply Kd.R_alloc | apply Kd.R_drewN | apply Kd.R_drew)); exact HO637.out) hb)
       have n2_ := aM (blk_below (g := gb620) (o := .cells #[.slice A0_0 l0_0.length c0_0] 36 (0, 0)) (by (with_reducible repeat (first | refine blk_drewN ?_ _ | refine blk_drew ?_ | refine blk_alloc ?_ _)); exact BK620.out) hb)
       have n3_ := aM (blk_below (g := gb631) (o := .cells #[.slice Ao25 t628.length co25] 26 (0, 0)) (by (with_reducible repeat (first | refine blk_drewN ?_ _ | refine blk_drew ?_ | refine blk_alloc ?_ _)); exact BK631.out) hb)
       have n4_ := aM (below_step (by repeat (first | (with_reducible first | exact HB.out | apply below_alloc | apply pw_below_drewN | apply below_drew1 | refine below_set ?_ GE620.out | refine below_set ?_ GE631.out) | exact HB.out)) hb)
       clear HO_632000
       clear HO637
       clear BK620
       clear BK631
       clear HB
       have HO_632000 := n0_
       have HO637 := n1_
       have BK620 := n2_
       have BK631 := n3_
       have HB := n4_
       clear n0_ n1_ n2_ n3_ n4_
       (try clear hb)
       (try clear hb2)
       (try clear hk)
       (try clear hi)
       refine hK.out _ _ ⟨(blk_cell BK631.out 0).trans rfl, (blk_cell BK620.out 0).trans rfl⟩ (fun hHeld => ?_)
       clear hK K
       refine norm_ (a' := ?_) ?_ ?_
       rotate_left
       ·
        show Act.put _ (some 54) _ = _
        simp only [Act.put, zSA, zSB, zSC, i64_w, i32_w]
        rfl
       refine pure_ (i := 4) (N := some 55) (v := ?_) (a' := ?_) (bq 5 31) rfl rfl (by kernel_rfl) (fun _ _ _ h => h) (Or.inl ⟨by rfl, ?_⟩) ?_ ?_; rotate_left; (intro w'; go_simp; (with_reducible rfl)); rotate_left; (simp only [Act.put, zSA, zSB, zSC, i64_w, i32_w]; rfl)
       refine done_ (by kernel_rfl) ?_
       try go_wp2
       go_ret
       exact ⟨by first | rfl | (simp [errW_none, errW_some] <;> rfl) | (simp [*, errW_none, errW_some] <;> rfl), by repeat (first | (with_reducible first | exact HB.out | apply below_alloc | apply pw_below_drewN | apply below_drew1 | refine below_set ?_ GE620.out | refine below_set ?_ GE631.out) | exact HB.out)⟩

/-- THE ONE PURE STATEMENT of laws_FnExactHasName. -/
def laws_FnExactHasName.Pure : Prop := ∀ (l0_0 : List (S80)) (a1 : ByteArray), (l0_0.length ≤ maxLen ∧ ∀ x_ ∈ l0_0, (x_.f0.size ≤ maxLen ∧ (True ∧ (Lit.int .i64 x_.f2).wf = true))) → a1.size ≤ maxLen → ∃ k, laws_FnExactHasName.f k l0_0 a1 = some true
theorem laws_FnExactHasName.walk (P : laws_FnExactHasName.Pure) (A0_0 : Option Addr) (c0_0 : Nat) (l0_0 : List (S80)) (a1 : ByteArray) (w : World) (hr0_0 : Kd.C k80 w A0_0 l0_0.length l0_0) (hc0_0 : l0_0.length ≤ c0_0) (w0_0 : (l0_0.length ≤ maxLen ∧ ∀ x_ ∈ l0_0, (x_.f0.size ≤ maxLen ∧ (True ∧ (Lit.int .i64 x_.f2).wf = true)))) (w1 : a1.size ≤ maxLen) :
  Calls Try.prog 6 #[.agg #[.slice A0_0 l0_0.length c0_0], .string a1] w fun e w' => e = .returned (.bool true) ∧ Below w.heap.size w w' := by
 obtain ⟨k, h⟩ := P l0_0 a1 w0_0 w1
 refine (laws_FnExactHasName.calls k _ _ l0_0 a1 true w hr0_0 hc0_0 h).mono ?_
 rintro e w' ⟨rfl, hd⟩
 exact ⟨rfl, hd⟩

end Go.Proofs.Ytcngebfcpobnnaa.PQ
end

section
namespace Go.Proofs.Ytcngebfcpobnnaa.Pure
open Go.RowKit Go.Proofs.Ytcngebfcpobnnaa.PQ Go.Proofs.YtcngebfcpobnnaaW.PrintWords Go.Proofs.YtcngebfcpobnnaaW.PrintLast Go.Proofs.Ytcngebfcpobnnaa.Pre Go.Proofs.Ytcngebfcpobnnaa.Rx
theorem FnExactHasName : laws_FnExactHasName.Pure := by
 intro l a hw hwa
 refine Evt.ex (r := true) ?_
 obtain ⟨t, ht, h2⟩ := RxL.sz_ev l hw.1 (fun x hx => (hw.2 x hx).1)
 unfold laws_FnExactHasName.f
 by_cases hbig : (a.size : Int) > 1048576
 ·
  exact Evt.pos hbig (Evt.const _)
 refine Evt.neg hbig (Evt.bind ht ?_)
 by_cases hc : t < 0
 ·
  exact Evt.pos hc (Evt.const _)
 ·
  refine Evt.neg hc ?_
  have hs := h2 (by omega)
  have hto := RxL.to_ev l hs.1
  have hm : (l.map RxL.cvE).length ≤ 1048576 := by rw [List.length_map]; exact hs.1
  have hz : ∀ e ∈ l.map RxL.cvE, e.f0.size ≤ 1048576 := by
   intro e he
   obtain ⟨x, hx, rfl⟩ := List.mem_map.1 he
   exact hs.2 x hx
  generalize l.map RxL.cvE = r at hto hm hz
  have hS := specHas_ev r a hm hz (by omega)
  have hI : impl_HasName.f r a = some (ansHas r a) := if_pos ⟨hm, hz, by omega⟩
  refine Evt.bind hto (Evt.bind hS (Evt.bind hto ?_))
  rw [hI]
  refine Evt.bsome (Evt.neg (by simp) (Evt.pos rfl ?_))
  exact Evt.step (fun k => laws_FnExactHasName.j0.eq_2 _ _ _ k) (Evt.neg (by simp) (Evt.bind hto (Evt.bind (RxL.eq_ev r hm) (Evt.pos rfl (Evt.const _)))))
end Go.Proofs.Ytcngebfcpobnnaa.Pure
end
