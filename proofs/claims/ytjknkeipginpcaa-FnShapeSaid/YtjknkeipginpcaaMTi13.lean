/- Several texts in one: what the claim's last text rests on. No conditions. -/
import Derived.Test.YtjknkeipginpcaaMTi12
import Derived.Lib.SliceRun
import Derived.Deep.RegionLaw
import Derived.Test.YtjknkeipginpcaaMTi5
section
namespace Go.Proofs.Ytjknkeipginpcaa.TrG
set_option linter.unusedVariables false
set_option linter.unusedSimpArgs false
open Go.RowKit Go.Proofs.Ytjknkeipginpcaa.PQ Go.Proofs.YtjknkeipginpcaaW.PrintWords Go.Proofs.YtjknkeipginpcaaW.PrintLast Go.Proofs.YtjknkeipginpcaaW.PrintMore Go.Proofs.Ytjknkeipginpcaa.Pre Go.Proofs.Ytjknkeipginpcaa.Tr Go.Proofs.Ytjknkeipginpcaa.Pr Go.Proofs.Ytjknkeipginpcaa.Po
/-- What is written behind a row's elements, in its block, leaves it. -/
theorem R_tail {α : Type} {d : Kd α} {e : Nat} {w : World} {base g n c : Nat} {ok : Nat → Prop} {xs : List α} (h : Kd.R d e w base ok (.slice (some ⟨g, 0, none⟩) n c) xs) (o : Nat) (vs : List Value) (ho : n * d.sz ≤ o) (hfit : o + vs.length ≤ c * d.sz) :
  Kd.R d e (w.setCells g o vs) base ok (.slice (some ⟨g, 0, none⟩) n c) xs ∧ w.grownBy (w.setCells g o vs) (some g) := by
 obtain ⟨hn, _, _⟩ := Kd.R_reads' h
 subst hn
 obtain ⟨hok, inner, hown, hr⟩ := h
 rcases hown.2 with ⟨hv, _⟩ | ⟨g', cap', cur, hv, hb, hh, hnc, hcm, hcs, htake⟩
 ·
  cases hv
 injection hv with ha _ hc
 injection ha with ha
 injection ha with hg
 subst hg; subst hc
 obtain ⟨cur', h3, h4, h5⟩ := setCells_row vs o w cur hh (by rw [hcs]; exact hfit)
 obtain ⟨s1, s2, s3, s4⟩ := setCells_same g vs o w
 have hfar : ∀ k', k' ≠ g → (w.setCells g o vs).heap[k']? = w.heap[k']? := fun k' hk' => setCells_far vs _ k' hk'
 have hgo : some g = (Value.slice (some ⟨g, 0, none⟩) xs.length c).ownBlock := by simp [Value.ownBlock]
 refine ⟨⟨hok, inner, ⟨hown.1, .inr ⟨g, c, cur', rfl, hb, h3, hnc, hcm, by rw [h4, hcs], ?_⟩⟩, hr.imp_ (fun p q hp => d.M_move (fun k' hk' => hfar k' (fun he => hk'.2 (by rw [he, hgo]))) hp)⟩, ⟨s1, s2, s3, by rw [s4]; exact Nat.le_refl _, fun k' _ hk' => hfar k' (fun he => hk' (by rw [he]))⟩⟩
 have hle : o ≤ cur.toList.length := by rw [Array.length_toList, hcs]; omega
 rw [h5, List.append_assoc, List.take_append_of_le_length (by rw [List.length_take]; omega), List.take_take, Nat.min_eq_left ho]
 exact htake
/-- A row's block may be written up to its room. -/
theorem R_room {α : Type} {d : Kd α} {e : Nat} {w : World} {base g n c : Nat} {ok : Nat → Prop} {xs : List α} (h : Kd.R d e w base ok (.slice (some ⟨g, 0, none⟩) n c) xs) (j : Nat) (hj : j < c * d.sz) : (w.cell? ⟨g, j, none⟩).isSome = true ∧ w.frozen? ⟨g, j, none⟩ = false := by
 obtain ⟨hok, inner, hown, hr⟩ := h
 rcases hown.2 with ⟨hv, _⟩ | ⟨g', cap', cur, hv, hb, hh, hnc, hcm, hcs, htake⟩
 ·
  cases hv
 injection hv with ha _ hc
 injection ha with ha
 injection ha with hg
 subst hg; subst hc
 refine ⟨?_, blk_frozen hh _⟩
 rw [cell_of_row w g _ cur e (0, 0) hh]
 simp
 omega
theorem clear_run (w : World) (g n c c' : Nat) (hc : ∀ j, j < 2 → (w.cell? ⟨g, n * 2 + j, none⟩).isSome = true) (hf : ∀ j, j < 2 → w.frozen? ⟨g, n * 2 + j, none⟩ = false) (ty : TypeId) :
  (Builtin.clear_ #[66] ty #[.slice (some ⟨g, n * 2, none⟩) 1 c]).run Try.prog w = .ok (.tuple #[]) (w.setCells g (n * 2) [.string ⟨#[]⟩, .string ⟨#[]⟩]) := by
 have hz : ∀ w, (zeroValue 80).run Try.prog w = .ok (.agg #[.string ⟨#[]⟩, .string ⟨#[]⟩]) w := fun w => by kernel_rfl
 have hzc : (Builtin.zeroCells (Value.agg #[.string ⟨#[]⟩, .string ⟨#[]⟩]).cells 1).toList = [.string ⟨#[]⟩, .string ⟨#[]⟩] := by kernel_rfl
 have hst := run_storeCells_cells (P := Try.prog) g (n * 2) [.string ⟨#[]⟩, .string ⟨#[]⟩] 0 w (fun j hj => hc j hj) (fun j hj => hf j hj) (by intro v hv; simp at hv; subst hv; rfl)
 simp only [Nat.add_zero] at hst
 simp [Builtin.clear_, run_underlying Try.underlying66, hz, hzc, hst]
set_option maxHeartbeats 2000000 in
set_option maxRecDepth 100000 in
theorem delete (lo g n c k : Nat) (xs : List Pa) (w : World) (hR : Kd.R k80 80 w lo (fun _ => True) (.slice (some ⟨g, 0, none⟩) n c) xs) (hk : k < n) (hlo : lo ≤ w.heap.size) (hn : n ≤ 1048576) :
  Calls Try.prog 62 #[.slice (some ⟨g, 0, none⟩) n c, .int .i64 (k : Int), .int .i64 ((k : Int) + 1)] w fun e w' => e = .returned (.slice (some ⟨g, 0, none⟩) (n - 1) c) ∧ Kd.R k80 80 w' lo (fun _ => True) (.slice (some ⟨g, 0, none⟩) (n - 1) c) (xs.eraseIdx k) ∧ Below lo w w' := by
 obtain ⟨hxn, hnc, _⟩ := Kd.R_reads' hR
 have HR := aM hR
 have HK := aM hk
 have HLO := aM hlo
 have HNC := aM (⟨hxn.symm, hnc⟩ : xs.length = n ∧ n ≤ c)
 have hnk : ¬ n = k := by omega
 have hkk : ((k : Int) == (k : Int) + 1) = false := by simp; omega
 have hk1 : (k : Int) + 1 ≤ (n : Int) := by omega
 have hnb : (n : Int) ≤ 1048576 := by omega
 have hnc2 : (n : Int) ≤ (c : Int) := by omega
 have hic : k ≤ c := by omega
 have hjc : k + 1 ≤ c := by omega
 have hjn : k + 1 ≤ n := by omega
 have hk00 : (0 : Int) ≤ (k : Int) + 1 := by omega
 have hk0 : ¬ ((k : Int) = (k : Int) + 1) := by omega
 have ek : ((k : Int) + 1).toNat = k + 1 := by omega
 have HAD := aM (show (if c = k + 1 then some (⟨g, 0, none⟩ : Addr) else some ⟨g, (k + 1) * 2, none⟩) = if c = k + 1 then some ⟨g, 0, none⟩ else (some (⟨g, 0, none⟩ : Addr)).map (·.add ((k + 1) * (k80).sz)) by
  by_cases h : c = k + 1
  ·
   rw [if_pos h, if_pos h]
  ·
   rw [if_neg h, if_neg h]
   show some _ = some (Addr.add _ _)
   rw [add_plain]
   rfl)
 clear hR hk hlo hxn hnc hn
 go_enter Try.func62, Try.ntmps62
 go_wp2
 go_region_law (refine Kd.R_delete_step k80 (w0 := w) lo (by rfl) (.tmp 22) (.tmp 25) 66 80 rfl Try.underlying66 (by kernel_rfl) (g := g) (n := n) (c := c) (k := k) (m := n - (k + 1)) (c2 := c - (k + 1)) (A := if c = k + 1 then some ⟨g, 0, none⟩ else some ⟨g, (k + 1) * 2, none⟩) (by simp [Act.eval, Act.put]) (by simp [Act.eval, Act.put]) HAD.out rfl (Kd.R_drew HR.out) HK.out (Below.refl lo w).drew HLO.out ?_; intro W1 hr1 hb1 hg1; have HR1 := aM hr1; have HB1 := aM hb1; clear hr1 hb1 hg1)
 have HT := aM (R_tail HR1.out ((n - 1) * 2) [.string ⟨#[]⟩, .string ⟨#[]⟩] (Nat.le_refl _) (by show (n - 1) * 2 + 2 ≤ c * 2; have := HNC.out; omega))
 have hcl : ∀ ty c', (Builtin.clear_ #[66] ty #[.slice (some ⟨g, (n - 1) * 2, none⟩) (n - (n - 1)) c']).run Try.prog W1 = .ok (.tuple #[]) (W1.setCells g ((n - 1) * 2) [.string ⟨#[]⟩, .string ⟨#[]⟩]) := fun ty c' => by
  rw [show n - (n - 1) = 1 by omega]
  have hrm : ∀ j, j < 2 → (W1.cell? ⟨g, (n - 1) * 2 + j, none⟩).isSome = true ∧ W1.frozen? ⟨g, (n - 1) * 2 + j, none⟩ = false := fun j hj => R_room HR1.out _ (by show (n - 1) * 2 + j < c * 2; have := HNC.out; omega)
  exact clear_run W1 g (n - 1) c' 0 (fun j hj => (hrm j hj).1) (fun j hj => (hrm j hj).2) ty
 go_wp2
 all_goals
  go_ret
  first
  | exact ⟨rfl, HT.out.1, HB1.out.grown HT.out.2 (Nat.le_trans HLO.out HB1.out.size) (fun k hk => by injection hk with hk; subst hk; exact Kd.R_base HR1.out _ (by simp [Value.ownBlock]))⟩
  | (rename_i h; subst h; exact ⟨rfl, HT.out.1, HB1.out.grown HT.out.2 (Nat.le_trans HLO.out HB1.out.size) (fun k hk => by injection hk with hk; subst hk; exact Kd.R_base HR1.out _ (by simp [Value.ownBlock]))⟩)
theorem delete2 (lo g c k : Nat) (xs qs : List Pa) (w : World) (hq : qs = xs.eraseIdx k) (hR : Kd.R k80 80 w lo (fun _ => True) (.slice (some ⟨g, 0, none⟩) xs.length c) xs) (hk : k < xs.length) (hlo : lo ≤ w.heap.size) (hn : xs.length ≤ 1048576) :
  Calls Try.prog 62 #[.slice (some ⟨g, 0, none⟩) xs.length c, .int .i64 (k : Int), .int .i64 ((k : Int) + 1)] w fun e w' => e = .returned (.slice (some ⟨g, 0, none⟩) qs.length c) ∧ Kd.R k80 80 w' lo (fun _ => True) (.slice (some ⟨g, 0, none⟩) qs.length c) qs ∧ Below lo w w' := by
 subst hq
 have e : (xs.eraseIdx k).length = xs.length - 1 := by rw [List.length_eraseIdx_of_lt hk]
 rw [e]
 exact delete lo g xs.length c k xs w hR hk hlo hn
/-- What CutKey answers. -/
def ansC (L : List Lb) (key : ByteArray) : List Lb × Bool := if (ansP L).2 = true ∧ hsk ((ansP L).1.map BuI.kv) key = true then (enc (((ansP L).1.map BuI.kv).eraseIdx (plc ((ansP L).1.map BuI.kv) key)).length 0 (((ansP L).1.map BuI.kv).eraseIdx (plc ((ansP L).1.map BuI.kv) key)), true) else ([], false)
theorem kv_erase (ps : List Pa) (k : Nat) : (ps.eraseIdx k).map BuI.kv = (ps.map BuI.kv).eraseIdx k := by
 rw [List.eraseIdx_eq_take_drop_succ, List.eraseIdx_eq_take_drop_succ, List.map_append, List.map_take, List.map_drop]
theorem hsk_lt {l : List KV} {key : ByteArray} (h : hsk l key = true) : plc l key < l.length := by
 unfold hsk at h
 rw [Bool.and_eq_true] at h
 exact of_decide_eq_true h.1
theorem keys_ok {ps : List Pa} (h : ∀ x ∈ ps, x.f0.size ≤ 40 ∧ x.f1.size ≤ 60) : ∀ i : Nat, i < ps.length → (rd_T80 ps (i : Int)).f0.size ≤ 1048576 := by
 intro i hi
 have e : rd_T80 ps (i : Int) = ps[i] := by
  unfold rd_T80
  simp [hi]
 rw [e]
 have := (h _ (List.getElem_mem hi)).1
 omega
set_option maxHeartbeats 2000000 in
set_option maxRecDepth 100000 in
theorem cut_no1 (L : List Lb) (A : Option Addr) (c : Nat) (key : ByteArray) (w : World) (hC : Kd.C k71 w A L.length L) (hc1 : L.length ≤ c) (hLL : L.length ≤ 1048576) (hok : (ansP L).2 = false) :
  Calls Try.prog 34 #[.agg #[.slice A L.length c], .string key] w fun e w' => ∃ v0_ : Value, e = .returned (.tuple #[.agg #[v0_], .bool false]) ∧ Kd.R k71 71 w' w.heap.size (fun _ => True) v0_ [] ∧ Below w.heap.size w w' := by
 obtain ⟨wA, hwA⟩ : ∃ wA, wA = w.alloc (.cells #[.slice A L.length c] 29) := ⟨_, rfl⟩
 obtain ⟨wB, hwB⟩ : ∃ wB, wB = wA.alloc (.cells #[.slice none 0 0] 29) := ⟨_, rfl⟩
 have HWA := aM hwA
 have HWB := aM hwB
 have hsA : wA.heap.size = w.heap.size + 1 := by rw [hwA]; exact new_size _ _
 have HSB := aM (show wB.heap.size = w.heap.size + 2 by rw [hwB, new_size, hsA])
 have hBA : Below w.heap.size w wA := by rw [hwA]; exact below_alloc (Below.refl _ _) _
 have HBB := aM (show Below w.heap.size w wB by rw [hwB]; exact below_alloc hBA _)
 have HTB := aM (show wB.heap[w.heap.size]? = some (.cells #[.slice A L.length c] 29 (0, 0)) by rw [hwB]; exact xblk_alloc (by rw [hwA]; exact at_new _ _) _)
 have HRB := aM (show wB.heap[w.heap.size + 1]? = some (.cells #[.slice none 0 0] 29 (0, 0)) by rw [hwB, ← hsA]; exact at_new _ _)
 have ct : ((w.alloc (.cells #[.slice A L.length c] 29)).alloc (.cells #[.slice none 0 0] 29)).cell? ⟨w.heap.size, 0, none⟩ = some (.slice A L.length c) := by rw [← hwA, ← hwB]; exact (blk_cell HTB.out 0).trans rfl
 have HP := aM (Po.calls L A c wB (Kd.C_below hC HBB.out) hc1 hLL)
 have hri := ansP_ri L
 obtain ⟨ps, hps⟩ : ∃ ps, ps = (ansP L).1 := ⟨_, rfl⟩
 rw [← hps] at HP hri
 have HRI := aM hri
 have hpl : (ps.length : Int) ≤ 60 := by have := hri.2.1; omega
 rw [hok] at HP
 clear hwA hwB hsA hBA hC hc1 hLL hri hps hok
 go_enter Try.func34, Try.ntmps34
 go_upto_region 2 with (go_at_call 49; rw [← HWA.out, ← HWB.out]; go_loud ((with_reducible refine HP.out.mono ?_); rintro e w2 ⟨v2, rfl, ho2, hb2⟩; have HO2 := aM ho2; have HB2 := aM hb2; clear ho2 hb2))
 clear ct
 obtain ⟨A2, c2, e2⟩ := Kd.R_slice HO2.out
 subst e2
 have HL3 := aM (placeOf ps A2 c2 key w2 (Kd.reads1 HO2.out) (by omega) HRI.out.1)
 go_upto_region 3 with (go_at_call 61; go_loud ((with_reducible refine HL3.out.mono ?_); rintro e w3 ⟨rfl, hb3⟩; have HB3 := aM hb3; clear hb3))
 have HR3 := aM ((HB3.out.block (w.heap.size + 1) (by have := HB2.out.size; have := HSB.out; omega)).trans ((HB2.out.block (w.heap.size + 1) (by have := HSB.out; omega)).trans HRB.out))
 have cr : w3.cell? ⟨w.heap.size + 1, 0, none⟩ = some (.slice none 0 0) := (blk_cell HR3.out 0).trans rfl
 have fr : w3.frozen? ⟨w.heap.size + 1, 0, none⟩ = false := blk_frozen HR3.out 0
 go_wp2
 refine bodyPost_ret (results_ct rfl _ _ (w.heap.size + 1) 29 #[.slice none 0 0] (0, 0) _ rfl (blk_put HR3.out 0 _ rfl) Try.underlying29 rfl (by kernel_rfl)) rfl ?_
 have HBw := (HBB.out.trans (HB2.out.mono (by have := HSB.out; omega))).trans (HB3.out.mono (by have := HB2.out.size; have := HSB.out; omega))
 exact ⟨_, rfl, Kd.R_nil _ _ _ _ _, HBw.setCell (p := ⟨w.heap.size + 1, 0, none⟩) (by show w.heap.size ≤ w.heap.size + 1; omega) _⟩
set_option maxHeartbeats 2000000 in
set_option maxRecDepth 100000 in
theorem cut_no2 (L : List Lb) (A : Option Addr) (c : Nat) (key : ByteArray) (w : World) (hC : Kd.C k71 w A L.length L) (hc1 : L.length ≤ c) (hLL : L.length ≤ 1048576) (hok : (ansP L).2 = true) (hth : hsk ((ansP L).1.map BuI.kv) key = false) :
  Calls Try.prog 34 #[.agg #[.slice A L.length c], .string key] w fun e w' => ∃ v0_ : Value, e = .returned (.tuple #[.agg #[v0_], .bool false]) ∧ Kd.R k71 71 w' w.heap.size (fun _ => True) v0_ [] ∧ Below w.heap.size w w' := by
 obtain ⟨wA, hwA⟩ : ∃ wA, wA = w.alloc (.cells #[.slice A L.length c] 29) := ⟨_, rfl⟩
 obtain ⟨wB, hwB⟩ : ∃ wB, wB = wA.alloc (.cells #[.slice none 0 0] 29) := ⟨_, rfl⟩
 have HWA := aM hwA
 have HWB := aM hwB
 have hsA : wA.heap.size = w.heap.size + 1 := by rw [hwA]; exact new_size _ _
 have HSB := aM (show wB.heap.size = w.heap.size + 2 by rw [hwB, new_size, hsA])
 have hBA : Below w.heap.size w wA := by rw [hwA]; exact below_alloc (Below.refl _ _) _
 have HBB := aM (show Below w.heap.size w wB by rw [hwB]; exact below_alloc hBA _)
 have HTB := aM (show wB.heap[w.heap.size]? = some (.cells #[.slice A L.length c] 29 (0, 0)) by rw [hwB]; exact xblk_alloc (by rw [hwA]; exact at_new _ _) _)
 have HRB := aM (show wB.heap[w.heap.size + 1]? = some (.cells #[.slice none 0 0] 29 (0, 0)) by rw [hwB, ← hsA]; exact at_new _ _)
 have ct : ((w.alloc (.cells #[.slice A L.length c] 29)).alloc (.cells #[.slice none 0 0] 29)).cell? ⟨w.heap.size, 0, none⟩ = some (.slice A L.length c) := by rw [← hwA, ← hwB]; exact (blk_cell HTB.out 0).trans rfl
 have HP := aM (Po.calls L A c wB (Kd.C_below hC HBB.out) hc1 hLL)
 have hri := ansP_ri L
 obtain ⟨ps, hps⟩ : ∃ ps, ps = (ansP L).1 := ⟨_, rfl⟩
 rw [← hps] at HP hri
 have HRI := aM hri
 have hpl : (ps.length : Int) ≤ 60 := by have := hri.2.1; omega
 rw [hok] at HP
 rw [← hps] at hth
 have HTH := aM hth
 clear hwA hwB hsA hBA hC hc1 hLL hri hps hok hth
 go_enter Try.func34, Try.ntmps34
 go_upto_region 2 with (go_at_call 49; rw [← HWA.out, ← HWB.out]; go_loud ((with_reducible refine HP.out.mono ?_); rintro e w2 ⟨v2, rfl, ho2, hb2⟩; have HO2 := aM ho2; have HB2 := aM hb2; clear ho2 hb2))
 clear ct
 obtain ⟨A2, c2, e2⟩ := Kd.R_slice HO2.out
 subst e2
 have HL3 := aM (placeOf ps A2 c2 key w2 (Kd.reads1 HO2.out) (by omega) HRI.out.1)
 rw [HTH.out] at HL3
 go_upto_region 3 with (go_at_call 61; go_loud ((with_reducible refine HL3.out.mono ?_); rintro e w3 ⟨rfl, hb3⟩; have HB3 := aM hb3; clear hb3))
 have HR3 := aM ((HB3.out.block (w.heap.size + 1) (by have := HB2.out.size; have := HSB.out; omega)).trans ((HB2.out.block (w.heap.size + 1) (by have := HSB.out; omega)).trans HRB.out))
 have cr : w3.cell? ⟨w.heap.size + 1, 0, none⟩ = some (.slice none 0 0) := (blk_cell HR3.out 0).trans rfl
 have fr : w3.frozen? ⟨w.heap.size + 1, 0, none⟩ = false := blk_frozen HR3.out 0
 go_wp2
 refine bodyPost_ret (results_ct rfl _ _ (w.heap.size + 1) 29 #[.slice none 0 0] (0, 0) _ rfl (blk_put HR3.out 0 _ rfl) Try.underlying29 rfl (by kernel_rfl)) rfl ?_
 have HBw := (HBB.out.trans (HB2.out.mono (by have := HSB.out; omega))).trans (HB3.out.mono (by have := HB2.out.size; have := HSB.out; omega))
 exact ⟨_, rfl, Kd.R_nil _ _ _ _ _, HBw.setCell (p := ⟨w.heap.size + 1, 0, none⟩) (by show w.heap.size ≤ w.heap.size + 1; omega) _⟩
set_option maxHeartbeats 2000000 in
set_option maxRecDepth 100000 in
theorem cut_yes (L : List Lb) (A : Option Addr) (c : Nat) (key : ByteArray) (w : World) (hC : Kd.C k71 w A L.length L) (hc1 : L.length ≤ c) (hLL : L.length ≤ 1048576) (hok : (ansP L).2 = true) (hth : hsk ((ansP L).1.map BuI.kv) key = true) :
  Calls Try.prog 34 #[.agg #[.slice A L.length c], .string key] w fun e w' => ∃ v0_ : Value, e = .returned (.tuple #[.agg #[v0_], .bool true]) ∧ Kd.R k71 71 w' w.heap.size (fun _ => True) v0_ (enc (((ansP L).1.map BuI.kv).eraseIdx (plc ((ansP L).1.map BuI.kv) key)).length 0 (((ansP L).1.map BuI.kv).eraseIdx (plc ((ansP L).1.map BuI.kv) key))) ∧ Below w.heap.size w w' := by
 obtain ⟨wA, hwA⟩ : ∃ wA, wA = w.alloc (.cells #[.slice A L.length c] 29) := ⟨_, rfl⟩
 obtain ⟨wB, hwB⟩ : ∃ wB, wB = wA.alloc (.cells #[.slice none 0 0] 29) := ⟨_, rfl⟩
 have HWA := aM hwA
 have HWB := aM hwB
 have hsA : wA.heap.size = w.heap.size + 1 := by rw [hwA]; exact new_size _ _
 have HSB := aM (show wB.heap.size = w.heap.size + 2 by rw [hwB, new_size, hsA])
 have hBA : Below w.heap.size w wA := by rw [hwA]; exact below_alloc (Below.refl _ _) _
 have HBB := aM (show Below w.heap.size w wB by rw [hwB]; exact below_alloc hBA _)
 have HTB := aM (show wB.heap[w.heap.size]? = some (.cells #[.slice A L.length c] 29 (0, 0)) by rw [hwB]; exact xblk_alloc (by rw [hwA]; exact at_new _ _) _)
 have HRB := aM (show wB.heap[w.heap.size + 1]? = some (.cells #[.slice none 0 0] 29 (0, 0)) by rw [hwB, ← hsA]; exact at_new _ _)
 have ct : ((w.alloc (.cells #[.slice A L.length c] 29)).alloc (.cells #[.slice none 0 0] 29)).cell? ⟨w.heap.size, 0, none⟩ = some (.slice A L.length c) := by rw [← hwA, ← hwB]; exact (blk_cell HTB.out 0).trans rfl
 have HP := aM (Po.calls L A c wB (Kd.C_below hC HBB.out) hc1 hLL)
 have hri := ansP_ri L
 obtain ⟨ps, hps⟩ : ∃ ps, ps = (ansP L).1 := ⟨_, rfl⟩
 rw [← hps] at HP hri
 have HRI := aM hri
 have hpl : (ps.length : Int) ≤ 60 := by have := hri.2.1; omega
 rw [hok] at HP
 rw [← hps] at hth ⊢
 have HTH := aM hth
 have hplt := hsk_lt hth
 rw [List.length_map] at hplt
 obtain ⟨qs, hqs⟩ : ∃ qs, qs = ps.eraseIdx (plc (ps.map BuI.kv) key) := ⟨_, rfl⟩
 rw [← kv_erase, ← hqs]
 obtain ⟨zs, hzs⟩ : ∃ zs, zs = enc (qs.map BuI.kv).length 0 (qs.map BuI.kv) := ⟨_, rfl⟩
 rw [← hzs]
 have HQ := aM hqs
 have HZ := aM (show zs = enc qs.length 0 (qs.map BuI.kv) by rw [hzs, List.length_map])
 have HPT := aM hplt
 have hpi : ((plc (ps.map BuI.kv) key : Nat) : Int) ≤ 60 := by omega
 have HQS := aM (show ∀ x ∈ qs, x.f0.size ≤ 40 ∧ x.f1.size ≤ 60 from fun x hx => hri.2.2 x (by rw [hqs] at hx; exact List.mem_of_mem_eraseIdx hx))
 have HQL := aM (show qs.length ≤ 60 by rw [hqs, List.length_eraseIdx_of_lt hplt]; have := hri.2.1; omega)
 clear hwA hwB hsA hBA hC hc1 hLL hri hps hok hth hqs hzs hplt
 go_enter Try.func34, Try.ntmps34
 go_upto_region 2 with (go_at_call 49; rw [← HWA.out, ← HWB.out]; go_loud ((with_reducible refine HP.out.mono ?_); rintro e w2 ⟨v2, rfl, ho2, hb2⟩; have HO2 := aM ho2; have HB2 := aM hb2; clear ho2 hb2))
 clear ct
 obtain ⟨inner, hin⟩ := Kd.R_own HO2.out
 obtain ⟨g, c2, e2, hgb, hgl⟩ := hin.form (by have := HPT.out; omega)
 subst e2
 have HGB := aM hgb
 have HL3 := aM (placeOf ps (some ⟨g, 0, none⟩) c2 key w2 (Kd.reads1 HO2.out) (by omega) HRI.out.1)
 rw [HTH.out] at HL3
 generalize plc (ps.map BuI.kv) key = k at *
 clear hin hgb hgl
 go_upto_region 3 with (go_at_call 61; go_loud ((with_reducible refine HL3.out.mono ?_); rintro e w3 ⟨rfl, hb3⟩; have HB3 := aM hb3; clear hb3))
 have HR3 := aM ((HB3.out.block (w.heap.size + 1) (by have := HB2.out.size; have := HSB.out; omega)).trans ((HB2.out.block (w.heap.size + 1) (by have := HSB.out; omega)).trans HRB.out))
 have HO3 := aM (Kd.R_below HO2.out HB3.out)
 have HS3 := aM (show wB.heap.size ≤ w3.heap.size by have := HB2.out.size; have := HB3.out.size; omega)
 have HBw3 := aM ((HBB.out.trans (HB2.out.mono (by have := HSB.out; omega))).trans (HB3.out.mono (by have := HB2.out.size; have := HSB.out; omega)))
 have HD := aM (delete2 wB.heap.size g c2 k ps qs w3 HQ.out HO3.out HPT.out HS3.out (by omega))
 go_upto_region 5 with (fail)
 go_wp2_with (first
  | (go_at_call 62; go_loud ((with_reducible refine HD.out.mono ?_); rintro e w4 ⟨rfl, ho4, hb4⟩; have HO4 := aM ho4; have HB4 := aM hb4; have HT5 := aM (Tr.treapI qs (some ⟨g, 0, none⟩) c2 w4 (Kd.reads1 ho4) (Kd.reads2 ho4) (by have := HQL.out; omega) (keys_ok HQS.out)); have HR4 := aM ((hb4.block (w.heap.size + 1) (by have := HSB.out; omega)).trans HR3.out); clear ho4 hb4))
  | (go_at_call 57; go_loud ((with_reducible refine HT5.out.mono ?_); rintro e w5 ⟨v5, rfl, ho5, hb5⟩; rw [← HZ.out] at ho5; obtain ⟨A5, c5, e5⟩ := Kd.R_slice ho5; subst e5; have HO5 := aM ho5; have HB5 := aM hb5; have HR5 := aM ((hb5.block (w.heap.size + 1) (by have := HB4.out.size; have := HS3.out; have := HSB.out; omega)).trans HR4.out); have cr : w5.cell? ⟨w.heap.size + 1, 0, none⟩ = some (.slice none 0 0) := (blk_cell HR5.out 0).trans rfl; have fr : w5.frozen? ⟨w.heap.size + 1, 0, none⟩ = false := blk_frozen HR5.out 0; clear ho5 hb5)))
 refine bodyPost_ret (results_ct rfl _ _ (w.heap.size + 1) 29 #[.slice A5 zs.length c5] (0, 0) _ rfl (blk_put HR5.out 0 _ rfl) Try.underlying29 rfl (by kernel_rfl)) rfl ?_
 have hs4 : w.heap.size + 2 ≤ w4.heap.size := by have := HB4.out.size; have := HS3.out; have := HSB.out; omega
 have HBw := (HBw3.out.trans (HB4.out.mono (by have := HSB.out; omega))).trans (HB5.out.mono (by omega))
 refine ⟨_, rfl, ?_, HBw.setCell (p := ⟨w.heap.size + 1, 0, none⟩) (by show w.heap.size ≤ w.heap.size + 1; omega) _⟩
 have h1 := Kd.R_far (p := ⟨w.heap.size + 1, 0, none⟩) (Kd.R_bound HO5.out) (fun k hk => by have h1 := hk.2.1; show k ≠ w.heap.size + 1; omega) (.slice A5 zs.length c5)
 exact Kd.R_mono (Kd.R_lower h1 (by omega)) (fun _ _ => trivial)
theorem cutKey (L : List Lb) (A : Option Addr) (c : Nat) (key : ByteArray) (w : World) (hC : Kd.C k71 w A L.length L) (hc1 : L.length ≤ c) (hLL : L.length ≤ 1048576) :
  Calls Try.prog 34 #[.agg #[.slice A L.length c], .string key] w fun e w' => ∃ v0_ : Value, e = .returned (.tuple #[.agg #[v0_], .bool (ansC L key).2]) ∧ Kd.R k71 71 w' w.heap.size (fun _ => True) v0_ (ansC L key).1 ∧ Below w.heap.size w w' := by
 unfold ansC
 cases hok : (ansP L).2 with
 | false =>
  rw [if_neg (fun h => by cases h.1)]
  exact cut_no1 L A c key w hC hc1 hLL hok
 | true =>
  cases hth : hsk ((ansP L).1.map BuI.kv) key with
  | false =>
   rw [if_neg (fun h => by cases h.2)]
   exact cut_no2 L A c key w hC hc1 hLL hok hth
  | true =>
   rw [if_pos ⟨rfl, rfl⟩]
   exact cut_yes L A c key w hC hc1 hLL hok hth
end Go.Proofs.Ytjknkeipginpcaa.TrG
end

section
namespace Go.Proofs.Ytjknkeipginpcaa.PQ
open Go.RowKit Go.Proofs.YtjknkeipginpcaaW.PrintWords Go.Proofs.YtjknkeipginpcaaW.PrintLast Go.Proofs.YtjknkeipginpcaaW.PrintMore
attribute [local go_sem] max2_int min2_int max_two min_two max_three min_three max_four min_four
set_option linter.unusedVariables false
set_option linter.unusedSimpArgs false
def impl_CutKey.f (l0_0 : List (S71)) (a1 : ByteArray) : Option (List (S71) × Bool) := if l0_0.length ≤ 1048576 then some (TrG.ansC l0_0 a1) else none
theorem impl_CutKey.calls (A0_0 : Option Addr) (c0_0 : Nat) (l0_0 : List (S71)) (a1 : ByteArray) (r1 : List (S71)) (r2 : Bool) (w : World) (hr0_0 : Kd.C k71 w A0_0 l0_0.length l0_0) (hc0_0 : l0_0.length ≤ c0_0) (h : impl_CutKey.f l0_0 a1 = some (r1, r2)) :
  Calls Try.prog 34 #[.agg #[.slice A0_0 l0_0.length c0_0], .string a1] w fun e w' => ∃ v0_ : Value, e = .returned (.tuple #[.agg #[v0_], .bool r2]) ∧ Kd.R k71 71 w' w.heap.size (fun _ => True) v0_ r1 ∧ Below w.heap.size w w' := by
 unfold impl_CutKey.f at h
 split at h
 ·
  rename_i hs
  have h1 := Option.some.inj h
  have := TrG.cutKey l0_0 A0_0 c0_0 a1 w hr0_0 hc0_0 hs
  rw [h1] at this
  exact this
 ·
  cases h

end Go.Proofs.Ytjknkeipginpcaa.PQ
end
