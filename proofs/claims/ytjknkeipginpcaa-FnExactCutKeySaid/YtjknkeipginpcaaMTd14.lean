/- Several texts in one: what the claim's last text rests on. No conditions. -/
import Derived.Test.YtjknkeipginpcaaMTd13
import Derived.Lib.SliceRun
import Derived.Deep.RegionLaw
import Derived.Test.YtjknkeipginpcaaMTd5
import Derived.Test.YtjknkeipginpcaaMTd6
import Derived.Test.YtjknkeipginpcaaMTd12
section
/- Treaps: slices.Delete at pairs, one element, in place. No conditions. -/
namespace Go.Proofs.Ytjknkeipginpcaa.TrG
set_option linter.unusedVariables false
set_option linter.unusedSimpArgs false
open Go.RowKit Go.Proofs.Ytjknkeipginpcaa.PQ Go.Proofs.YtjknkeipginpcaaW.PrintWords Go.Proofs.YtjknkeipginpcaaW.PrintLast Go.Proofs.YtjknkeipginpcaaW.PrintMore Go.Proofs.Ytjknkeipginpcaa.Pre Go.Proofs.Ytjknkeipginpcaa.Tr Go.Proofs.Ytjknkeipginpcaa.Pr Go.Proofs.Ytjknkeipginpcaa.Po

/-- What is written behind a row's elements, in its block, leaves it. -/
theorem R_tail {α : Type} {d : Kd α} {e : Nat} {w : World} {base g n c : Nat} {ok : Nat → Prop} {xs : List α} (h : Kd.R d e w base ok (.slice (some ⟨g, 0, none⟩) n c) xs) (o : Nat) (vs : List Value) (ho : n * d.sz ≤ o) (hfit : o + vs.length ≤ c * d.sz) :
    Kd.R d e (w.setCells g o vs) base ok (.slice (some ⟨g, 0, none⟩) n c) xs ∧ w.grownBy (w.setCells g o vs) (some g) := by
  obtain ⟨hn, _, _⟩ := Kd.R_reads' h
  subst hn
  obtain ⟨hok, inner, hown, hr⟩ := h
  rcases hown.2 with ⟨hv, _⟩ | ⟨g', cap', cur, hv, hb, hh, hnc, hcm, hcs, htake⟩
  · cases hv
  injection hv with ha _ hc
  injection ha with ha
  injection ha with hg
  subst hg; subst hc
  obtain ⟨cur', h3, h4, h5⟩ := setCells_row vs o w cur hh (by rw [hcs]; exact hfit)
  obtain ⟨s1, s2, s3, s4⟩ := setCells_same g vs o w
  have hfar : ∀ k', k' ≠ g → (w.setCells g o vs).heap[k']? = w.heap[k']? := fun k' hk' => setCells_far vs _ k' hk'
  have hgo : some g = (Value.slice (some ⟨g, 0, none⟩) xs.length c).ownBlock := by simp [Value.ownBlock]
  refine ⟨⟨hok, inner, ⟨hown.1, .inr ⟨g, c, cur', rfl, hb, h3, hnc, hcm, by rw [h4, hcs], ?_⟩⟩, hr.imp_ (fun p q hp => d.M_move (fun k' hk' => hfar k' (fun he => hk'.2 (by rw [he, hgo]))) hp)⟩, ⟨s1, s2, s3, by rw [s4]; exact Nat.le_refl _, fun k' _ hk' => hfar k' (fun he => hk' (by rw [he]))⟩⟩
  have hle : o ≤ cur.toList.length := by rw [Array.length_toList, hcs]; omega
  rw [h5, List.append_assoc, List.take_append_of_le_length (by rw [List.length_take]; omega), List.take_take, Nat.min_eq_left ho]
  exact htake
/-- A row's block may be written up to its room. -/
theorem R_room {α : Type} {d : Kd α} {e : Nat} {w : World} {base g n c : Nat} {ok : Nat → Prop} {xs : List α} (h : Kd.R d e w base ok (.slice (some ⟨g, 0, none⟩) n c) xs) (j : Nat) (hj : j < c * d.sz) : (w.cell? ⟨g, j, none⟩).isSome = true ∧ w.frozen? ⟨g, j, none⟩ = false := by
  obtain ⟨hok, inner, hown, hr⟩ := h
  rcases hown.2 with ⟨hv, _⟩ | ⟨g', cap', cur, hv, hb, hh, hnc, hcm, hcs, htake⟩
  · cases hv
  injection hv with ha _ hc
  injection ha with ha
  injection ha with hg
  subst hg; subst hc
  refine ⟨?_, blk_frozen hh _⟩
  rw [cell_of_row w g _ cur e (0, 0) hh]
  simp
  omega
theorem clear_run (w : World) (g n c c' : Nat) (hc : ∀ j, j < 2 → (w.cell? ⟨g, n * 2 + j, none⟩).isSome = true) (hf : ∀ j, j < 2 → w.frozen? ⟨g, n * 2 + j, none⟩ = false) (ty : TypeId) :
    (Builtin.clear_ #[66] ty #[.slice (some ⟨g, n * 2, none⟩) 1 c]).run Try.prog w = .ok (.tuple #[]) (w.setCells g (n * 2) [.string ⟨#[]⟩, .string ⟨#[]⟩]) := by
  have hz : ∀ w, (zeroValue 80).run Try.prog w = .ok (.agg #[.string ⟨#[]⟩, .string ⟨#[]⟩]) w := fun w => by kernel_rfl
  have hzc : (Builtin.zeroCells (Value.agg #[.string ⟨#[]⟩, .string ⟨#[]⟩]).cells 1).toList = [.string ⟨#[]⟩, .string ⟨#[]⟩] := by kernel_rfl
  have hst := run_storeCells_cells (P := Try.prog) g (n * 2) [.string ⟨#[]⟩, .string ⟨#[]⟩] 0 w (fun j hj => hc j hj) (fun j hj => hf j hj) (by intro v hv; simp at hv; subst hv; rfl)
  simp only [Nat.add_zero] at hst
  simp [Builtin.clear_, run_underlying Try.underlying66, hz, hzc, hst]
set_option maxHeartbeats 2000000 in
set_option maxRecDepth 100000 in
theorem delete (lo g n c k : Nat) (xs : List Pa) (w : World) (hR : Kd.R k80 80 w lo (fun _ => True) (.slice (some ⟨g, 0, none⟩) n c) xs) (hk : k < n) (hlo : lo ≤ w.heap.size) (hn : n ≤ 1048576) :
    Calls Try.prog 62 #[.slice (some ⟨g, 0, none⟩) n c, .int .i64 (k : Int), .int .i64 ((k : Int) + 1)] w fun e w' => e = .returned (.slice (some ⟨g, 0, none⟩) (n - 1) c) ∧ Kd.R k80 80 w' lo (fun _ => True) (.slice (some ⟨g, 0, none⟩) (n - 1) c) (xs.eraseIdx k) ∧ Below lo w w' := by
  obtain ⟨hxn, hnc, _⟩ := Kd.R_reads' hR
  have HR := Aside0.mk hR
  have HK := Aside0.mk hk
  have HLO := Aside0.mk hlo
  have HNC := Aside0.mk (⟨hxn.symm, hnc⟩ : xs.length = n ∧ n ≤ c)
  have hnk : ¬ n = k := by omega
  have hkk : ((k : Int) == (k : Int) + 1) = false := by simp; omega
  have hk1 : (k : Int) + 1 ≤ (n : Int) := by omega
  have hnb : (n : Int) ≤ 1048576 := by omega
  have hnc2 : (n : Int) ≤ (c : Int) := by omega
  have hic : k ≤ c := by omega
  have hjc : k + 1 ≤ c := by omega
  have hjn : k + 1 ≤ n := by omega
  have hk00 : (0 : Int) ≤ (k : Int) + 1 := by omega
  have hk0 : ¬ ((k : Int) = (k : Int) + 1) := by omega
  have ek : ((k : Int) + 1).toNat = k + 1 := by omega
  have HAD := Aside0.mk (show (if c = k + 1 then some (⟨g, 0, none⟩ : Addr) else some ⟨g, (k + 1) * 2, none⟩) = if c = k + 1 then some ⟨g, 0, none⟩ else (some (⟨g, 0, none⟩ : Addr)).map (·.add ((k + 1) * (k80).sz)) by
    by_cases h : c = k + 1
    · rw [if_pos h, if_pos h]
    · rw [if_neg h, if_neg h]
      show some _ = some (Addr.add _ _)
      rw [add_plain]
      rfl)
  clear hR hk hlo hxn hnc hn
  go_enter Try.func62, Try.ntmps62
  go_wp2
  go_region_law (refine Kd.R_delete_step k80 (w0 := w) lo (by rfl) (.tmp 22) (.tmp 25) 66 80 rfl Try.underlying66 (by kernel_rfl) (g := g) (n := n) (c := c) (k := k) (m := n - (k + 1)) (c2 := c - (k + 1)) (A := if c = k + 1 then some ⟨g, 0, none⟩ else some ⟨g, (k + 1) * 2, none⟩) (by simp [Act.eval, Act.put]) (by simp [Act.eval, Act.put]) HAD.out rfl (Kd.R_drew HR.out) HK.out (Below.refl lo w).drew HLO.out ?_; intro W1 hr1 hb1 hg1; have HR1 := Aside0.mk hr1; have HB1 := Aside0.mk hb1; clear hr1 hb1 hg1)
  have HT := Aside0.mk (R_tail HR1.out ((n - 1) * 2) [.string ⟨#[]⟩, .string ⟨#[]⟩] (Nat.le_refl _) (by show (n - 1) * 2 + 2 ≤ c * 2; have := HNC.out; omega))
  have hcl : ∀ ty c', (Builtin.clear_ #[66] ty #[.slice (some ⟨g, (n - 1) * 2, none⟩) (n - (n - 1)) c']).run Try.prog W1 = .ok (.tuple #[]) (W1.setCells g ((n - 1) * 2) [.string ⟨#[]⟩, .string ⟨#[]⟩]) := fun ty c' => by
    rw [show n - (n - 1) = 1 by omega]
    have hrm : ∀ j, j < 2 → (W1.cell? ⟨g, (n - 1) * 2 + j, none⟩).isSome = true ∧ W1.frozen? ⟨g, (n - 1) * 2 + j, none⟩ = false := fun j hj => R_room HR1.out _ (by show (n - 1) * 2 + j < c * 2; have := HNC.out; omega)
    exact clear_run W1 g (n - 1) c' 0 (fun j hj => (hrm j hj).1) (fun j hj => (hrm j hj).2) ty
  go_wp2
  all_goals
    go_ret
    first
    | exact ⟨rfl, HT.out.1, HB1.out.grown HT.out.2 (Nat.le_trans HLO.out HB1.out.size) (fun k hk => by injection hk with hk; subst hk; exact Kd.R_base HR1.out _ (by simp [Value.ownBlock]))⟩
    | (rename_i h; subst h; exact ⟨rfl, HT.out.1, HB1.out.grown HT.out.2 (Nat.le_trans HLO.out HB1.out.size) (fun k hk => by injection hk with hk; subst hk; exact Kd.R_base HR1.out _ (by simp [Value.ownBlock]))⟩)
end Go.Proofs.Ytjknkeipginpcaa.TrG
end

section
/- impl.CutKey, by hand. No conditions. -/
namespace Go.Proofs.Ytjknkeipginpcaa.TrG
set_option linter.unusedVariables false
set_option linter.unusedSimpArgs false
open Go.RowKit Go.Proofs.Ytjknkeipginpcaa.PQ Go.Proofs.YtjknkeipginpcaaW.PrintWords Go.Proofs.YtjknkeipginpcaaW.PrintLast Go.Proofs.YtjknkeipginpcaaW.PrintMore Go.Proofs.Ytjknkeipginpcaa.Pre Go.Proofs.Ytjknkeipginpcaa.Tr Go.Proofs.Ytjknkeipginpcaa.Pr Go.Proofs.Ytjknkeipginpcaa.Po

theorem delete2 (lo g c k : Nat) (xs qs : List Pa) (w : World) (hq : qs = xs.eraseIdx k) (hR : Kd.R k80 80 w lo (fun _ => True) (.slice (some ⟨g, 0, none⟩) xs.length c) xs) (hk : k < xs.length) (hlo : lo ≤ w.heap.size) (hn : xs.length ≤ 1048576) :
    Calls Try.prog 62 #[.slice (some ⟨g, 0, none⟩) xs.length c, .int .i64 (k : Int), .int .i64 ((k : Int) + 1)] w fun e w' => e = .returned (.slice (some ⟨g, 0, none⟩) qs.length c) ∧ Kd.R k80 80 w' lo (fun _ => True) (.slice (some ⟨g, 0, none⟩) qs.length c) qs ∧ Below lo w w' := by
  subst hq
  have e : (xs.eraseIdx k).length = xs.length - 1 := by rw [List.length_eraseIdx_of_lt hk]
  rw [e]
  exact delete lo g xs.length c k xs w hR hk hlo hn
/-- What CutKey answers. -/
def ansC (L : List Lb) (key : ByteArray) : List Lb × Bool := if (ansP L).2 = true ∧ hsk ((ansP L).1.map BuI.kv) key = true then (enc (((ansP L).1.map BuI.kv).eraseIdx (plc ((ansP L).1.map BuI.kv) key)).length 0 (((ansP L).1.map BuI.kv).eraseIdx (plc ((ansP L).1.map BuI.kv) key)), true) else ([], false)
theorem kv_erase (ps : List Pa) (k : Nat) : (ps.eraseIdx k).map BuI.kv = (ps.map BuI.kv).eraseIdx k := by
  rw [List.eraseIdx_eq_take_drop_succ, List.eraseIdx_eq_take_drop_succ, List.map_append, List.map_take, List.map_drop]
theorem hsk_lt {l : List KV} {key : ByteArray} (h : hsk l key = true) : plc l key < l.length := by
  unfold hsk at h
  rw [Bool.and_eq_true] at h
  exact of_decide_eq_true h.1
theorem keys_ok {ps : List Pa} (h : ∀ x ∈ ps, x.f0.size ≤ 40 ∧ x.f1.size ≤ 60) : ∀ i : Nat, i < ps.length → (rd_T80 ps (i : Int)).f0.size ≤ 1048576 := by
  intro i hi
  have e : rd_T80 ps (i : Int) = ps[i] := by
    unfold rd_T80
    simp [hi]
  rw [e]
  have := (h _ (List.getElem_mem hi)).1
  omega
set_option maxHeartbeats 2000000 in
set_option maxRecDepth 100000 in
theorem cut_no1 (L : List Lb) (A : Option Addr) (c : Nat) (key : ByteArray) (w : World) (hC : Kd.C k71 w A L.length L) (hc1 : L.length ≤ c) (hLL : L.length ≤ 1048576) (hok : (ansP L).2 = false) :
    Calls Try.prog 34 #[.agg #[.slice A L.length c], .string key] w fun e w' => ∃ v0_ : Value, e = .returned (.tuple #[.agg #[v0_], .bool false]) ∧ Kd.R k71 71 w' w.heap.size (fun _ => True) v0_ [] ∧ Below w.heap.size w w' := by
  obtain ⟨wA, hwA⟩ : ∃ wA, wA = w.alloc (.cells #[.slice A L.length c] 29) := ⟨_, rfl⟩
  obtain ⟨wB, hwB⟩ : ∃ wB, wB = wA.alloc (.cells #[.slice none 0 0] 29) := ⟨_, rfl⟩
  have HWA := Aside0.mk hwA
  have HWB := Aside0.mk hwB
  have hsA : wA.heap.size = w.heap.size + 1 := by rw [hwA]; exact new_size _ _
  have HSB := Aside0.mk (show wB.heap.size = w.heap.size + 2 by rw [hwB, new_size, hsA])
  have hBA : Below w.heap.size w wA := by rw [hwA]; exact below_alloc (Below.refl _ _) _
  have HBB := Aside0.mk (show Below w.heap.size w wB by rw [hwB]; exact below_alloc hBA _)
  have HTB := Aside0.mk (show wB.heap[w.heap.size]? = some (.cells #[.slice A L.length c] 29 (0, 0)) by rw [hwB]; exact xblk_alloc (by rw [hwA]; exact at_new _ _) _)
  have HRB := Aside0.mk (show wB.heap[w.heap.size + 1]? = some (.cells #[.slice none 0 0] 29 (0, 0)) by rw [hwB, ← hsA]; exact at_new _ _)
  have ct : ((w.alloc (.cells #[.slice A L.length c] 29)).alloc (.cells #[.slice none 0 0] 29)).cell? ⟨w.heap.size, 0, none⟩ = some (.slice A L.length c) := by rw [← hwA, ← hwB]; exact (blk_cell HTB.out 0).trans rfl
  have HP := Aside0.mk (Po.calls L A c wB (Kd.C_below hC HBB.out) hc1 hLL)
  have hri := ansP_ri L
  obtain ⟨ps, hps⟩ : ∃ ps, ps = (ansP L).1 := ⟨_, rfl⟩
  rw [← hps] at HP hri
  have HRI := Aside0.mk hri
  have hpl : (ps.length : Int) ≤ 60 := by have := hri.2.1; omega
  rw [hok] at HP
  clear hwA hwB hsA hBA hC hc1 hLL hri hps hok
  go_enter Try.func34, Try.ntmps34
  go_upto_region 2 with (go_at_call 49; rw [← HWA.out, ← HWB.out]; go_loud ((with_reducible refine HP.out.mono ?_); rintro e w2 ⟨v2, rfl, ho2, hb2⟩; have HO2 := Aside0.mk ho2; have HB2 := Aside0.mk hb2; clear ho2 hb2))
  clear ct
  obtain ⟨A2, c2, e2⟩ := Kd.R_slice HO2.out
  subst e2
  have HL3 := Aside0.mk (placeOf ps A2 c2 key w2 (Kd.reads1 HO2.out) (by omega) HRI.out.1)
  go_upto_region 3 with (go_at_call 61; go_loud ((with_reducible refine HL3.out.mono ?_); rintro e w3 ⟨rfl, hb3⟩; have HB3 := Aside0.mk hb3; clear hb3))
  have HR3 := Aside0.mk ((HB3.out.block (w.heap.size + 1) (by have := HB2.out.size; have := HSB.out; omega)).trans ((HB2.out.block (w.heap.size + 1) (by have := HSB.out; omega)).trans HRB.out))
  have cr : w3.cell? ⟨w.heap.size + 1, 0, none⟩ = some (.slice none 0 0) := (blk_cell HR3.out 0).trans rfl
  have fr : w3.frozen? ⟨w.heap.size + 1, 0, none⟩ = false := blk_frozen HR3.out 0
  go_wp2
  refine bodyPost_ret (results_ct rfl _ _ (w.heap.size + 1) 29 #[.slice none 0 0] (0, 0) _ rfl (blk_put HR3.out 0 _ rfl) Try.underlying29 rfl (by kernel_rfl)) rfl ?_
  have HBw := (HBB.out.trans (HB2.out.mono (by have := HSB.out; omega))).trans (HB3.out.mono (by have := HB2.out.size; have := HSB.out; omega))
  exact ⟨_, rfl, Kd.R_nil _ _ _ _ _, HBw.setCell (p := ⟨w.heap.size + 1, 0, none⟩) (by show w.heap.size ≤ w.heap.size + 1; omega) _⟩
set_option maxHeartbeats 2000000 in
set_option maxRecDepth 100000 in
theorem cut_no2 (L : List Lb) (A : Option Addr) (c : Nat) (key : ByteArray) (w : World) (hC : Kd.C k71 w A L.length L) (hc1 : L.length ≤ c) (hLL : L.length ≤ 1048576) (hok : (ansP L).2 = true) (hth : hsk ((ansP L).1.map BuI.kv) key = false) :
    Calls Try.prog 34 #[.agg #[.slice A L.length c], .string key] w fun e w' => ∃ v0_ : Value, e = .returned (.tuple #[.agg #[v0_], .bool false]) ∧ Kd.R k71 71 w' w.heap.size (fun _ => True) v0_ [] ∧ Below w.heap.size w w' := by
  obtain ⟨wA, hwA⟩ : ∃ wA, wA = w.alloc (.cells #[.slice A L.length c] 29) := ⟨_, rfl⟩
  obtain ⟨wB, hwB⟩ : ∃ wB, wB = wA.alloc (.cells #[.slice none 0 0] 29) := ⟨_, rfl⟩
  have HWA := Aside0.mk hwA
  have HWB := Aside0.mk hwB
  have hsA : wA.heap.size = w.heap.size + 1 := by rw [hwA]; exact new_size _ _
  have HSB := Aside0.mk (show wB.heap.size = w.heap.size + 2 by rw [hwB, new_size, hsA])
  have hBA : Below w.heap.size w wA := by rw [hwA]; exact below_alloc (Below.refl _ _) _
  have HBB := Aside0.mk (show Below w.heap.size w wB by rw [hwB]; exact below_alloc hBA _)
  have HTB := Aside0.mk (show wB.heap[w.heap.size]? = some (.cells #[.slice A L.length c] 29 (0, 0)) by rw [hwB]; exact xblk_alloc (by rw [hwA]; exact at_new _ _) _)
  have HRB := Aside0.mk (show wB.heap[w.heap.size + 1]? = some (.cells #[.slice none 0 0] 29 (0, 0)) by rw [hwB, ← hsA]; exact at_new _ _)
  have ct : ((w.alloc (.cells #[.slice A L.length c] 29)).alloc (.cells #[.slice none 0 0] 29)).cell? ⟨w.heap.size, 0, none⟩ = some (.slice A L.length c) := by rw [← hwA, ← hwB]; exact (blk_cell HTB.out 0).trans rfl
  have HP := Aside0.mk (Po.calls L A c wB (Kd.C_below hC HBB.out) hc1 hLL)
  have hri := ansP_ri L
  obtain ⟨ps, hps⟩ : ∃ ps, ps = (ansP L).1 := ⟨_, rfl⟩
  rw [← hps] at HP hri
  have HRI := Aside0.mk hri
  have hpl : (ps.length : Int) ≤ 60 := by have := hri.2.1; omega
  rw [hok] at HP
  rw [← hps] at hth
  have HTH := Aside0.mk hth
  clear hwA hwB hsA hBA hC hc1 hLL hri hps hok hth
  go_enter Try.func34, Try.ntmps34
  go_upto_region 2 with (go_at_call 49; rw [← HWA.out, ← HWB.out]; go_loud ((with_reducible refine HP.out.mono ?_); rintro e w2 ⟨v2, rfl, ho2, hb2⟩; have HO2 := Aside0.mk ho2; have HB2 := Aside0.mk hb2; clear ho2 hb2))
  clear ct
  obtain ⟨A2, c2, e2⟩ := Kd.R_slice HO2.out
  subst e2
  have HL3 := Aside0.mk (placeOf ps A2 c2 key w2 (Kd.reads1 HO2.out) (by omega) HRI.out.1)
  rw [HTH.out] at HL3
  go_upto_region 3 with (go_at_call 61; go_loud ((with_reducible refine HL3.out.mono ?_); rintro e w3 ⟨rfl, hb3⟩; have HB3 := Aside0.mk hb3; clear hb3))
  have HR3 := Aside0.mk ((HB3.out.block (w.heap.size + 1) (by have := HB2.out.size; have := HSB.out; omega)).trans ((HB2.out.block (w.heap.size + 1) (by have := HSB.out; omega)).trans HRB.out))
  have cr : w3.cell? ⟨w.heap.size + 1, 0, none⟩ = some (.slice none 0 0) := (blk_cell HR3.out 0).trans rfl
  have fr : w3.frozen? ⟨w.heap.size + 1, 0, none⟩ = false := blk_frozen HR3.out 0
  go_wp2
  refine bodyPost_ret (results_ct rfl _ _ (w.heap.size + 1) 29 #[.slice none 0 0] (0, 0) _ rfl (blk_put HR3.out 0 _ rfl) Try.underlying29 rfl (by kernel_rfl)) rfl ?_
  have HBw := (HBB.out.trans (HB2.out.mono (by have := HSB.out; omega))).trans (HB3.out.mono (by have := HB2.out.size; have := HSB.out; omega))
  exact ⟨_, rfl, Kd.R_nil _ _ _ _ _, HBw.setCell (p := ⟨w.heap.size + 1, 0, none⟩) (by show w.heap.size ≤ w.heap.size + 1; omega) _⟩
set_option maxHeartbeats 2000000 in
set_option maxRecDepth 100000 in
theorem cut_yes (L : List Lb) (A : Option Addr) (c : Nat) (key : ByteArray) (w : World) (hC : Kd.C k71 w A L.length L) (hc1 : L.length ≤ c) (hLL : L.length ≤ 1048576) (hok : (ansP L).2 = true) (hth : hsk ((ansP L).1.map BuI.kv) key = true) :
    Calls Try.prog 34 #[.agg #[.slice A L.length c], .string key] w fun e w' => ∃ v0_ : Value, e = .returned (.tuple #[.agg #[v0_], .bool true]) ∧ Kd.R k71 71 w' w.heap.size (fun _ => True) v0_ (enc (((ansP L).1.map BuI.kv).eraseIdx (plc ((ansP L).1.map BuI.kv) key)).length 0 (((ansP L).1.map BuI.kv).eraseIdx (plc ((ansP L).1.map BuI.kv) key))) ∧ Below w.heap.size w w' := by
  obtain ⟨wA, hwA⟩ : ∃ wA, wA = w.alloc (.cells #[.slice A L.length c] 29) := ⟨_, rfl⟩
  obtain ⟨wB, hwB⟩ : ∃ wB, wB = wA.alloc (.cells #[.slice none 0 0] 29) := ⟨_, rfl⟩
  have HWA := Aside0.mk hwA
  have HWB := Aside0.mk hwB
  have hsA : wA.heap.size = w.heap.size + 1 := by rw [hwA]; exact new_size _ _
  have HSB := Aside0.mk (show wB.heap.size = w.heap.size + 2 by rw [hwB, new_size, hsA])
  have hBA : Below w.heap.size w wA := by rw [hwA]; exact below_alloc (Below.refl _ _) _
  have HBB := Aside0.mk (show Below w.heap.size w wB by rw [hwB]; exact below_alloc hBA _)
  have HTB := Aside0.mk (show wB.heap[w.heap.size]? = some (.cells #[.slice A L.length c] 29 (0, 0)) by rw [hwB]; exact xblk_alloc (by rw [hwA]; exact at_new _ _) _)
  have HRB := Aside0.mk (show wB.heap[w.heap.size + 1]? = some (.cells #[.slice none 0 0] 29 (0, 0)) by rw [hwB, ← hsA]; exact at_new _ _)
  have ct : ((w.alloc (.cells #[.slice A L.length c] 29)).alloc (.cells #[.slice none 0 0] 29)).cell? ⟨w.heap.size, 0, none⟩ = some (.slice A L.length c) := by rw [← hwA, ← hwB]; exact (blk_cell HTB.out 0).trans rfl
  have HP := Aside0.mk (Po.calls L A c wB (Kd.C_below hC HBB.out) hc1 hLL)
  have hri := ansP_ri L
  obtain ⟨ps, hps⟩ : ∃ ps, ps = (ansP L).1 := ⟨_, rfl⟩
  rw [← hps] at HP hri
  have HRI := Aside0.mk hri
  have hpl : (ps.length : Int) ≤ 60 := by have := hri.2.1; omega
  rw [hok] at HP
  rw [← hps] at hth ⊢
  have HTH := Aside0.mk hth
  have hplt := hsk_lt hth
  rw [List.length_map] at hplt
  obtain ⟨qs, hqs⟩ : ∃ qs, qs = ps.eraseIdx (plc (ps.map BuI.kv) key) := ⟨_, rfl⟩
  rw [← kv_erase, ← hqs]
  obtain ⟨zs, hzs⟩ : ∃ zs, zs = enc (qs.map BuI.kv).length 0 (qs.map BuI.kv) := ⟨_, rfl⟩
  rw [← hzs]
  have HQ := Aside0.mk hqs
  have HZ := Aside0.mk (show zs = enc qs.length 0 (qs.map BuI.kv) by rw [hzs, List.length_map])
  have HPT := Aside0.mk hplt
  have hpi : ((plc (ps.map BuI.kv) key : Nat) : Int) ≤ 60 := by omega
  have HQS := Aside0.mk (show ∀ x ∈ qs, x.f0.size ≤ 40 ∧ x.f1.size ≤ 60 from fun x hx => hri.2.2 x (by rw [hqs] at hx; exact List.mem_of_mem_eraseIdx hx))
  have HQL := Aside0.mk (show qs.length ≤ 60 by rw [hqs, List.length_eraseIdx_of_lt hplt]; have := hri.2.1; omega)
  clear hwA hwB hsA hBA hC hc1 hLL hri hps hok hth hqs hzs hplt
  go_enter Try.func34, Try.ntmps34
  go_upto_region 2 with (go_at_call 49; rw [← HWA.out, ← HWB.out]; go_loud ((with_reducible refine HP.out.mono ?_); rintro e w2 ⟨v2, rfl, ho2, hb2⟩; have HO2 := Aside0.mk ho2; have HB2 := Aside0.mk hb2; clear ho2 hb2))
  clear ct
  obtain ⟨inner, hin⟩ := Kd.R_own HO2.out
  obtain ⟨g, c2, e2, hgb, hgl⟩ := hin.form (by have := HPT.out; omega)
  subst e2
  have HGB := Aside0.mk hgb
  have HL3 := Aside0.mk (placeOf ps (some ⟨g, 0, none⟩) c2 key w2 (Kd.reads1 HO2.out) (by omega) HRI.out.1)
  rw [HTH.out] at HL3
  generalize plc (ps.map BuI.kv) key = k at *
  clear hin hgb hgl
  go_upto_region 3 with (go_at_call 61; go_loud ((with_reducible refine HL3.out.mono ?_); rintro e w3 ⟨rfl, hb3⟩; have HB3 := Aside0.mk hb3; clear hb3))
  have HR3 := Aside0.mk ((HB3.out.block (w.heap.size + 1) (by have := HB2.out.size; have := HSB.out; omega)).trans ((HB2.out.block (w.heap.size + 1) (by have := HSB.out; omega)).trans HRB.out))
  have HO3 := Aside0.mk (Kd.R_below HO2.out HB3.out)
  have HS3 := Aside0.mk (show wB.heap.size ≤ w3.heap.size by have := HB2.out.size; have := HB3.out.size; omega)
  have HBw3 := Aside0.mk ((HBB.out.trans (HB2.out.mono (by have := HSB.out; omega))).trans (HB3.out.mono (by have := HB2.out.size; have := HSB.out; omega)))
  have HD := Aside0.mk (delete2 wB.heap.size g c2 k ps qs w3 HQ.out HO3.out HPT.out HS3.out (by omega))
  go_upto_region 5 with (fail)
  go_wp2_with (first
    | (go_at_call 62; go_loud ((with_reducible refine HD.out.mono ?_); rintro e w4 ⟨rfl, ho4, hb4⟩; have HO4 := Aside0.mk ho4; have HB4 := Aside0.mk hb4; have HT5 := Aside0.mk (Tr.treapI qs (some ⟨g, 0, none⟩) c2 w4 (Kd.reads1 ho4) (Kd.reads2 ho4) (by have := HQL.out; omega) (keys_ok HQS.out)); have HR4 := Aside0.mk ((hb4.block (w.heap.size + 1) (by have := HSB.out; omega)).trans HR3.out); clear ho4 hb4))
    | (go_at_call 57; go_loud ((with_reducible refine HT5.out.mono ?_); rintro e w5 ⟨v5, rfl, ho5, hb5⟩; rw [← HZ.out] at ho5; obtain ⟨A5, c5, e5⟩ := Kd.R_slice ho5; subst e5; have HO5 := Aside0.mk ho5; have HB5 := Aside0.mk hb5; have HR5 := Aside0.mk ((hb5.block (w.heap.size + 1) (by have := HB4.out.size; have := HS3.out; have := HSB.out; omega)).trans HR4.out); have cr : w5.cell? ⟨w.heap.size + 1, 0, none⟩ = some (.slice none 0 0) := (blk_cell HR5.out 0).trans rfl; have fr : w5.frozen? ⟨w.heap.size + 1, 0, none⟩ = false := blk_frozen HR5.out 0; clear ho5 hb5)))
  refine bodyPost_ret (results_ct rfl _ _ (w.heap.size + 1) 29 #[.slice A5 zs.length c5] (0, 0) _ rfl (blk_put HR5.out 0 _ rfl) Try.underlying29 rfl (by kernel_rfl)) rfl ?_
  have hs4 : w.heap.size + 2 ≤ w4.heap.size := by have := HB4.out.size; have := HS3.out; have := HSB.out; omega
  have HBw := (HBw3.out.trans (HB4.out.mono (by have := HSB.out; omega))).trans (HB5.out.mono (by omega))
  refine ⟨_, rfl, ?_, HBw.setCell (p := ⟨w.heap.size + 1, 0, none⟩) (by show w.heap.size ≤ w.heap.size + 1; omega) _⟩
  have h1 := Kd.R_far (p := ⟨w.heap.size + 1, 0, none⟩) (Kd.R_bound HO5.out) (fun k hk => by have h1 := hk.2.1; show k ≠ w.heap.size + 1; omega) (.slice A5 zs.length c5)
  exact Kd.R_mono (Kd.R_lower h1 (by omega)) (fun _ _ => trivial)
theorem cutKey (L : List Lb) (A : Option Addr) (c : Nat) (key : ByteArray) (w : World) (hC : Kd.C k71 w A L.length L) (hc1 : L.length ≤ c) (hLL : L.length ≤ 1048576) :
    Calls Try.prog 34 #[.agg #[.slice A L.length c], .string key] w fun e w' => ∃ v0_ : Value, e = .returned (.tuple #[.agg #[v0_], .bool (ansC L key).2]) ∧ Kd.R k71 71 w' w.heap.size (fun _ => True) v0_ (ansC L key).1 ∧ Below w.heap.size w w' := by
  unfold ansC
  cases hok : (ansP L).2 with
  | false =>
    rw [if_neg (fun h => by cases h.1)]
    exact cut_no1 L A c key w hC hc1 hLL hok
  | true =>
    cases hth : hsk ((ansP L).1.map BuI.kv) key with
    | false =>
      rw [if_neg (fun h => by cases h.2)]
      exact cut_no2 L A c key w hC hc1 hLL hok hth
    | true =>
      rw [if_pos ⟨rfl, rfl⟩]
      exact cut_yes L A c key w hC hc1 hLL hok hth
end Go.Proofs.Ytjknkeipginpcaa.TrG
end

section
-- Written by a program of this session (pprint.py) out of the translation's print; Lean checks it.
namespace Go.Proofs.Ytjknkeipginpcaa.PQ
open Go.RowKit Go.Proofs.YtjknkeipginpcaaW.PrintWords Go.Proofs.YtjknkeipginpcaaW.PrintLast Go.Proofs.YtjknkeipginpcaaW.PrintMore
attribute [local go_sem] max2_int min2_int max_two min_two max_three min_three max_four min_four   -- for this text's walks alone
set_option linter.unusedVariables false
set_option linter.unusedSimpArgs false

--OWNPART impl_CutKey
/-! ### impl_CutKey: function 34, by hand -/
--NEEDS loop.example/g00274/impl.GoodTreap
--NEEDS loop.example/g00274/spec.l7Of
--IMPORT TrX
def impl_CutKey.f (l0_0 : List (S71)) (a1 : ByteArray) : Option (List (S71) × Bool) := if l0_0.length ≤ 1048576 then some (TrG.ansC l0_0 a1) else none
theorem impl_CutKey.calls (A0_0 : Option Addr) (c0_0 : Nat) (l0_0 : List (S71)) (a1 : ByteArray) (r1 : List (S71)) (r2 : Bool) (w : World) (hr0_0 : Kd.C k71 w A0_0 l0_0.length l0_0) (hc0_0 : l0_0.length ≤ c0_0) (h : impl_CutKey.f l0_0 a1 = some (r1, r2)) :
  Calls Try.prog 34 #[.agg #[.slice A0_0 l0_0.length c0_0], .string a1] w fun e w' => ∃ v0_ : Value, e = .returned (.tuple #[.agg #[v0_], .bool r2]) ∧ Kd.R k71 71 w' w.heap.size (fun _ => True) v0_ r1 ∧ Below w.heap.size w w' := by
 unfold impl_CutKey.f at h
 split at h
 ·
  rename_i hs
  have h1 := Option.some.inj h
  have := TrG.cutKey l0_0 A0_0 c0_0 a1 w hr0_0 hc0_0 hs
  rw [h1] at this
  exact this
 ·
  cases h

end Go.Proofs.Ytjknkeipginpcaa.PQ
end

section
-- Written by a program of this session (pprint.py) out of the translation's print; Lean checks it.
namespace Go.Proofs.Ytjknkeipginpcaa.PQ
open Go.RowKit Go.Proofs.YtjknkeipginpcaaW.PrintWords Go.Proofs.YtjknkeipginpcaaW.PrintLast Go.Proofs.YtjknkeipginpcaaW.PrintMore
attribute [local go_sem] max2_int min2_int max_two min_two max_three min_three max_four min_four   -- for this text's walks alone
set_option linter.unusedVariables false
set_option linter.unusedSimpArgs false

/-! ### laws_FnExactCutKey: function 9 -/
mutual
def laws_FnExactCutKey.j0 : Nat → ByteArray → Bool → Bool → Bool → List (S99) → List (S71) → List (S71) → List (S71) → Option (Bool)
 | 0, _, _, _, _, _, _, _, _ => none
 | k + 1, x1, x7, x10, x47, x616000, x625000, x629000, x634000 => if x47 = true then (some false) else ((laws_toTreap.f k x616000).bind fun t635 => ((laws_eqTreap.f k x629000 t635).bind fun t638 => (if t638 = true then ((laws_markTreap.f k x629000 1).bind fun bt639 => (if bt639.1 < 0 then (laws_FnExactCutKey.j1 k x1 x7 true x616000 x625000 x634000) else ((laws_eqTreap.f k x634000 x625000).bind fun t641 => (if t641 = true then (laws_FnExactCutKey.j1 k x1 x7 (x10 != x7) x616000 x625000 x634000) else (laws_FnExactCutKey.j1 k x1 x7 true x616000 x625000 x634000))))) else (some false))))
def laws_FnExactCutKey.j1 : Nat → ByteArray → Bool → Bool → List (S99) → List (S71) → List (S71) → Option (Bool)
 | 0, _, _, _, _, _, _ => none
 | k + 1, x1, x7, x68, x616000, x625000, x634000 => if x68 = true then (some false) else ((laws_markTreap.f k x634000 1).bind fun bt642 => ((laws_heldTreap.f k bt642.2 1).bind fun t644 => (if t644 < 0 then (some false) else (if t644 = bt642.1 then ((laws_toTreap.f k x616000).bind fun t645 => ((impl_CutKey.f t645 x1).bind fun bt648 => ((laws_eqTreap.f k bt648.1 x625000).bind fun t653 => (if t653 = true then (laws_FnExactCutKey.j2 k bt642.1 (bt648.2 != x7) bt642.2) else (laws_FnExactCutKey.j2 k bt642.1 true bt642.2))))) else (some false)))))
def laws_FnExactCutKey.j2 : Nat → Int → Bool → List (S71) → Option (Bool)
 | 0, _, _, _ => none
 | k + 1, x12, x95, x634000 => if x95 = true then (some false) else ((laws_heldTreap.f k x634000 1).bind fun t654 => (if t654 < 0 then (some false) else (if t654 = x12 then (some true) else (some false))))
end
def laws_FnExactCutKey.f (k : Nat) (l0_0 : List (S99)) (a1 : ByteArray) : Option (Bool) := if (a1.size : Int) > 1048576 then (some true) else ((laws_szTreap.f k l0_0 1048576).bind fun t616 => (if t616 < 0 then (some true) else ((laws_toTreap.f k l0_0).bind fun t617 => ((spec_CutKey.f k t617 a1).bind fun bt620 => ((laws_toTreap.f k l0_0).bind fun t625 => ((impl_CutKey.f t625 a1).bind fun bt629 => ((laws_eqTreap.f k bt629.1 bt620.1).bind fun t634 => (if t634 = true then (laws_FnExactCutKey.j0 k a1 bt620.2 bt629.2 (bt629.2 != bt620.2) l0_0 bt620.1 t625 bt629.1) else (laws_FnExactCutKey.j0 k a1 bt620.2 bt629.2 true l0_0 bt620.1 t625 bt629.1)))))))))
theorem laws_FnExactCutKey.mono_l : ∀ k, (∀ y0 y1 y2 y3 y4 y5 y6 y7, LeO (laws_FnExactCutKey.j0 k y0 y1 y2 y3 y4 y5 y6 y7) (laws_FnExactCutKey.j0 (k + 1) y0 y1 y2 y3 y4 y5 y6 y7)) ∧ (∀ y0 y1 y2 y3 y4 y5, LeO (laws_FnExactCutKey.j1 k y0 y1 y2 y3 y4 y5) (laws_FnExactCutKey.j1 (k + 1) y0 y1 y2 y3 y4 y5)) ∧ (∀ y0 y1 y2, LeO (laws_FnExactCutKey.j2 k y0 y1 y2) (laws_FnExactCutKey.j2 (k + 1) y0 y1 y2))
 | 0 => ⟨fun _ _ _ _ _ _ _ _ r h => by simp [laws_FnExactCutKey.j0] at h, fun _ _ _ _ _ _ r h => by simp [laws_FnExactCutKey.j1] at h, fun _ _ _ r h => by simp [laws_FnExactCutKey.j2] at h⟩
 | k + 1 => by
  obtain ⟨ih0, ih1, ih2⟩ := laws_FnExactCutKey.mono_l k
  refine ⟨?_, ?_, ?_⟩
  ·
   intro y0 y1 y2 y3 y4 y5 y6 y7
   unfold laws_FnExactCutKey.j0
   repeat' first
   | (with_reducible exact ih0 _ _ _ _ _ _ _ _)
   | (with_reducible exact ih1 _ _ _ _ _ _)
   | (with_reducible exact ih2 _ _ _)
   | (with_reducible exact laws_eqTreap.mono _ _ _)
   | (with_reducible exact laws_heldTreap.mono _ _ _)
   | (with_reducible exact laws_markTreap.mono _ _ _)
   | (with_reducible exact laws_szTreap.mono _ _ _)
   | (with_reducible exact laws_toTreap.mono _ _)
   | (with_reducible exact spec_CutKey.mono _ _ _)
   | (with_reducible exact LeO.refl _)
   | (with_reducible exact LeO.none _)
   | (with_reducible refine LeO.ite ?_ ?_)
   | (with_reducible refine LeO.bind ?_ (fun _ => ?_))
   | exact ih0 _ _ _ _ _ _ _ _
   | exact ih1 _ _ _ _ _ _
   | exact ih2 _ _ _
   | exact laws_eqTreap.mono _ _ _
   | exact laws_heldTreap.mono _ _ _
   | exact laws_markTreap.mono _ _ _
   | exact laws_szTreap.mono _ _ _
   | exact laws_toTreap.mono _ _
   | exact spec_CutKey.mono _ _ _
   | exact LeO.none _
   | refine LeO.ite ?_ ?_
   | refine LeO.bind ?_ (fun _ => ?_)
  ·
   intro y0 y1 y2 y3 y4 y5
   unfold laws_FnExactCutKey.j1
   repeat' first
   | (with_reducible exact ih0 _ _ _ _ _ _ _ _)
   | (with_reducible exact ih1 _ _ _ _ _ _)
   | (with_reducible exact ih2 _ _ _)
   | (with_reducible exact laws_eqTreap.mono _ _ _)
   | (with_reducible exact laws_heldTreap.mono _ _ _)
   | (with_reducible exact laws_markTreap.mono _ _ _)
   | (with_reducible exact laws_szTreap.mono _ _ _)
   | (with_reducible exact laws_toTreap.mono _ _)
   | (with_reducible exact spec_CutKey.mono _ _ _)
   | (with_reducible exact LeO.refl _)
   | (with_reducible exact LeO.none _)
   | (with_reducible refine LeO.ite ?_ ?_)
   | (with_reducible refine LeO.bind ?_ (fun _ => ?_))
   | exact ih0 _ _ _ _ _ _ _ _
   | exact ih1 _ _ _ _ _ _
   | exact ih2 _ _ _
   | exact laws_eqTreap.mono _ _ _
   | exact laws_heldTreap.mono _ _ _
   | exact laws_markTreap.mono _ _ _
   | exact laws_szTreap.mono _ _ _
   | exact laws_toTreap.mono _ _
   | exact spec_CutKey.mono _ _ _
   | exact LeO.none _
   | refine LeO.ite ?_ ?_
   | refine LeO.bind ?_ (fun _ => ?_)
  ·
   intro y0 y1 y2
   unfold laws_FnExactCutKey.j2
   repeat' first
   | (with_reducible exact ih0 _ _ _ _ _ _ _ _)
   | (with_reducible exact ih1 _ _ _ _ _ _)
   | (with_reducible exact ih2 _ _ _)
   | (with_reducible exact laws_eqTreap.mono _ _ _)
   | (with_reducible exact laws_heldTreap.mono _ _ _)
   | (with_reducible exact laws_markTreap.mono _ _ _)
   | (with_reducible exact laws_szTreap.mono _ _ _)
   | (with_reducible exact laws_toTreap.mono _ _)
   | (with_reducible exact spec_CutKey.mono _ _ _)
   | (with_reducible exact LeO.refl _)
   | (with_reducible exact LeO.none _)
   | (with_reducible refine LeO.ite ?_ ?_)
   | (with_reducible refine LeO.bind ?_ (fun _ => ?_))
   | exact ih0 _ _ _ _ _ _ _ _
   | exact ih1 _ _ _ _ _ _
   | exact ih2 _ _ _
   | exact laws_eqTreap.mono _ _ _
   | exact laws_heldTreap.mono _ _ _
   | exact laws_markTreap.mono _ _ _
   | exact laws_szTreap.mono _ _ _
   | exact laws_toTreap.mono _ _
   | exact spec_CutKey.mono _ _ _
   | exact LeO.none _
   | refine LeO.ite ?_ ?_
   | refine LeO.bind ?_ (fun _ => ?_)
theorem laws_FnExactCutKey.mono : ∀ a0 a1 k, LeO (laws_FnExactCutKey.f k a0 a1) (laws_FnExactCutKey.f (k + 1) a0 a1) := by
 intro a0 a1 k
 obtain ⟨ih0, ih1, ih2⟩ := laws_FnExactCutKey.mono_l k
 unfold laws_FnExactCutKey.f
 repeat' first
   | (with_reducible exact ih0 _ _ _ _ _ _ _ _)
   | (with_reducible exact ih1 _ _ _ _ _ _)
   | (with_reducible exact ih2 _ _ _)
   | (with_reducible exact laws_eqTreap.mono _ _ _)
   | (with_reducible exact laws_heldTreap.mono _ _ _)
   | (with_reducible exact laws_markTreap.mono _ _ _)
   | (with_reducible exact laws_szTreap.mono _ _ _)
   | (with_reducible exact laws_toTreap.mono _ _)
   | (with_reducible exact spec_CutKey.mono _ _ _)
   | (with_reducible exact LeO.refl _)
   | (with_reducible exact LeO.none _)
   | (with_reducible refine LeO.ite ?_ ?_)
   | (with_reducible refine LeO.bind ?_ (fun _ => ?_))
   | exact ih0 _ _ _ _ _ _ _ _
   | exact ih1 _ _ _ _ _ _
   | exact ih2 _ _ _
   | exact laws_eqTreap.mono _ _ _
   | exact laws_heldTreap.mono _ _ _
   | exact laws_markTreap.mono _ _ _
   | exact laws_szTreap.mono _ _ _
   | exact laws_toTreap.mono _ _
   | exact spec_CutKey.mono _ _ _
   | exact LeO.none _
   | refine LeO.ite ?_ ?_
   | refine LeO.bind ?_ (fun _ => ?_)
set_option maxHeartbeats 8000000 in
set_option maxRecDepth 100000 in
theorem laws_FnExactCutKey.calls (k : Nat) (A0_0 : Option Addr) (c0_0 : Nat) (l0_0 : List (S99)) (a1 : ByteArray) (r : Bool) (w : World) (hr0_0 : Kd.C k99 w A0_0 l0_0.length l0_0) (hc0_0 : l0_0.length ≤ c0_0) (h : laws_FnExactCutKey.f k l0_0 a1 = some r) :
  Calls Try.prog 9 #[.agg #[.slice A0_0 l0_0.length c0_0], .string a1] w fun e w' => e = .returned (.bool r) ∧ Below w.heap.size w w' := by
 have hu24 := Try.underlying24
 have hu29 := Try.underlying29
 have HR0_0 := Aside0.mk hr0_0
 have HC0_0 := Aside0.mk hc0_0
 clear hr0_0 hc0_0
 have HB := Aside0.mk (Below.refl w.heap.size w)
 have H : (if (a1.size : Int) > 1048576 then (some true) else ((laws_szTreap.f k l0_0 1048576).bind fun t616 => (if t616 < 0 then (some true) else ((laws_toTreap.f k l0_0).bind fun t617 => ((spec_CutKey.f k t617 a1).bind fun bt620 => ((laws_toTreap.f k l0_0).bind fun t625 => ((impl_CutKey.f t625 a1).bind fun bt629 => ((laws_eqTreap.f k bt629.1 bt620.1).bind fun t634 => (if t634 = true then (laws_FnExactCutKey.j0 k a1 bt620.2 bt629.2 (bt629.2 != bt620.2) l0_0 bt620.1 t625 bt629.1) else (laws_FnExactCutKey.j0 k a1 bt620.2 bt629.2 true l0_0 bt620.1 t625 bt629.1)))))))))) = some r := h
 clear h
 by_cases c3 : (a1.size : Int) > 1048576
 ·
  rw [if_pos c3] at H
  have c3b0 : decide (1048576 < (a1.size : Int)) = true := decide_eq_true c3
  have c3b1 : decide (1048576 < a1.size) = true := decide_eq_true (by omega)
  clear c3
  obtain rfl := Option.some.inj H
  go_enter Try.func9, Try.ntmps9
  go_wp2_with (first | ((with_reducible refine gate_dst (N := 2) rfl ?_); refine box_event ?hg (N := 2) ?hd (cs := #[.slice A0_0 l0_0.length c0_0]) (t := 24) ?hr ?_; (case hd => rfl); (case hg => rfl); (case hr => first | (go_simp; done) | (go_simp; rfl)); intro gb615 hg w4 hbox hb; have n0_ := Aside0.mk (below_step (by repeat (first | (with_reducible first | exact HB.out | apply below_alloc | apply pw_below_drewN | apply below_drew1) | exact HB.out)) hb); have n1_ := Aside0.mk (hbox); have n2_ := Aside0.mk ((by rw [hg]; exact (below_size (by repeat (first | (with_reducible first | exact HB.out | apply below_alloc | apply pw_below_drewN | apply below_drew1) | exact HB.out))) : w.heap.size ≤ gb615)); have n3_ := Aside0.mk ((by rw [hg]; exact (below_size (by repeat (first | (with_reducible first | exact HB.out | apply below_alloc | apply pw_below_drewN | apply below_drew1) | exact HB.out))) : w.heap.size ≤ gb615)); clear HB; have HB := n0_; have BK615 := n1_; have GW615 := n2_; have GE615 := n3_; clear n0_ n1_ n2_ n3_; clear hb hbox hg))
  go_ret
  exact ⟨by first | rfl | (simp [errW_none, errW_some] <;> rfl) | (simp [*, errW_none, errW_some] <;> rfl), by repeat (first | (with_reducible first | exact HB.out | apply below_alloc | apply pw_below_drewN | apply below_drew1 | refine below_set ?_ GE615.out) | exact HB.out)⟩
 ·
  rw [if_neg c3] at H
  have c3b0 : decide (1048576 < (a1.size : Int)) = false := decide_eq_false c3
  have c3b1 : decide (1048576 < a1.size) = false := decide_eq_false (by omega)
  clear c3
  replace H := Option.bind_eq_some_iff.mp H
  obtain ⟨t616, A50, H⟩ := H
  replace H : (if t616 < 0 then (some true) else ((laws_toTreap.f k l0_0).bind fun t617 => ((spec_CutKey.f k t617 a1).bind fun bt620 => ((laws_toTreap.f k l0_0).bind fun t625 => ((impl_CutKey.f t625 a1).bind fun bt629 => ((laws_eqTreap.f k bt629.1 bt620.1).bind fun t634 => (if t634 = true then (laws_FnExactCutKey.j0 k a1 bt620.2 bt629.2 (bt629.2 != bt620.2) l0_0 bt620.1 t625 bt629.1) else (laws_FnExactCutKey.j0 k a1 bt620.2 bt629.2 true l0_0 bt620.1 t625 bt629.1)))))))) = some r := H
  have A5 := Aside0.mk A50
  clear A50
  by_cases c6 : t616 < 0
  ·
   rw [if_pos c6] at H
   have c6b0 : decide (t616 < 0) = true := decide_eq_true c6
   clear c6
   obtain rfl := Option.some.inj H
   go_enter Try.func9, Try.ntmps9
   go_wp2_with (first | ((with_reducible refine gate_dst (N := 2) rfl ?_); refine box_event ?hg (N := 2) ?hd (cs := #[.slice A0_0 l0_0.length c0_0]) (t := 24) ?hr ?_; (case hd => rfl); (case hg => rfl); (case hr => first | (go_simp; done) | (go_simp; rfl)); intro gb615 hg w7 hbox hb; have n0_ := Aside0.mk (below_step (by repeat (first | (with_reducible first | exact HB.out | apply below_alloc | apply pw_below_drewN | apply below_drew1) | exact HB.out)) hb); have n1_ := Aside0.mk (hbox); have n2_ := Aside0.mk ((by rw [hg]; exact (below_size (by repeat (first | (with_reducible first | exact HB.out | apply below_alloc | apply pw_below_drewN | apply below_drew1) | exact HB.out))) : w.heap.size ≤ gb615)); have n3_ := Aside0.mk ((by rw [hg]; exact (below_size (by repeat (first | (with_reducible first | exact HB.out | apply below_alloc | apply pw_below_drewN | apply below_drew1) | exact HB.out))) : w.heap.size ≤ gb615)); clear HB; have HB := n0_; have BK615 := n1_; have GW615 := n2_; have GE615 := n3_; clear n0_ n1_ n2_ n3_; clear hb hbox hg; have hcz8_0 : w7.cell? ⟨gb615, 0, none⟩ = some (.slice A0_0 l0_0.length c0_0) := (blk_cell BK615.out 0).trans rfl; have hfz8_0 := blk_frozen BK615.out 0) | ((with_reducible refine gate_callee (f := 13) rfl ?_); refine goesL_ (some 21) rfl rfl Try.func13 (by kernel_rfl) rfl #[.agg #[.slice A0_0 l0_0.length c0_0], .int .i64 1048576] rfl (by (try simp only [List.map_toArray, List.map_cons, List.map_nil]); first | done | rfl | (simp only [List.length_drop, List.length_take]; rfl)) ?_; (with_reducible refine (laws_szTreap.calls k _ _ l0_0 1048576 t616 _ ?side1 ?side2 A5.out).mono ?_); (case side1 => repeat (first | exact (Kd.C_below HR0_0.out HB.out) | (with_reducible refine Kd.C_alloc ?_ _) | (with_reducible refine Kd.C_drewN ?_ _) | (with_reducible refine Kd.C_drew ?_))); (case side2 => exact HC0_0.out); rintro e w9 ⟨rfl, hb⟩; refine ⟨_, rfl, ?_⟩; have n0_ := Aside0.mk (blk_below (g := gb615) (o := .cells #[.slice A0_0 l0_0.length c0_0] 24 (0, 0)) (by (with_reducible repeat (first | refine blk_drewN ?_ _ | refine blk_drew ?_ | refine blk_alloc ?_ _)); exact BK615.out) hb); have n1_ := Aside0.mk (below_step (by repeat (first | (with_reducible first | exact HB.out | apply below_alloc | apply pw_below_drewN | apply below_drew1 | refine below_set ?_ GE615.out) | exact HB.out)) hb); clear BK615; clear HB; have BK615 := n0_; have HB := n1_; clear n0_ n1_; (try clear hb); (try clear hb2); (try clear hk); (try clear hi)))
   go_ret
   exact ⟨by first | rfl | (simp [errW_none, errW_some] <;> rfl) | (simp [*, errW_none, errW_some] <;> rfl), by repeat (first | (with_reducible first | exact HB.out | apply below_alloc | apply pw_below_drewN | apply below_drew1 | refine below_set ?_ GE615.out) | exact HB.out)⟩
  ·
   rw [if_neg c6] at H
   have c6b0 : decide (t616 < 0) = false := decide_eq_false c6
   clear c6
   replace H := Option.bind_eq_some_iff.mp H
   obtain ⟨t617, A100, H⟩ := H
   replace H : ((spec_CutKey.f k t617 a1).bind fun bt620 => ((laws_toTreap.f k l0_0).bind fun t625 => ((impl_CutKey.f t625 a1).bind fun bt629 => ((laws_eqTreap.f k bt629.1 bt620.1).bind fun t634 => (if t634 = true then (laws_FnExactCutKey.j0 k a1 bt620.2 bt629.2 (bt629.2 != bt620.2) l0_0 bt620.1 t625 bt629.1) else (laws_FnExactCutKey.j0 k a1 bt620.2 bt629.2 true l0_0 bt620.1 t625 bt629.1)))))) = some r := H
   have A10 := Aside0.mk A100
   clear A100
   replace H := Option.bind_eq_some_iff.mp H
   obtain ⟨⟨t620, t623⟩, A110, H⟩ := H
   replace H : ((laws_toTreap.f k l0_0).bind fun t625 => ((impl_CutKey.f t625 a1).bind fun bt629 => ((laws_eqTreap.f k bt629.1 t620).bind fun t634 => (if t634 = true then (laws_FnExactCutKey.j0 k a1 t623 bt629.2 (bt629.2 != t623) l0_0 t620 t625 bt629.1) else (laws_FnExactCutKey.j0 k a1 t623 bt629.2 true l0_0 t620 t625 bt629.1))))) = some r := H
   have A11 := Aside0.mk A110
   clear A110
   replace H := Option.bind_eq_some_iff.mp H
   obtain ⟨t625, A120, H⟩ := H
   replace H : ((impl_CutKey.f t625 a1).bind fun bt629 => ((laws_eqTreap.f k bt629.1 t620).bind fun t634 => (if t634 = true then (laws_FnExactCutKey.j0 k a1 t623 bt629.2 (bt629.2 != t623) l0_0 t620 t625 bt629.1) else (laws_FnExactCutKey.j0 k a1 t623 bt629.2 true l0_0 t620 t625 bt629.1)))) = some r := H
   have A12 := Aside0.mk A120
   clear A120
   replace H := Option.bind_eq_some_iff.mp H
   obtain ⟨⟨t629, t632⟩, A130, H⟩ := H
   replace H : ((laws_eqTreap.f k t629 t620).bind fun t634 => (if t634 = true then (laws_FnExactCutKey.j0 k a1 t623 t632 (t632 != t623) l0_0 t620 t625 t629) else (laws_FnExactCutKey.j0 k a1 t623 t632 true l0_0 t620 t625 t629))) = some r := H
   have A13 := Aside0.mk A130
   clear A130
   have HC14 := Aside0.mk H
   clear H
   go_enter Try.func9, Try.ntmps9
   go_upto_region 10 with (first | ((with_reducible refine gate_dst (N := 2) rfl ?_); refine box_event ?hg (N := 2) ?hd (cs := #[.slice A0_0 l0_0.length c0_0]) (t := 24) ?hr ?_; (case hd => rfl); (case hg => rfl); (case hr => first | (go_simp; done) | (go_simp; rfl)); intro gb615 hg w15 hbox hb; have n0_ := Aside0.mk (below_step (by repeat (first | (with_reducible first | exact HB.out | apply below_alloc | apply pw_below_drewN | apply below_drew1) | exact HB.out)) hb); have n1_ := Aside0.mk (hbox); have n2_ := Aside0.mk ((by rw [hg]; exact (below_size (by repeat (first | (with_reducible first | exact HB.out | apply below_alloc | apply pw_below_drewN | apply below_drew1) | exact HB.out))) : w.heap.size ≤ gb615)); have n3_ := Aside0.mk ((by rw [hg]; exact (below_size (by repeat (first | (with_reducible first | exact HB.out | apply below_alloc | apply pw_below_drewN | apply below_drew1) | exact HB.out))) : w.heap.size ≤ gb615)); clear HB; have HB := n0_; have BK615 := n1_; have GW615 := n2_; have GE615 := n3_; clear n0_ n1_ n2_ n3_; clear hb hbox hg; have hcz16_0 : w15.cell? ⟨gb615, 0, none⟩ = some (.slice A0_0 l0_0.length c0_0) := (blk_cell BK615.out 0).trans rfl; have hfz16_0 := blk_frozen BK615.out 0) | ((with_reducible refine gate_callee (f := 13) rfl ?_); refine goesL_ (some 21) rfl rfl Try.func13 (by kernel_rfl) rfl #[.agg #[.slice A0_0 l0_0.length c0_0], .int .i64 1048576] rfl (by (try simp only [List.map_toArray, List.map_cons, List.map_nil]); first | done | rfl | (simp only [List.length_drop, List.length_take]; rfl)) ?_; (with_reducible refine (laws_szTreap.calls k _ _ l0_0 1048576 t616 _ ?side1 ?side2 A5.out).mono ?_); (case side1 => repeat (first | exact (Kd.C_below HR0_0.out HB.out) | (with_reducible refine Kd.C_alloc ?_ _) | (with_reducible refine Kd.C_drewN ?_ _) | (with_reducible refine Kd.C_drew ?_))); (case side2 => exact HC0_0.out); rintro e w17 ⟨rfl, hb⟩; refine ⟨_, rfl, ?_⟩; have n0_ := Aside0.mk (blk_below (g := gb615) (o := .cells #[.slice A0_0 l0_0.length c0_0] 24 (0, 0)) (by (with_reducible repeat (first | refine blk_drewN ?_ _ | refine blk_drew ?_ | refine blk_alloc ?_ _)); exact BK615.out) hb); have n1_ := Aside0.mk (below_step (by repeat (first | (with_reducible first | exact HB.out | apply below_alloc | apply pw_below_drewN | apply below_drew1 | refine below_set ?_ GE615.out) | exact HB.out)) hb); clear BK615; clear HB; have BK615 := n0_; have HB := n1_; clear n0_ n1_; (try clear hb); (try clear hb2); (try clear hk); (try clear hi); have hcz18_0 : w17.cell? ⟨gb615, 0, none⟩ = some (.slice A0_0 l0_0.length c0_0) := (blk_cell BK615.out 0).trans rfl; have hfz18_0 := blk_frozen BK615.out 0) | ((with_reducible refine gate_callee (f := 15) rfl ?_); refine goesL_ (some 26) rfl rfl Try.func15 (by kernel_rfl) rfl #[.agg #[.slice A0_0 l0_0.length c0_0]] rfl (by (try simp only [List.map_toArray, List.map_cons, List.map_nil]); first | done | rfl | (simp only [List.length_drop, List.length_take]; rfl)) ?_; (with_reducible refine (laws_toTreap.calls k _ _ l0_0 t617 _ ?side1 ?side2 A10.out).mono ?_); (case side1 => repeat (first | exact (Kd.C_below HR0_0.out HB.out) | (with_reducible refine Kd.C_alloc ?_ _) | (with_reducible refine Kd.C_drewN ?_ _) | (with_reducible refine Kd.C_drew ?_))); (case side2 => exact HC0_0.out); rintro e w19 ⟨v618, rfl, ho0, hb⟩; refine ⟨_, rfl, ?_⟩; have n0_ := Aside0.mk (Kd.R_lower ho0 (below_size (by repeat (first | (with_reducible first | exact HB.out | apply below_alloc | apply pw_below_drewN | apply below_drew1 | refine below_set ?_ GE615.out) | exact HB.out)))); have n1_ := Aside0.mk (blk_below (g := gb615) (o := .cells #[.slice A0_0 l0_0.length c0_0] 24 (0, 0)) (by (with_reducible repeat (first | refine blk_drewN ?_ _ | refine blk_drew ?_ | refine blk_alloc ?_ _)); exact BK615.out) hb); have n2_ := Aside0.mk (below_step (by repeat (first | (with_reducible first | exact HB.out | apply below_alloc | apply pw_below_drewN | apply below_drew1 | refine below_set ?_ GE615.out) | exact HB.out)) hb); clear BK615; clear HB; have HO619 := n0_; have BK615 := n1_; have HB := n2_; clear n0_ n1_ n2_; (try clear hb); (try clear hb2); (try clear hk); (try clear hi); (try clear ho0); obtain ⟨Ao20, co20, eo20⟩ := Kd.R_slice HO619.out; subst eo20) | ((with_reducible refine gate_callee (f := 33) rfl ?_); refine goesL_ (some 28) rfl rfl Try.func33 (by kernel_rfl) rfl #[.agg #[.slice Ao20 t617.length co20], .string a1] rfl (by (try simp only [List.map_toArray, List.map_cons, List.map_nil]); first | done | rfl | (simp only [List.length_drop, List.length_take]; rfl)) ?_; (with_reducible refine (spec_CutKey.calls k _ _ t617 a1 t620 t623 _ ?side1 ?side2 A11.out).mono ?_); (case side1 => repeat (first | exact (Kd.R_reads' HO619.out).2.2 | (with_reducible refine Kd.C_alloc ?_ _) | (with_reducible refine Kd.C_drewN ?_ _) | (with_reducible refine Kd.C_drew ?_))); (case side2 => exact (Kd.R_reads' HO619.out).2.1); rintro e w21 ⟨v621, rfl, ho0, hb⟩; refine ⟨_, rfl, ?_⟩; have n0_ := Aside0.mk (Kd.R_elder' (by (with_reducible repeat (first | apply Kd.R_alloc | apply Kd.R_drewN | apply Kd.R_drew)); exact HO619.out) (Kd.R_base ho0) hb); have n1_ := Aside0.mk (Kd.R_lower (Kd.R_new' ho0 (Kd.R_lt (by (with_reducible repeat (first | apply Kd.R_alloc | apply Kd.R_drewN | apply Kd.R_drew)); exact HO619.out))) (below_size (by repeat (first | (with_reducible first | exact HB.out | apply below_alloc | apply pw_below_drewN | apply below_drew1 | refine below_set ?_ GE615.out) | exact HB.out)))); have n2_ := Aside0.mk (blk_below (g := gb615) (o := .cells #[.slice A0_0 l0_0.length c0_0] 24 (0, 0)) (by (with_reducible repeat (first | refine blk_drewN ?_ _ | refine blk_drew ?_ | refine blk_alloc ?_ _)); exact BK615.out) hb); have n3_ := Aside0.mk (below_step (by repeat (first | (with_reducible first | exact HB.out | apply below_alloc | apply pw_below_drewN | apply below_drew1 | refine below_set ?_ GE615.out) | exact HB.out)) hb); clear HO619; clear BK615; clear HB; have HO619 := n0_; have HO622 := n1_; have BK615 := n2_; have HB := n3_; clear n0_ n1_ n2_ n3_; (try clear hb); (try clear hb2); (try clear hk); (try clear hi); (try clear ho0)) | ((with_reducible refine gate_dst (N := 6) rfl ?_); refine box_event ?hg (N := 6) ?hd (cs := #[.slice none 0 0]) (t := 29) ?hr ?_; (case hd => rfl); (case hg => rfl); (case hr => first | (go_simp; done) | (go_simp; rfl)); intro gb624 hg w22 hbox hb; have n0_ := Aside0.mk (Kd.R_below (by (with_reducible repeat (first | apply Kd.R_alloc | apply Kd.R_drewN | apply Kd.R_drew)); exact HO619.out) hb); have n1_ := Aside0.mk (Kd.R_below (by (with_reducible repeat (first | apply Kd.R_alloc | apply Kd.R_drewN | apply Kd.R_drew)); exact HO622.out) hb); have n2_ := Aside0.mk (blk_below (g := gb615) (o := .cells #[.slice A0_0 l0_0.length c0_0] 24 (0, 0)) (by (with_reducible repeat (first | refine blk_drewN ?_ _ | refine blk_drew ?_ | refine blk_alloc ?_ _)); exact BK615.out) hb); have n3_ := Aside0.mk (below_step (by repeat (first | (with_reducible first | exact HB.out | apply below_alloc | apply pw_below_drewN | apply below_drew1 | refine below_set ?_ GE615.out) | exact HB.out)) hb); have n4_ := Aside0.mk (hbox); have n5_ := Aside0.mk ((by rw [hg]; exact (below_size (by repeat (first | (with_reducible first | exact HB.out | apply below_alloc | apply pw_below_drewN | apply below_drew1 | refine below_set ?_ GE615.out) | exact HB.out))) : w.heap.size ≤ gb624)); have n6_ := Aside0.mk ((by rw [hg]; exact (below_size (by repeat (first | (with_reducible first | exact HB.out | apply below_alloc | apply pw_below_drewN | apply below_drew1 | refine below_set ?_ GE615.out) | exact HB.out))) : w.heap.size ≤ gb624)); have n7_ := Aside0.mk ((by rw [hg]; exact Nat.ne_of_lt (blk_lt (g := gb615) (o := .cells #[.slice A0_0 l0_0.length c0_0] 24 (0, 0)) (by (with_reducible repeat (first | refine blk_drewN ?_ _ | refine blk_drew ?_ | refine blk_alloc ?_ _)); exact BK615.out)) : gb615 ≠ gb624)); have n8_ := Aside0.mk ((by rw [hg]; exact Nat.ne_of_gt (blk_lt (g := gb615) (o := .cells #[.slice A0_0 l0_0.length c0_0] 24 (0, 0)) (by (with_reducible repeat (first | refine blk_drewN ?_ _ | refine blk_drew ?_ | refine blk_alloc ?_ _)); exact BK615.out)) : gb624 ≠ gb615)); clear HO619; clear HO622; clear BK615; clear HB; have HO619 := n0_; have HO622 := n1_; have BK615 := n2_; have HB := n3_; have BK624 := n4_; have GW624 := n5_; have GE624 := n6_; have NB615_624 := n7_; have NB624_615 := n8_; clear n0_ n1_ n2_ n3_ n4_ n5_ n6_ n7_ n8_; clear hb hbox hg; obtain ⟨Ao23, co23, eo23⟩ := Kd.R_slice HO622.out; subst eo23; have hnb24 := NB624_615.out; have hnc24 := NB615_624.out; have hcz25_0 : w22.cell? ⟨gb624, 0, none⟩ = some (.slice none 0 0) := (blk_cell BK624.out 0).trans rfl; have hfz25_0 := blk_frozen BK624.out 0; have hcz26_0 : w22.cell? ⟨gb615, 0, none⟩ = some (.slice A0_0 l0_0.length c0_0) := (blk_cell BK615.out 0).trans rfl; have hfz26_0 := blk_frozen BK615.out 0) | ((with_reducible refine gate_callee (f := 15) rfl ?_); refine goesL_ (some 32) rfl rfl Try.func15 (by kernel_rfl) rfl #[.agg #[.slice A0_0 l0_0.length c0_0]] rfl (by (try simp only [List.map_toArray, List.map_cons, List.map_nil]); first | done | rfl | (simp only [List.length_drop, List.length_take]; rfl)) ?_; (with_reducible refine (laws_toTreap.calls k _ _ l0_0 t625 _ ?side1 ?side2 A12.out).mono ?_); (case side1 => exact Kd.C_below HR0_0.out (by repeat (first | (with_reducible first | exact HB.out | apply below_alloc | apply pw_below_drewN | apply below_drew1 | refine below_set ?_ GE615.out | refine below_set ?_ GE624.out) | exact HB.out))); (case side2 => exact HC0_0.out); rintro e w27 ⟨v626, rfl, ho0, hb⟩; refine ⟨_, rfl, ?_⟩; have n0_ := Aside0.mk (Kd.R_elder' (by (with_reducible repeat (first | apply Kd.R_alloc | apply Kd.R_drewN | apply Kd.R_drew)); exact (Kd.R_mono (Kd.R_far (p := ⟨gb624, 0, none⟩) (Kd.R_types HO619.out BK624.out (by decide)) (fun _ hk => hk.2) (.slice Ao23 t620.length co23)) (fun _ h_ => h_.1))) (Kd.R_base ho0) hb); have n1_ := Aside0.mk (Kd.R_elder' (by (with_reducible repeat (first | apply Kd.R_alloc | apply Kd.R_drewN | apply Kd.R_drew)); exact (Kd.R_mono (Kd.R_far (p := ⟨gb624, 0, none⟩) (Kd.R_types HO622.out BK624.out (by decide)) (fun _ hk => hk.2) (.slice Ao23 t620.length co23)) (fun _ h_ => h_.1))) (Kd.R_base ho0) hb); have n2_ := Aside0.mk (Kd.R_lower (Kd.R_new' (Kd.R_new' ho0 (Kd.R_lt (by (with_reducible repeat (first | apply Kd.R_alloc | apply Kd.R_drewN | apply Kd.R_drew)); exact (Kd.R_mono (Kd.R_far (p := ⟨gb624, 0, none⟩) (Kd.R_types HO619.out BK624.out (by decide)) (fun _ hk => hk.2) (.slice Ao23 t620.length co23)) (fun _ h_ => h_.1))))) (Kd.R_lt (by (with_reducible repeat (first | apply Kd.R_alloc | apply Kd.R_drewN | apply Kd.R_drew)); exact (Kd.R_mono (Kd.R_far (p := ⟨gb624, 0, none⟩) (Kd.R_types HO622.out BK624.out (by decide)) (fun _ hk => hk.2) (.slice Ao23 t620.length co23)) (fun _ h_ => h_.1))))) (below_size (by repeat (first | (with_reducible first | exact HB.out | apply below_alloc | apply pw_below_drewN | apply below_drew1 | refine below_set ?_ GE615.out | refine below_set ?_ GE624.out) | exact HB.out)))); have n3_ := Aside0.mk (blk_below (g := gb615) (o := .cells #[.slice A0_0 l0_0.length c0_0] 24 (0, 0)) (by (with_reducible repeat (first | refine blk_drewN ?_ _ | refine blk_drew ?_ | refine blk_alloc ?_ _)); refine blk_far ?_ NB615_624.out _; (with_reducible repeat (first | refine blk_drewN ?_ _ | refine blk_drew ?_ | refine blk_alloc ?_ _)); exact BK615.out) hb); have n4_ := Aside0.mk (blk_below (g := gb624) (o := .cells #[.slice Ao23 t620.length co23] 29 (0, 0)) (by (with_reducible repeat (first | refine blk_drewN ?_ _ | refine blk_drew ?_ | refine blk_alloc ?_ _)); refine blk_put (cs := #[.slice none 0 0]) ?_ 0 _ rfl; (with_reducible repeat (first | refine blk_drewN ?_ _ | refine blk_drew ?_ | refine blk_alloc ?_ _)); exact BK624.out) hb); have n5_ := Aside0.mk (below_step (by repeat (first | (with_reducible first | exact HB.out | apply below_alloc | apply pw_below_drewN | apply below_drew1 | refine below_set ?_ GE615.out | refine below_set ?_ GE624.out) | exact HB.out)) hb); clear HO619; clear HO622; clear BK615; clear BK624; clear HB; have HO619 := n0_; have HO622 := n1_; have HO627 := n2_; have BK615 := n3_; have BK624 := n4_; have HB := n5_; clear n0_ n1_ n2_ n3_ n4_ n5_; (try clear hb); (try clear hb2); (try clear hk); (try clear hi); (try clear ho0)) | ((with_reducible refine gate_dst (N := 8) rfl ?_); refine box_event ?hg (N := 8) ?hd (cs := #[.slice none 0 0]) (t := 29) ?hr ?_; (case hd => rfl); (case hg => rfl); (case hr => first | (go_simp; done) | (go_simp; rfl)); intro gb628 hg w28 hbox hb; have n0_ := Aside0.mk (Kd.R_below (by (with_reducible repeat (first | apply Kd.R_alloc | apply Kd.R_drewN | apply Kd.R_drew)); exact HO619.out) hb); have n1_ := Aside0.mk (Kd.R_below (by (with_reducible repeat (first | apply Kd.R_alloc | apply Kd.R_drewN | apply Kd.R_drew)); exact HO622.out) hb); have n2_ := Aside0.mk (Kd.R_below (by (with_reducible repeat (first | apply Kd.R_alloc | apply Kd.R_drewN | apply Kd.R_drew)); exact HO627.out) hb); have n3_ := Aside0.mk (blk_below (g := gb615) (o := .cells #[.slice A0_0 l0_0.length c0_0] 24 (0, 0)) (by (with_reducible repeat (first | refine blk_drewN ?_ _ | refine blk_drew ?_ | refine blk_alloc ?_ _)); exact BK615.out) hb); have n4_ := Aside0.mk (blk_below (g := gb624) (o := .cells #[.slice Ao23 t620.length co23] 29 (0, 0)) (by (with_reducible repeat (first | refine blk_drewN ?_ _ | refine blk_drew ?_ | refine blk_alloc ?_ _)); exact BK624.out) hb); have n5_ := Aside0.mk (below_step (by repeat (first | (with_reducible first | exact HB.out | apply below_alloc | apply pw_below_drewN | apply below_drew1 | refine below_set ?_ GE615.out | refine below_set ?_ GE624.out) | exact HB.out)) hb); have n6_ := Aside0.mk (hbox); have n7_ := Aside0.mk ((by rw [hg]; exact (below_size (by repeat (first | (with_reducible first | exact HB.out | apply below_alloc | apply pw_below_drewN | apply below_drew1 | refine below_set ?_ GE615.out | refine below_set ?_ GE624.out) | exact HB.out))) : w.heap.size ≤ gb628)); have n8_ := Aside0.mk ((by rw [hg]; exact (below_size (by repeat (first | (with_reducible first | exact HB.out | apply below_alloc | apply pw_below_drewN | apply below_drew1 | refine below_set ?_ GE615.out | refine below_set ?_ GE624.out) | exact HB.out))) : w.heap.size ≤ gb628)); have n9_ := Aside0.mk ((by rw [hg]; exact Nat.ne_of_lt (blk_lt (g := gb615) (o := .cells #[.slice A0_0 l0_0.length c0_0] 24 (0, 0)) (by (with_reducible repeat (first | refine blk_drewN ?_ _ | refine blk_drew ?_ | refine blk_alloc ?_ _)); exact BK615.out)) : gb615 ≠ gb628)); have n10_ := Aside0.mk ((by rw [hg]; exact Nat.ne_of_gt (blk_lt (g := gb615) (o := .cells #[.slice A0_0 l0_0.length c0_0] 24 (0, 0)) (by (with_reducible repeat (first | refine blk_drewN ?_ _ | refine blk_drew ?_ | refine blk_alloc ?_ _)); exact BK615.out)) : gb628 ≠ gb615)); have n11_ := Aside0.mk ((by rw [hg]; exact Nat.ne_of_lt (blk_lt (g := gb624) (o := .cells #[.slice Ao23 t620.length co23] 29 (0, 0)) (by (with_reducible repeat (first | refine blk_drewN ?_ _ | refine blk_drew ?_ | refine blk_alloc ?_ _)); exact BK624.out)) : gb624 ≠ gb628)); have n12_ := Aside0.mk ((by rw [hg]; exact Nat.ne_of_gt (blk_lt (g := gb624) (o := .cells #[.slice Ao23 t620.length co23] 29 (0, 0)) (by (with_reducible repeat (first | refine blk_drewN ?_ _ | refine blk_drew ?_ | refine blk_alloc ?_ _)); exact BK624.out)) : gb628 ≠ gb624)); clear HO619; clear HO622; clear HO627; clear BK615; clear BK624; clear HB; have HO619 := n0_; have HO622 := n1_; have HO627 := n2_; have BK615 := n3_; have BK624 := n4_; have HB := n5_; have BK628 := n6_; have GW628 := n7_; have GE628 := n8_; have NB615_628 := n9_; have NB628_615 := n10_; have NB624_628 := n11_; have NB628_624 := n12_; clear n0_ n1_ n2_ n3_ n4_ n5_ n6_ n7_ n8_ n9_ n10_ n11_ n12_; clear hb hbox hg; obtain ⟨Ao29, co29, eo29⟩ := Kd.R_slice HO627.out; subst eo29; have hnb30 := NB628_615.out; have hnc30 := NB615_628.out; have hnb31 := NB628_624.out; have hnc31 := NB624_628.out; have hcz32_0 : w28.cell? ⟨gb628, 0, none⟩ = some (.slice none 0 0) := (blk_cell BK628.out 0).trans rfl; have hfz32_0 := blk_frozen BK628.out 0) | ((with_reducible refine gate_callee (f := 34) rfl ?_); refine goesL_ (some 36) rfl rfl Try.func34 (by kernel_rfl) rfl #[.agg #[.slice Ao29 t625.length co29], .string a1] rfl (by (try simp only [List.map_toArray, List.map_cons, List.map_nil]); first | done | rfl | (simp only [List.length_drop, List.length_take]; rfl)) ?_; (with_reducible refine (impl_CutKey.calls _ _ t625 a1 t629 t632 _ ?side1 ?side2 A13.out).mono ?_); (case side1 => refine (Kd.R_reads' (e := 71) (base := w.heap.size) (ok := fun k_ => ((True ∧ some k_ ≠ (.slice Ao20 t617.length co20 : Value).ownBlock) ∧ some k_ ≠ (.slice Ao23 t620.length co23 : Value).ownBlock)) (n := t625.length) (c := co29) ?_).2.2; exact (by (with_reducible repeat (first | apply Kd.R_alloc | apply Kd.R_drewN | apply Kd.R_drew)); exact (Kd.R_mono (Kd.R_far (p := ⟨gb628, 0, none⟩) (Kd.R_types HO627.out BK628.out (by decide)) (fun _ hk => hk.2) (.slice Ao29 t625.length co29)) (fun _ h_ => h_.1)))); (case side2 => exact (Kd.R_reads' HO627.out).2.1); rintro e w33 ⟨v630, rfl, ho0, hb⟩; refine ⟨_, rfl, ?_⟩; have n0_ := Aside0.mk (Kd.R_elder' (by (with_reducible repeat (first | apply Kd.R_alloc | apply Kd.R_drewN | apply Kd.R_drew)); exact (Kd.R_mono (Kd.R_far (p := ⟨gb628, 0, none⟩) (Kd.R_types HO619.out BK628.out (by decide)) (fun _ hk => hk.2) (.slice Ao29 t625.length co29)) (fun _ h_ => h_.1))) (Kd.R_base ho0) hb); have n1_ := Aside0.mk (Kd.R_elder' (by (with_reducible repeat (first | apply Kd.R_alloc | apply Kd.R_drewN | apply Kd.R_drew)); exact (Kd.R_mono (Kd.R_far (p := ⟨gb628, 0, none⟩) (Kd.R_types HO622.out BK628.out (by decide)) (fun _ hk => hk.2) (.slice Ao29 t625.length co29)) (fun _ h_ => h_.1))) (Kd.R_base ho0) hb); have n2_ := Aside0.mk (Kd.R_elder' (by (with_reducible repeat (first | apply Kd.R_alloc | apply Kd.R_drewN | apply Kd.R_drew)); exact (Kd.R_mono (Kd.R_far (p := ⟨gb628, 0, none⟩) (Kd.R_types HO627.out BK628.out (by decide)) (fun _ hk => hk.2) (.slice Ao29 t625.length co29)) (fun _ h_ => h_.1))) (Kd.R_base ho0) hb); have n3_ := Aside0.mk (Kd.R_lower (Kd.R_new' (Kd.R_new' (Kd.R_new' ho0 (Kd.R_lt (by (with_reducible repeat (first | apply Kd.R_alloc | apply Kd.R_drewN | apply Kd.R_drew)); exact (Kd.R_mono (Kd.R_far (p := ⟨gb628, 0, none⟩) (Kd.R_types HO619.out BK628.out (by decide)) (fun _ hk => hk.2) (.slice Ao29 t625.length co29)) (fun _ h_ => h_.1))))) (Kd.R_lt (by (with_reducible repeat (first | apply Kd.R_alloc | apply Kd.R_drewN | apply Kd.R_drew)); exact (Kd.R_mono (Kd.R_far (p := ⟨gb628, 0, none⟩) (Kd.R_types HO622.out BK628.out (by decide)) (fun _ hk => hk.2) (.slice Ao29 t625.length co29)) (fun _ h_ => h_.1))))) (Kd.R_lt (by (with_reducible repeat (first | apply Kd.R_alloc | apply Kd.R_drewN | apply Kd.R_drew)); exact (Kd.R_mono (Kd.R_far (p := ⟨gb628, 0, none⟩) (Kd.R_types HO627.out BK628.out (by decide)) (fun _ hk => hk.2) (.slice Ao29 t625.length co29)) (fun _ h_ => h_.1))))) (below_size (by repeat (first | (with_reducible first | exact HB.out | apply below_alloc | apply pw_below_drewN | apply below_drew1 | refine below_set ?_ GE615.out | refine below_set ?_ GE624.out | refine below_set ?_ GE628.out) | exact HB.out)))); have n4_ := Aside0.mk (blk_below (g := gb615) (o := .cells #[.slice A0_0 l0_0.length c0_0] 24 (0, 0)) (by (with_reducible repeat (first | refine blk_drewN ?_ _ | refine blk_drew ?_ | refine blk_alloc ?_ _)); refine blk_far ?_ NB615_628.out _; (with_reducible repeat (first | refine blk_drewN ?_ _ | refine blk_drew ?_ | refine blk_alloc ?_ _)); exact BK615.out) hb); have n5_ := Aside0.mk (blk_below (g := gb624) (o := .cells #[.slice Ao23 t620.length co23] 29 (0, 0)) (by (with_reducible repeat (first | refine blk_drewN ?_ _ | refine blk_drew ?_ | refine blk_alloc ?_ _)); refine blk_far ?_ NB624_628.out _; (with_reducible repeat (first | refine blk_drewN ?_ _ | refine blk_drew ?_ | refine blk_alloc ?_ _)); exact BK624.out) hb); have n6_ := Aside0.mk (blk_below (g := gb628) (o := .cells #[.slice Ao29 t625.length co29] 29 (0, 0)) (by (with_reducible repeat (first | refine blk_drewN ?_ _ | refine blk_drew ?_ | refine blk_alloc ?_ _)); refine blk_put (cs := #[.slice none 0 0]) ?_ 0 _ rfl; (with_reducible repeat (first | refine blk_drewN ?_ _ | refine blk_drew ?_ | refine blk_alloc ?_ _)); exact BK628.out) hb); have n7_ := Aside0.mk (below_step (by repeat (first | (with_reducible first | exact HB.out | apply below_alloc | apply pw_below_drewN | apply below_drew1 | refine below_set ?_ GE615.out | refine below_set ?_ GE624.out | refine below_set ?_ GE628.out) | exact HB.out)) hb); clear HO619; clear HO622; clear HO627; clear BK615; clear BK624; clear BK628; clear HB; have HO619 := n0_; have HO622 := n1_; have HO627 := n2_; have HO631 := n3_; have BK615 := n4_; have BK624 := n5_; have BK628 := n6_; have HB := n7_; clear n0_ n1_ n2_ n3_ n4_ n5_ n6_ n7_; (try clear hb); (try clear hb2); (try clear hk); (try clear hi); (try clear ho0)) | ((with_reducible refine gate_dst (N := 9) rfl ?_); refine box_event ?hg (N := 9) ?hd (cs := #[.slice none 0 0]) (t := 29) ?hr ?_; (case hd => rfl); (case hg => rfl); (case hr => first | (go_simp; done) | (go_simp; rfl)); intro gb633 hg w34 hbox hb; have n0_ := Aside0.mk (Kd.R_below (by (with_reducible repeat (first | apply Kd.R_alloc | apply Kd.R_drewN | apply Kd.R_drew)); exact HO619.out) hb); have n1_ := Aside0.mk (Kd.R_below (by (with_reducible repeat (first | apply Kd.R_alloc | apply Kd.R_drewN | apply Kd.R_drew)); exact HO622.out) hb); have n2_ := Aside0.mk (Kd.R_below (by (with_reducible repeat (first | apply Kd.R_alloc | apply Kd.R_drewN | apply Kd.R_drew)); exact HO627.out) hb); have n3_ := Aside0.mk (Kd.R_below (by (with_reducible repeat (first | apply Kd.R_alloc | apply Kd.R_drewN | apply Kd.R_drew)); exact HO631.out) hb); have n4_ := Aside0.mk (blk_below (g := gb615) (o := .cells #[.slice A0_0 l0_0.length c0_0] 24 (0, 0)) (by (with_reducible repeat (first | refine blk_drewN ?_ _ | refine blk_drew ?_ | refine blk_alloc ?_ _)); exact BK615.out) hb); have n5_ := Aside0.mk (blk_below (g := gb624) (o := .cells #[.slice Ao23 t620.length co23] 29 (0, 0)) (by (with_reducible repeat (first | refine blk_drewN ?_ _ | refine blk_drew ?_ | refine blk_alloc ?_ _)); exact BK624.out) hb); have n6_ := Aside0.mk (blk_below (g := gb628) (o := .cells #[.slice Ao29 t625.length co29] 29 (0, 0)) (by (with_reducible repeat (first | refine blk_drewN ?_ _ | refine blk_drew ?_ | refine blk_alloc ?_ _)); exact BK628.out) hb); have n7_ := Aside0.mk (below_step (by repeat (first | (with_reducible first | exact HB.out | apply below_alloc | apply pw_below_drewN | apply below_drew1 | refine below_set ?_ GE615.out | refine below_set ?_ GE624.out | refine below_set ?_ GE628.out) | exact HB.out)) hb); have n8_ := Aside0.mk (hbox); have n9_ := Aside0.mk ((by rw [hg]; exact (below_size (by repeat (first | (with_reducible first | exact HB.out | apply below_alloc | apply pw_below_drewN | apply below_drew1 | refine below_set ?_ GE615.out | refine below_set ?_ GE624.out | refine below_set ?_ GE628.out) | exact HB.out))) : w.heap.size ≤ gb633)); have n10_ := Aside0.mk ((by rw [hg]; exact (below_size (by repeat (first | (with_reducible first | exact HB.out | apply below_alloc | apply pw_below_drewN | apply below_drew1 | refine below_set ?_ GE615.out | refine below_set ?_ GE624.out | refine below_set ?_ GE628.out) | exact HB.out))) : w.heap.size ≤ gb633)); have n11_ := Aside0.mk ((by rw [hg]; exact Nat.ne_of_lt (blk_lt (g := gb615) (o := .cells #[.slice A0_0 l0_0.length c0_0] 24 (0, 0)) (by (with_reducible repeat (first | refine blk_drewN ?_ _ | refine blk_drew ?_ | refine blk_alloc ?_ _)); exact BK615.out)) : gb615 ≠ gb633)); have n12_ := Aside0.mk ((by rw [hg]; exact Nat.ne_of_gt (blk_lt (g := gb615) (o := .cells #[.slice A0_0 l0_0.length c0_0] 24 (0, 0)) (by (with_reducible repeat (first | refine blk_drewN ?_ _ | refine blk_drew ?_ | refine blk_alloc ?_ _)); exact BK615.out)) : gb633 ≠ gb615)); have n13_ := Aside0.mk ((by rw [hg]; exact Nat.ne_of_lt (blk_lt (g := gb624) (o := .cells #[.slice Ao23 t620.length co23] 29 (0, 0)) (by (with_reducible repeat (first | refine blk_drewN ?_ _ | refine blk_drew ?_ | refine blk_alloc ?_ _)); exact BK624.out)) : gb624 ≠ gb633)); have n14_ := Aside0.mk ((by rw [hg]; exact Nat.ne_of_gt (blk_lt (g := gb624) (o := .cells #[.slice Ao23 t620.length co23] 29 (0, 0)) (by (with_reducible repeat (first | refine blk_drewN ?_ _ | refine blk_drew ?_ | refine blk_alloc ?_ _)); exact BK624.out)) : gb633 ≠ gb624)); have n15_ := Aside0.mk ((by rw [hg]; exact Nat.ne_of_lt (blk_lt (g := gb628) (o := .cells #[.slice Ao29 t625.length co29] 29 (0, 0)) (by (with_reducible repeat (first | refine blk_drewN ?_ _ | refine blk_drew ?_ | refine blk_alloc ?_ _)); exact BK628.out)) : gb628 ≠ gb633)); have n16_ := Aside0.mk ((by rw [hg]; exact Nat.ne_of_gt (blk_lt (g := gb628) (o := .cells #[.slice Ao29 t625.length co29] 29 (0, 0)) (by (with_reducible repeat (first | refine blk_drewN ?_ _ | refine blk_drew ?_ | refine blk_alloc ?_ _)); exact BK628.out)) : gb633 ≠ gb628)); clear HO619; clear HO622; clear HO627; clear HO631; clear BK615; clear BK624; clear BK628; clear HB; have HO619 := n0_; have HO622 := n1_; have HO627 := n2_; have HO631 := n3_; have BK615 := n4_; have BK624 := n5_; have BK628 := n6_; have HB := n7_; have BK633 := n8_; have GW633 := n9_; have GE633 := n10_; have NB615_633 := n11_; have NB633_615 := n12_; have NB624_633 := n13_; have NB633_624 := n14_; have NB628_633 := n15_; have NB633_628 := n16_; clear n0_ n1_ n2_ n3_ n4_ n5_ n6_ n7_ n8_ n9_ n10_ n11_ n12_ n13_ n14_ n15_ n16_; clear hb hbox hg; obtain ⟨Ao35, co35, eo35⟩ := Kd.R_slice HO631.out; subst eo35; have hnb36 := NB633_615.out; have hnc36 := NB615_633.out; have hnb37 := NB633_624.out; have hnc37 := NB624_633.out; have hnb38 := NB633_628.out; have hnc38 := NB628_633.out; have hcz39_0 : w34.cell? ⟨gb633, 0, none⟩ = some (.slice none 0 0) := (blk_cell BK633.out 0).trans rfl; have hfz39_0 := blk_frozen BK633.out 0))
   (try simp only [Act.put, List.setIfInBounds_toArray, List.set_cons_zero, List.set_cons_succ])
   go_cut [47] (fun v47 wc => ∃ (kq : Nat) (x47_13 : Bool), v47 = .bool x47_13 ∧ Aside0 (laws_FnExactCutKey.j0 kq a1 t623 t632 x47_13 l0_0 t620 t625 t629 = some r) ∧ Aside0 (kq ≤ k) ∧ Aside0 (Kd.R k71 71 wc w.heap.size (fun k_ => some k_ ≠ ((.slice Ao29 t625.length co29) : Value).ownBlock ∧ some k_ ≠ ((.slice Ao35 t629.length co35) : Value).ownBlock) (.slice Ao23 t620.length co23) t620) ∧ Aside0 (Kd.R k71 71 wc w.heap.size (fun k_ => some k_ ≠ ((.slice Ao23 t620.length co23) : Value).ownBlock ∧ some k_ ≠ ((.slice Ao35 t629.length co35) : Value).ownBlock) (.slice Ao29 t625.length co29) t625) ∧ Aside0 (Kd.R k71 71 wc w.heap.size (fun k_ => some k_ ≠ ((.slice Ao23 t620.length co23) : Value).ownBlock ∧ some k_ ≠ ((.slice Ao29 t625.length co29) : Value).ownBlock) (.slice Ao35 t629.length co35) t629) ∧ Aside0 (wc.heap[gb615]? = some (.cells #[(.slice A0_0 l0_0.length c0_0)] 24 (0, 0))) ∧ Aside0 (wc.heap[gb624]? = some (.cells #[(.slice Ao23 t620.length co23)] 29 (0, 0))) ∧ Aside0 (wc.heap[gb628]? = some (.cells #[(.slice Ao29 t625.length co29)] 29 (0, 0))) ∧ Aside0 (wc.heap[gb633]? = some (.cells #[(.slice Ao35 t629.length co35)] 29 (0, 0))) ∧ Aside0 (Below w.heap.size w wc))
   case first =>
    have H := HC14.out
    clear HC14
    replace H := Option.bind_eq_some_iff.mp H
    obtain ⟨t634, A400, H⟩ := H
    replace H : (if t634 = true then (laws_FnExactCutKey.j0 k a1 t623 t632 (t632 != t623) l0_0 t620 t625 t629) else (laws_FnExactCutKey.j0 k a1 t623 t632 true l0_0 t620 t625 t629)) = some r := H
    have A40 := Aside0.mk A400
    clear A400
    by_cases c41 : t634 = true
    ·
     subst c41
     have H1 : (laws_FnExactCutKey.j0 k a1 t623 t632 (t632 != t623) l0_0 t620 t625 t629) = some r := by rw [if_pos rfl] at H; exact H
     clear H
     have H := H1
     clear H1
     have H' := Aside0.mk H
     clear H
     have hnb42 := NB633_615.out
     have hnc42 := NB615_633.out
     have hnb43 := NB633_624.out
     have hnc43 := NB624_633.out
     have hnb44 := NB633_628.out
     have hnc44 := NB628_633.out
     have hcz45_0 : w34.cell? ⟨gb633, 0, none⟩ = some (.slice none 0 0) := (blk_cell BK633.out 0).trans rfl
     have hfz45_0 := blk_frozen BK633.out 0
     have hnb46 := NB624_615.out
     have hnc46 := NB615_624.out
     have hnb47 := NB624_628.out
     have hnc47 := NB628_624.out
     have hcz48_0 : w34.cell? ⟨gb624, 0, none⟩ = some (.slice Ao23 t620.length co23) := (blk_cell BK624.out 0).trans rfl
     have hfz48_0 := blk_frozen BK624.out 0
     go_wp2_with (first | ((with_reducible refine gate_callee (f := 17) rfl ?_); refine goesL_ (some 41) rfl rfl Try.func17 (by kernel_rfl) rfl #[.agg #[.slice Ao35 t629.length co35], .agg #[.slice Ao23 t620.length co23]] rfl (by (try simp only [List.map_toArray, List.map_cons, List.map_nil]); first | done | rfl | (simp only [List.length_drop, List.length_take]; rfl)) ?_; (with_reducible refine (laws_eqTreap.calls k _ _ t629 _ _ t620 true _ ?side1 ?side2 ?side3 ?side4 A40.out).mono ?_); (case side1 => refine (Kd.R_reads' (e := 71) (base := w.heap.size) (ok := fun k_ => (((True ∧ some k_ ≠ (.slice Ao20 t617.length co20 : Value).ownBlock) ∧ some k_ ≠ (.slice Ao23 t620.length co23 : Value).ownBlock) ∧ some k_ ≠ (.slice Ao29 t625.length co29 : Value).ownBlock)) (n := t629.length) (c := co35) ?_).2.2; exact (by (with_reducible repeat (first | apply Kd.R_alloc | apply Kd.R_drewN | apply Kd.R_drew)); exact (Kd.R_mono (Kd.R_far (p := ⟨gb633, 0, none⟩) (Kd.R_types HO631.out BK633.out (by decide)) (fun _ hk => hk.2) (.slice Ao35 t629.length co35)) (fun _ h_ => h_.1)))); (case side2 => exact (Kd.R_reads' HO631.out).2.1); (case side3 => refine (Kd.R_reads' (e := 71) (base := w.heap.size) (ok := fun k_ => (((True ∧ some k_ ≠ (.slice Ao20 t617.length co20 : Value).ownBlock) ∧ some k_ ≠ (.slice Ao29 t625.length co29 : Value).ownBlock) ∧ some k_ ≠ (.slice Ao35 t629.length co35 : Value).ownBlock)) (n := t620.length) (c := co23) ?_).2.2; exact (by (with_reducible repeat (first | apply Kd.R_alloc | apply Kd.R_drewN | apply Kd.R_drew)); exact (Kd.R_mono (Kd.R_far (p := ⟨gb633, 0, none⟩) (Kd.R_types HO622.out BK633.out (by decide)) (fun _ hk => hk.2) (.slice Ao35 t629.length co35)) (fun _ h_ => h_.1)))); (case side4 => exact (Kd.R_reads' HO622.out).2.1); rintro e w49 ⟨rfl, hb⟩; refine ⟨_, rfl, ?_⟩; have n0_ := Aside0.mk (Kd.R_below (by (with_reducible repeat (first | apply Kd.R_alloc | apply Kd.R_drewN | apply Kd.R_drew)); exact (Kd.R_mono (Kd.R_far (p := ⟨gb633, 0, none⟩) (Kd.R_types HO619.out BK633.out (by decide)) (fun _ hk => hk.2) (.slice Ao35 t629.length co35)) (fun _ h_ => h_.1))) hb); have n1_ := Aside0.mk (Kd.R_below (by (with_reducible repeat (first | apply Kd.R_alloc | apply Kd.R_drewN | apply Kd.R_drew)); exact (Kd.R_mono (Kd.R_far (p := ⟨gb633, 0, none⟩) (Kd.R_types HO622.out BK633.out (by decide)) (fun _ hk => hk.2) (.slice Ao35 t629.length co35)) (fun _ h_ => h_.1))) hb); have n2_ := Aside0.mk (Kd.R_below (by (with_reducible repeat (first | apply Kd.R_alloc | apply Kd.R_drewN | apply Kd.R_drew)); exact (Kd.R_mono (Kd.R_far (p := ⟨gb633, 0, none⟩) (Kd.R_types HO627.out BK633.out (by decide)) (fun _ hk => hk.2) (.slice Ao35 t629.length co35)) (fun _ h_ => h_.1))) hb); have n3_ := Aside0.mk (Kd.R_below (by (with_reducible repeat (first | apply Kd.R_alloc | apply Kd.R_drewN | apply Kd.R_drew)); exact (Kd.R_mono (Kd.R_far (p := ⟨gb633, 0, none⟩) (Kd.R_types HO631.out BK633.out (by decide)) (fun _ hk => hk.2) (.slice Ao35 t629.length co35)) (fun _ h_ => h_.1))) hb); have n4_ := Aside0.mk (blk_below (g := gb615) (o := .cells #[.slice A0_0 l0_0.length c0_0] 24 (0, 0)) (by (with_reducible repeat (first | refine blk_drewN ?_ _ | refine blk_drew ?_ | refine blk_alloc ?_ _)); refine blk_far ?_ NB615_633.out _; (with_reducible repeat (first | refine blk_drewN ?_ _ | refine blk_drew ?_ | refine blk_alloc ?_ _)); exact BK615.out) hb); have n5_ := Aside0.mk (blk_below (g := gb624) (o := .cells #[.slice Ao23 t620.length co23] 29 (0, 0)) (by (with_reducible repeat (first | refine blk_drewN ?_ _ | refine blk_drew ?_ | refine blk_alloc ?_ _)); refine blk_far ?_ NB624_633.out _; (with_reducible repeat (first | refine blk_drewN ?_ _ | refine blk_drew ?_ | refine blk_alloc ?_ _)); exact BK624.out) hb); have n6_ := Aside0.mk (blk_below (g := gb628) (o := .cells #[.slice Ao29 t625.length co29] 29 (0, 0)) (by (with_reducible repeat (first | refine blk_drewN ?_ _ | refine blk_drew ?_ | refine blk_alloc ?_ _)); refine blk_far ?_ NB628_633.out _; (with_reducible repeat (first | refine blk_drewN ?_ _ | refine blk_drew ?_ | refine blk_alloc ?_ _)); exact BK628.out) hb); have n7_ := Aside0.mk (blk_below (g := gb633) (o := .cells #[.slice Ao35 t629.length co35] 29 (0, 0)) (by (with_reducible repeat (first | refine blk_drewN ?_ _ | refine blk_drew ?_ | refine blk_alloc ?_ _)); refine blk_put (cs := #[.slice none 0 0]) ?_ 0 _ rfl; (with_reducible repeat (first | refine blk_drewN ?_ _ | refine blk_drew ?_ | refine blk_alloc ?_ _)); exact BK633.out) hb); have n8_ := Aside0.mk (below_step (by repeat (first | (with_reducible first | exact HB.out | apply below_alloc | apply pw_below_drewN | apply below_drew1 | refine below_set ?_ GE615.out | refine below_set ?_ GE624.out | refine below_set ?_ GE628.out | refine below_set ?_ GE633.out) | exact HB.out)) hb); clear HO619; clear HO622; clear HO627; clear HO631; clear BK615; clear BK624; clear BK628; clear BK633; clear HB; have HO619 := n0_; have HO622 := n1_; have HO627 := n2_; have HO631 := n3_; have BK615 := n4_; have BK624 := n5_; have BK628 := n6_; have BK633 := n7_; have HB := n8_; clear n0_ n1_ n2_ n3_ n4_ n5_ n6_ n7_ n8_; (try clear hb); (try clear hb2); (try clear hk); (try clear hi)))
     go_meet
     case rel => exact ⟨_, ((t632 != t623)), (by first | rfl | (simp; done) | (simp [*]; done)), H', ⟨by first | omega | exact Nat.le_refl _⟩, ⟨by (with_reducible repeat (first | apply Kd.R_alloc | apply Kd.R_drewN | apply Kd.R_drew)); exact Kd.R_mono HO622.out (fun _ hk => ⟨hk.1.2, hk.2⟩)⟩, ⟨by (with_reducible repeat (first | apply Kd.R_alloc | apply Kd.R_drewN | apply Kd.R_drew)); exact Kd.R_mono HO627.out (fun _ hk => ⟨hk.1.2, hk.2⟩)⟩, ⟨by (with_reducible repeat (first | apply Kd.R_alloc | apply Kd.R_drewN | apply Kd.R_drew)); exact Kd.R_mono HO631.out (fun _ hk => ⟨hk.1.2, hk.2⟩)⟩, ⟨by (with_reducible repeat (first | refine blk_drewN ?_ _ | refine blk_drew ?_ | refine blk_alloc ?_ _)); exact BK615.out⟩, ⟨by (with_reducible repeat (first | refine blk_drewN ?_ _ | refine blk_drew ?_ | refine blk_alloc ?_ _)); exact BK624.out⟩, ⟨by (with_reducible repeat (first | refine blk_drewN ?_ _ | refine blk_drew ?_ | refine blk_alloc ?_ _)); exact BK628.out⟩, ⟨by (with_reducible repeat (first | refine blk_drewN ?_ _ | refine blk_drew ?_ | refine blk_alloc ?_ _)); exact BK633.out⟩, ⟨by repeat (first | (with_reducible first | exact HB.out | apply below_alloc | apply pw_below_drewN | apply below_drew1 | refine below_set ?_ GE615.out | refine below_set ?_ GE624.out | refine below_set ?_ GE628.out | refine below_set ?_ GE633.out) | exact HB.out)⟩⟩
    ·
     replace c41 := Bool.eq_false_iff.mpr c41
     subst c41
     have H1 : (laws_FnExactCutKey.j0 k a1 t623 t632 true l0_0 t620 t625 t629) = some r := by rw [if_neg (show ¬ (false = true) by decide)] at H; exact H
     clear H
     have H := H1
     clear H1
     have H' := Aside0.mk H
     clear H
     have hnb50 := NB633_615.out
     have hnc50 := NB615_633.out
     have hnb51 := NB633_624.out
     have hnc51 := NB624_633.out
     have hnb52 := NB633_628.out
     have hnc52 := NB628_633.out
     have hcz53_0 : w34.cell? ⟨gb633, 0, none⟩ = some (.slice none 0 0) := (blk_cell BK633.out 0).trans rfl
     have hfz53_0 := blk_frozen BK633.out 0
     have hnb54 := NB624_615.out
     have hnc54 := NB615_624.out
     have hnb55 := NB624_628.out
     have hnc55 := NB628_624.out
     have hcz56_0 : w34.cell? ⟨gb624, 0, none⟩ = some (.slice Ao23 t620.length co23) := (blk_cell BK624.out 0).trans rfl
     have hfz56_0 := blk_frozen BK624.out 0
     go_wp2_with (first | ((with_reducible refine gate_callee (f := 17) rfl ?_); refine goesL_ (some 41) rfl rfl Try.func17 (by kernel_rfl) rfl #[.agg #[.slice Ao35 t629.length co35], .agg #[.slice Ao23 t620.length co23]] rfl (by (try simp only [List.map_toArray, List.map_cons, List.map_nil]); first | done | rfl | (simp only [List.length_drop, List.length_take]; rfl)) ?_; (with_reducible refine (laws_eqTreap.calls k _ _ t629 _ _ t620 false _ ?side1 ?side2 ?side3 ?side4 A40.out).mono ?_); (case side1 => refine (Kd.R_reads' (e := 71) (base := w.heap.size) (ok := fun k_ => (((True ∧ some k_ ≠ (.slice Ao20 t617.length co20 : Value).ownBlock) ∧ some k_ ≠ (.slice Ao23 t620.length co23 : Value).ownBlock) ∧ some k_ ≠ (.slice Ao29 t625.length co29 : Value).ownBlock)) (n := t629.length) (c := co35) ?_).2.2; exact (by (with_reducible repeat (first | apply Kd.R_alloc | apply Kd.R_drewN | apply Kd.R_drew)); exact (Kd.R_mono (Kd.R_far (p := ⟨gb633, 0, none⟩) (Kd.R_types HO631.out BK633.out (by decide)) (fun _ hk => hk.2) (.slice Ao35 t629.length co35)) (fun _ h_ => h_.1)))); (case side2 => exact (Kd.R_reads' HO631.out).2.1); (case side3 => refine (Kd.R_reads' (e := 71) (base := w.heap.size) (ok := fun k_ => (((True ∧ some k_ ≠ (.slice Ao20 t617.length co20 : Value).ownBlock) ∧ some k_ ≠ (.slice Ao29 t625.length co29 : Value).ownBlock) ∧ some k_ ≠ (.slice Ao35 t629.length co35 : Value).ownBlock)) (n := t620.length) (c := co23) ?_).2.2; exact (by (with_reducible repeat (first | apply Kd.R_alloc | apply Kd.R_drewN | apply Kd.R_drew)); exact (Kd.R_mono (Kd.R_far (p := ⟨gb633, 0, none⟩) (Kd.R_types HO622.out BK633.out (by decide)) (fun _ hk => hk.2) (.slice Ao35 t629.length co35)) (fun _ h_ => h_.1)))); (case side4 => exact (Kd.R_reads' HO622.out).2.1); rintro e w57 ⟨rfl, hb⟩; refine ⟨_, rfl, ?_⟩; have n0_ := Aside0.mk (Kd.R_below (by (with_reducible repeat (first | apply Kd.R_alloc | apply Kd.R_drewN | apply Kd.R_drew)); exact (Kd.R_mono (Kd.R_far (p := ⟨gb633, 0, none⟩) (Kd.R_types HO619.out BK633.out (by decide)) (fun _ hk => hk.2) (.slice Ao35 t629.length co35)) (fun _ h_ => h_.1))) hb); have n1_ := Aside0.mk (Kd.R_below (by (with_reducible repeat (first | apply Kd.R_alloc | apply Kd.R_drewN | apply Kd.R_drew)); exact (Kd.R_mono (Kd.R_far (p := ⟨gb633, 0, none⟩) (Kd.R_types HO622.out BK633.out (by decide)) (fun _ hk => hk.2) (.slice Ao35 t629.length co35)) (fun _ h_ => h_.1))) hb); have n2_ := Aside0.mk (Kd.R_below (by (with_reducible repeat (first | apply Kd.R_alloc | apply Kd.R_drewN | apply Kd.R_drew)); exact (Kd.R_mono (Kd.R_far (p := ⟨gb633, 0, none⟩) (Kd.R_types HO627.out BK633.out (by decide)) (fun _ hk => hk.2) (.slice Ao35 t629.length co35)) (fun _ h_ => h_.1))) hb); have n3_ := Aside0.mk (Kd.R_below (by (with_reducible repeat (first | apply Kd.R_alloc | apply Kd.R_drewN | apply Kd.R_drew)); exact (Kd.R_mono (Kd.R_far (p := ⟨gb633, 0, none⟩) (Kd.R_types HO631.out BK633.out (by decide)) (fun _ hk => hk.2) (.slice Ao35 t629.length co35)) (fun _ h_ => h_.1))) hb); have n4_ := Aside0.mk (blk_below (g := gb615) (o := .cells #[.slice A0_0 l0_0.length c0_0] 24 (0, 0)) (by (with_reducible repeat (first | refine blk_drewN ?_ _ | refine blk_drew ?_ | refine blk_alloc ?_ _)); refine blk_far ?_ NB615_633.out _; (with_reducible repeat (first | refine blk_drewN ?_ _ | refine blk_drew ?_ | refine blk_alloc ?_ _)); exact BK615.out) hb); have n5_ := Aside0.mk (blk_below (g := gb624) (o := .cells #[.slice Ao23 t620.length co23] 29 (0, 0)) (by (with_reducible repeat (first | refine blk_drewN ?_ _ | refine blk_drew ?_ | refine blk_alloc ?_ _)); refine blk_far ?_ NB624_633.out _; (with_reducible repeat (first | refine blk_drewN ?_ _ | refine blk_drew ?_ | refine blk_alloc ?_ _)); exact BK624.out) hb); have n6_ := Aside0.mk (blk_below (g := gb628) (o := .cells #[.slice Ao29 t625.length co29] 29 (0, 0)) (by (with_reducible repeat (first | refine blk_drewN ?_ _ | refine blk_drew ?_ | refine blk_alloc ?_ _)); refine blk_far ?_ NB628_633.out _; (with_reducible repeat (first | refine blk_drewN ?_ _ | refine blk_drew ?_ | refine blk_alloc ?_ _)); exact BK628.out) hb); have n7_ := Aside0.mk (blk_below (g := gb633) (o := .cells #[.slice Ao35 t629.length co35] 29 (0, 0)) (by (with_reducible repeat (first | refine blk_drewN ?_ _ | refine blk_drew ?_ | refine blk_alloc ?_ _)); refine blk_put (cs := #[.slice none 0 0]) ?_ 0 _ rfl; (with_reducible repeat (first | refine blk_drewN ?_ _ | refine blk_drew ?_ | refine blk_alloc ?_ _)); exact BK633.out) hb); have n8_ := Aside0.mk (below_step (by repeat (first | (with_reducible first | exact HB.out | apply below_alloc | apply pw_below_drewN | apply below_drew1 | refine below_set ?_ GE615.out | refine below_set ?_ GE624.out | refine below_set ?_ GE628.out | refine below_set ?_ GE633.out) | exact HB.out)) hb); clear HO619; clear HO622; clear HO627; clear HO631; clear BK615; clear BK624; clear BK628; clear BK633; clear HB; have HO619 := n0_; have HO622 := n1_; have HO627 := n2_; have HO631 := n3_; have BK615 := n4_; have BK624 := n5_; have BK628 := n6_; have BK633 := n7_; have HB := n8_; clear n0_ n1_ n2_ n3_ n4_ n5_ n6_ n7_ n8_; (try clear hb); (try clear hb2); (try clear hk); (try clear hi)))
     go_meet
     case rel => exact ⟨_, (true), (by first | rfl | (simp; done) | (simp [*]; done)), H', ⟨by first | omega | exact Nat.le_refl _⟩, ⟨by (with_reducible repeat (first | apply Kd.R_alloc | apply Kd.R_drewN | apply Kd.R_drew)); exact Kd.R_mono HO622.out (fun _ hk => ⟨hk.1.2, hk.2⟩)⟩, ⟨by (with_reducible repeat (first | apply Kd.R_alloc | apply Kd.R_drewN | apply Kd.R_drew)); exact Kd.R_mono HO627.out (fun _ hk => ⟨hk.1.2, hk.2⟩)⟩, ⟨by (with_reducible repeat (first | apply Kd.R_alloc | apply Kd.R_drewN | apply Kd.R_drew)); exact Kd.R_mono HO631.out (fun _ hk => ⟨hk.1.2, hk.2⟩)⟩, ⟨by (with_reducible repeat (first | refine blk_drewN ?_ _ | refine blk_drew ?_ | refine blk_alloc ?_ _)); exact BK615.out⟩, ⟨by (with_reducible repeat (first | refine blk_drewN ?_ _ | refine blk_drew ?_ | refine blk_alloc ?_ _)); exact BK624.out⟩, ⟨by (with_reducible repeat (first | refine blk_drewN ?_ _ | refine blk_drew ?_ | refine blk_alloc ?_ _)); exact BK628.out⟩, ⟨by (with_reducible repeat (first | refine blk_drewN ?_ _ | refine blk_drew ?_ | refine blk_alloc ?_ _)); exact BK633.out⟩, ⟨by repeat (first | (with_reducible first | exact HB.out | apply below_alloc | apply pw_below_drewN | apply below_drew1 | refine below_set ?_ GE615.out | refine below_set ?_ GE624.out | refine below_set ?_ GE628.out | refine below_set ?_ GE633.out) | exact HB.out)⟩⟩
   case rest =>
    clear HC14
    try clear c1
    try clear c2
    try clear p2
    try clear c3
    try clear c3b0
    try clear c3b1
    try clear c4
    try clear c5
    try clear c6
    try clear c6b0
    try clear c9
    try clear c13
    try clear c15
    try clear c17
    try clear c24
    try clear c30
    try clear c31
    try clear c33
    try clear c34
    try clear c36
    try clear c37
    try clear c38
    try clear c41
    try clear c42
    try clear c43
    try clear c44
    try clear c46
    try clear c47
    try clear c50
    try clear c51
    try clear c52
    try clear c54
    try clear c55
    try clear hcz16_0
    try clear hcz18_0
    try clear hcz25_0
    try clear hcz26_0
    try clear hcz32_0
    try clear hcz39_0
    try clear hcz45_0
    try clear hcz48_0
    try clear hcz53_0
    try clear hcz56_0
    try clear hcz8_0
    try clear hfz16_0
    try clear hfz18_0
    try clear hfz25_0
    try clear hfz26_0
    try clear hfz32_0
    try clear hfz39_0
    try clear hfz45_0
    try clear hfz48_0
    try clear hfz53_0
    try clear hfz56_0
    try clear hfz8_0
    obtain ⟨kq, x47_13, rfl, HA, HJ13, HO_625000, HO_629000, HO_634000, BK615, BK624, BK628, BK633, HB⟩ := hcut
    cases kq with
    | zero => exact absurd HA.out (by simp [laws_FnExactCutKey.j0])
    | succ kj13 =>
     have H := HA.out
     clear HA
     simp only [laws_FnExactCutKey.j0] at H
     by_cases c58 : x47_13 = true
     ·
      subst c58
      have H1 : (some false) = some r := by rw [if_pos rfl] at H; exact H
      clear H
      have H := H1
      clear H1
      obtain rfl := Option.some.inj H
      go_wp2
      go_ret
      exact ⟨by first | rfl | (simp [errW_none, errW_some] <;> rfl) | (simp [*, errW_none, errW_some] <;> rfl), by repeat (first | (with_reducible first | exact HB.out | apply below_alloc | apply pw_below_drewN | apply below_drew1 | refine below_set ?_ GE615.out | refine below_set ?_ GE624.out | refine below_set ?_ GE628.out | refine below_set ?_ GE633.out) | exact HB.out)⟩
     ·
      replace c58 := Bool.eq_false_iff.mpr c58
      subst c58
      have H1 : ((laws_toTreap.f kj13 l0_0).bind fun t635 => ((laws_eqTreap.f kj13 t625 t635).bind fun t638 => (if t638 = true then ((laws_markTreap.f kj13 t625 1).bind fun bt639 => (if bt639.1 < 0 then (laws_FnExactCutKey.j1 kj13 a1 t623 true l0_0 t620 t629) else ((laws_eqTreap.f kj13 t629 t620).bind fun t641 => (if t641 = true then (laws_FnExactCutKey.j1 kj13 a1 t623 (t632 != t623) l0_0 t620 t629) else (laws_FnExactCutKey.j1 kj13 a1 t623 true l0_0 t620 t629))))) else (some false)))) = some r := by rw [if_neg (show ¬ (false = true) by decide)] at H; exact H
      clear H
      have H := H1
      clear H1
      replace H := Option.bind_eq_some_iff.mp H
      obtain ⟨t635, A590, H⟩ := H
      replace H : ((laws_eqTreap.f kj13 t625 t635).bind fun t638 => (if t638 = true then ((laws_markTreap.f kj13 t625 1).bind fun bt639 => (if bt639.1 < 0 then (laws_FnExactCutKey.j1 kj13 a1 t623 true l0_0 t620 t629) else ((laws_eqTreap.f kj13 t629 t620).bind fun t641 => (if t641 = true then (laws_FnExactCutKey.j1 kj13 a1 t623 (t632 != t623) l0_0 t620 t629) else (laws_FnExactCutKey.j1 kj13 a1 t623 true l0_0 t620 t629))))) else (some false))) = some r := H
      have A59 := Aside0.mk A590
      clear A590
      replace H := Option.bind_eq_some_iff.mp H
      obtain ⟨t638, A600, H⟩ := H
      replace H : (if t638 = true then ((laws_markTreap.f kj13 t625 1).bind fun bt639 => (if bt639.1 < 0 then (laws_FnExactCutKey.j1 kj13 a1 t623 true l0_0 t620 t629) else ((laws_eqTreap.f kj13 t629 t620).bind fun t641 => (if t641 = true then (laws_FnExactCutKey.j1 kj13 a1 t623 (t632 != t623) l0_0 t620 t629) else (laws_FnExactCutKey.j1 kj13 a1 t623 true l0_0 t620 t629))))) else (some false)) = some r := H
      have A60 := Aside0.mk A600
      clear A600
      by_cases c61 : t638 = true
      ·
       subst c61
       have H1 : ((laws_markTreap.f kj13 t625 1).bind fun bt639 => (if bt639.1 < 0 then (laws_FnExactCutKey.j1 kj13 a1 t623 true l0_0 t620 t629) else ((laws_eqTreap.f kj13 t629 t620).bind fun t641 => (if t641 = true then (laws_FnExactCutKey.j1 kj13 a1 t623 (t632 != t623) l0_0 t620 t629) else (laws_FnExactCutKey.j1 kj13 a1 t623 true l0_0 t620 t629))))) = some r := by rw [if_pos rfl] at H; exact H
       clear H
       have H := H1
       clear H1
       replace H := Option.bind_eq_some_iff.mp H
       obtain ⟨⟨t639, t640⟩, A620, H⟩ := H
       replace H : (if t639 < 0 then (laws_FnExactCutKey.j1 kj13 a1 t623 true l0_0 t620 t629) else ((laws_eqTreap.f kj13 t629 t620).bind fun t641 => (if t641 = true then (laws_FnExactCutKey.j1 kj13 a1 t623 (t632 != t623) l0_0 t620 t629) else (laws_FnExactCutKey.j1 kj13 a1 t623 true l0_0 t620 t629)))) = some r := H
       have A62 := Aside0.mk A620
       clear A620
       have HC63 := Aside0.mk H
       clear H
       try go_wp2
       have n0_ := Aside0.mk (Kd.R_drew HO_625000.out)
       have n1_ := Aside0.mk (Kd.R_drew HO_629000.out)
       have n2_ := Aside0.mk (Kd.R_drew HO_634000.out)
       have n3_ := Aside0.mk (blk_drew BK615.out)
       have n4_ := Aside0.mk (blk_drew BK624.out)
       have n5_ := Aside0.mk (blk_drew BK628.out)
       have n6_ := Aside0.mk (blk_drew BK633.out)
       have n7_ := Aside0.mk (below_drew1 HB.out)
       clear HO_625000
       clear HO_629000
       clear HO_634000
       clear BK615
       clear BK624
       clear BK628
       clear BK633
       clear HB
       have HO_625000 := n0_
       have HO_629000 := n1_
       have HO_634000 := n2_
       have BK615 := n3_
       have BK624 := n4_
       have BK628 := n5_
       have BK633 := n6_
       have HB := n7_
       clear n0_ n1_ n2_ n3_ n4_ n5_ n6_ n7_
       refine start_ (n := 5) (S := fun w' => w'.cell? ⟨gb628, 0, none⟩ = some (.slice Ao29 t625.length co29) ∧ w'.cell? ⟨gb615, 0, none⟩ = some (.slice A0_0 l0_0.length c0_0)) (ds := []) #[false, false, false, false, false] (by kernel_rfl) rfl rfl ⟨(blk_cell BK628.out 0).trans rfl, (blk_cell BK615.out 0).trans rfl⟩ (fun hHeld => ?_)
       generalize wc.drew = w64 at HO_625000 HO_629000 HO_634000 BK615 BK624 BK628 BK633 HB hHeld ⊢
       refine take_ (i := 0) (N := some 48) (v := ?_) (a' := ?_) #[true, false, false, false, false] rfl rfl (by kernel_rfl) (fun _ _ _ h => h) (Or.inl ⟨by rfl, ?_⟩) hHeld ?_ ?_
       rotate_left
       ·
        rintro w' ⟨s0, s1⟩
        go_simp
        with_reducible rfl
       rotate_left
       ·
        simp only [Act.put, List.setIfInBounds_toArray, List.set_cons_zero, List.set_cons_succ, i64_w, i32_w]
        rfl
       refine take_ (i := 1) (N := some 49) (v := ?_) (a' := ?_) #[true, true, false, false, false] rfl rfl (by kernel_rfl) (fun _ _ _ h => h) (Or.inl ⟨by rfl, ?_⟩) hHeld ?_ ?_
       rotate_left
       ·
        rintro w' ⟨s0, s1⟩
        go_simp
        with_reducible rfl
       rotate_left
       ·
        simp only [Act.put, List.setIfInBounds_toArray, List.set_cons_zero, List.set_cons_succ, i64_w, i32_w]
        rfl
       refine one_ (i := 2) (N := some 50) #[true, true, true, false, false] rfl rfl (by kernel_rfl) (by decide) (fun K hK => ?_)
       refine goes_ Try.func15 (by kernel_rfl) rfl #[.agg #[.slice A0_0 l0_0.length c0_0]] (by rfl) rfl rfl (by (try simp only [List.map_toArray, List.map_cons, List.map_nil]); first | done | rfl | (simp only [List.length_drop, List.length_take]; rfl)) ?_
       with_reducible refine (laws_toTreap.calls kj13 _ _ l0_0 t635 _ ?side1 ?side2 A59.out).mono ?_
       (case side1 => repeat (first | exact (Kd.C_below HR0_0.out HB.out) | (with_reducible refine Kd.C_alloc ?_ _) | (with_reducible refine Kd.C_drewN ?_ _) | (with_reducible refine Kd.C_drew ?_)))
       (case side2 => exact HC0_0.out)
       rintro e w65 ⟨v636, rfl, ho0, hb⟩
       refine ⟨_, rfl, ?_⟩
       have n0_ := Aside0.mk (Kd.R_elder' (by (with_reducible repeat (first | apply Kd.R_alloc | apply Kd.R_drewN | apply Kd.R_drew)); exact HO_625000.out) (Kd.R_base ho0) hb)
       have n1_ := Aside0.mk (Kd.R_elder' (by (with_reducible repeat (first | apply Kd.R_alloc | apply Kd.R_drewN | apply Kd.R_drew)); exact HO_629000.out) (Kd.R_base ho0) hb)
       have n2_ := Aside0.mk (Kd.R_elder' (by (with_reducible repeat (first | apply Kd.R_alloc | apply Kd.R_drewN | apply Kd.R_drew)); exact HO_634000.out) (Kd.R_base ho0) hb)
       have n3_ := Aside0.mk (Kd.R_lower (Kd.R_new' (Kd.R_new' (Kd.R_new' ho0 (Kd.R_lt (by (with_reducible repeat (first | apply Kd.R_alloc | apply Kd.R_drewN | apply Kd.R_drew)); exact HO_625000.out))) (Kd.R_lt (by (with_reducible repeat (first | apply Kd.R_alloc | apply Kd.R_drewN | apply Kd.R_drew)); exact HO_629000.out))) (Kd.R_lt (by (with_reducible repeat (first | apply Kd.R_alloc | apply Kd.R_drewN | apply Kd.R_drew)); exact HO_634000.out))) (below_size (by repeat (first | (with_reducible first | exact HB.out | apply below_alloc | apply pw_below_drewN | apply below_drew1 | refine below_set ?_ GE615.out | refine below_set ?_ GE624.out | refine below_set ?_ GE628.out | refine below_set ?_ GE633.out) | exact HB.out))))
       have n4_ := Aside0.mk (blk_below (g := gb615) (o := .cells #[.slice A0_0 l0_0.length c0_0] 24 (0, 0)) (by (with_reducible repeat (first | refine blk_drewN ?_ _ | refine blk_drew ?_ | refine blk_alloc ?_ _)); exact BK615.out) hb)
       have n5_ := Aside0.mk (blk_below (g := gb624) (o := .cells #[.slice Ao23 t620.length co23] 29 (0, 0)) (by (with_reducible repeat (first | refine blk_drewN ?_ _ | refine blk_drew ?_ | refine blk_alloc ?_ _)); exact BK624.out) hb)
       have n6_ := Aside0.mk (blk_below (g := gb628) (o := .cells #[.slice Ao29 t625.length co29] 29 (0, 0)) (by (with_reducible repeat (first | refine blk_drewN ?_ _ | refine blk_drew ?_ | refine blk_alloc ?_ _)); exact BK628.out) hb)
       have n7_ := Aside0.mk (blk_below (g := gb633) (o := .cells #[.slice Ao35 t629.length co35] 29 (0, 0)) (by (with_reducible repeat (first | refine blk_drewN ?_ _ | refine blk_drew ?_ | refine blk_alloc ?_ _)); exact BK633.out) hb)
       have n8_ := Aside0.mk (below_step (by repeat (first | (with_reducible first | exact HB.out | apply below_alloc | apply pw_below_drewN | apply below_drew1 | refine below_set ?_ GE615.out | refine below_set ?_ GE624.out | refine below_set ?_ GE628.out | refine below_set ?_ GE633.out) | exact HB.out)) hb)
       clear HO_625000
       clear HO_629000
       clear HO_634000
       clear BK615
       clear BK624
       clear BK628
       clear BK633
       clear HB
       have HO_625000 := n0_
       have HO_629000 := n1_
       have HO_634000 := n2_
       have HO637 := n3_
       have BK615 := n4_
       have BK624 := n5_
       have BK628 := n6_
       have BK633 := n7_
       have HB := n8_
       clear n0_ n1_ n2_ n3_ n4_ n5_ n6_ n7_ n8_
       (try clear hb)
       (try clear hb2)
       (try clear hk)
       (try clear hi)
       (try clear ho0)
       obtain ⟨Ao66, co66, eo66⟩ := Kd.R_slice HO637.out
       (first | subst eo66 | (injection eo66 with f1_ f2_ f3_; have f4_ := f1_.symm; have f5_ := f3_.symm; clear f1_ f2_ f3_; subst f4_; subst f5_))
       refine hK.out _ _ ⟨(blk_cell BK628.out 0).trans rfl, (blk_cell BK615.out 0).trans rfl⟩ (fun hHeld => ?_)
       clear hK K
       refine norm_ (a' := ?_) ?_ ?_
       rotate_left
       ·
        show Act.put _ (some 50) _ = _
        simp only [Act.put, List.setIfInBounds_toArray, List.set_cons_zero, List.set_cons_succ, i64_w, i32_w]
        rfl
       refine one_ (i := 3) (N := some 51) #[true, true, true, true, false] rfl rfl (by kernel_rfl) (by decide) (fun K hK => ?_)
       refine goes_ Try.func17 (by kernel_rfl) rfl #[.agg #[.slice Ao29 t625.length co29], .agg #[.slice Ao66 t635.length co66]] (by rfl) rfl rfl (by (try simp only [List.map_toArray, List.map_cons, List.map_nil]); first | done | rfl | (simp only [List.length_drop, List.length_take]; rfl)) ?_
       with_reducible refine (laws_eqTreap.calls kj13 _ _ t625 _ _ t635 true _ ?side1 ?side2 ?side3 ?side4 A60.out).mono ?_
       (case side1 => repeat (first | exact (Kd.R_reads' HO_629000.out).2.2 | (with_reducible refine Kd.C_alloc ?_ _) | (with_reducible refine Kd.C_drewN ?_ _) | (with_reducible refine Kd.C_drew ?_)))
       (case side2 => exact (Kd.R_reads' HO_629000.out).2.1)
       (case side3 => repeat (first | exact (Kd.R_reads' HO637.out).2.2 | (with_reducible refine Kd.C_alloc ?_ _) | (with_reducible refine Kd.C_drewN ?_ _) | (with_reducible refine Kd.C_drew ?_)))
       (case side4 => exact (Kd.R_reads' HO637.out).2.1)
       rintro e w67 ⟨rfl, hb⟩
       refine ⟨_, rfl, ?_⟩
       have n0_ := Aside0.mk (Kd.R_below (by (with_reducible repeat (first | apply Kd.R_alloc | apply Kd.R_drewN | apply Kd.R_drew)); exact HO_625000.out) hb)
       have n1_ := Aside0.mk (Kd.R_below (by (with_reducible repeat (first | apply Kd.R_alloc | apply Kd.R_drewN | apply Kd.R_drew)); exact HO_629000.out) hb)
       have n2_ := Aside0.mk (Kd.R_below (by (with_reducible repeat (first | apply Kd.R_alloc | apply Kd.R_drewN | apply Kd.R_drew)); exact HO_634000.out) hb)
       have n3_ := Aside0.mk (Kd.R_below (by (with_reducible repeat (first | apply Kd.R_alloc | apply Kd.R_drewN | apply Kd.R_drew)); exact HO637.out) hb)
       have n4_ := Aside0.mk (blk_below (g := gb615) (o := .cells #[.slice A0_0 l0_0.length c0_0] 24 (0, 0)) (by (with_reducible repeat (first | refine blk_drewN ?_ _ | refine blk_drew ?_ | refine blk_alloc ?_ _)); exact BK615.out) hb)
       have n5_ := Aside0.mk (blk_below (g := gb624) (o := .cells #[.slice Ao23 t620.length co23] 29 (0, 0)) (by (with_reducible repeat (first | refine blk_drewN ?_ _ | refine blk_drew ?_ | refine blk_alloc ?_ _)); exact BK624.out) hb)
       have n6_ := Aside0.mk (blk_below (g := gb628) (o := .cells #[.slice Ao29 t625.length co29] 29 (0, 0)) (by (with_reducible repeat (first | refine blk_drewN ?_ _ | refine blk_drew ?_ | refine blk_alloc ?_ _)); exact BK628.out) hb)
       have n7_ := Aside0.mk (blk_below (g := gb633) (o := .cells #[.slice Ao35 t629.length co35] 29 (0, 0)) (by (with_reducible repeat (first | refine blk_drewN ?_ _ | refine blk_drew ?_ | refine blk_alloc ?_ _)); exact BK633.out) hb)
       have n8_ := Aside0.mk (below_step (by repeat (first | (with_reducible first | exact HB.out | apply below_alloc | apply pw_below_drewN | apply below_drew1 | refine below_set ?_ GE615.out | refine below_set ?_ GE624.out | refine below_set ?_ GE628.out | refine below_set ?_ GE633.out) | exact HB.out)) hb)
       clear HO_625000
       clear HO_629000
       clear HO_634000
       clear HO637
       clear BK615
       clear BK624
       clear BK628
       clear BK633
       clear HB
       have HO_625000 := n0_
       have HO_629000 := n1_
       have HO_634000 := n2_
       have HO637 := n3_
       have BK615 := n4_
       have BK624 := n5_
       have BK628 := n6_
       have BK633 := n7_
       have HB := n8_
       clear n0_ n1_ n2_ n3_ n4_ n5_ n6_ n7_ n8_
       (try clear hb)
       (try clear hb2)
       (try clear hk)
       (try clear hi)
       refine hK.out _ _ ⟨(blk_cell BK628.out 0).trans rfl, (blk_cell BK615.out 0).trans rfl⟩ (fun hHeld => ?_)
       clear hK K
       refine norm_ (a' := ?_) ?_ ?_
       rotate_left
       ·
        show Act.put _ (some 51) _ = _
        simp only [Act.put, List.setIfInBounds_toArray, List.set_cons_zero, List.set_cons_succ, i64_w, i32_w]
        rfl
       refine pure_ (i := 4) (N := some 52) (v := ?_) (a' := ?_) #[true, true, true, true, true] rfl rfl (by kernel_rfl) (fun _ _ _ h => h) (Or.inl ⟨by rfl, ?_⟩) ?_ ?_
       rotate_left
       ·
        intro w'
        go_simp
        with_reducible rfl
       rotate_left
       ·
        simp only [Act.put, List.setIfInBounds_toArray, List.set_cons_zero, List.set_cons_succ, i64_w, i32_w]
        rfl
       refine done_ (by kernel_rfl) ?_
       have hnb68 := NB628_615.out
       have hnc68 := NB615_628.out
       have hnb69 := NB628_624.out
       have hnc69 := NB624_628.out
       have hnb70 := NB628_633.out
       have hnc70 := NB633_628.out
       have hcz71_0 : w67.cell? ⟨gb628, 0, none⟩ = some (.slice Ao29 t625.length co29) := (blk_cell BK628.out 0).trans rfl
       have hfz71_0 := blk_frozen BK628.out 0
       go_upto_region 16 with (first | ((with_reducible refine gate_callee (f := 25) rfl ?_); refine goesL_ (some 55) rfl rfl Try.func25 (by kernel_rfl) rfl #[.agg #[.slice Ao29 t625.length co29], .int .i64 1] rfl (by (try simp only [List.map_toArray, List.map_cons, List.map_nil]); first | done | rfl | (simp only [List.length_drop, List.length_take]; rfl)) ?_; (with_reducible refine (laws_markTreap.calls kj13 (fun k_ => some k_ = (.slice Ao29 t625.length co29 : Value).ownBlock) (.slice Ao29 t625.length co29) t625 1 t639 t640 w _ ?side1 ?side2 A62.out).mono ?_); (case side1 => repeat (first | (with_reducible first | exact HB.out | apply below_alloc | apply pw_below_drewN | apply below_drew1 | refine below_set ?_ GE615.out | refine below_set ?_ GE624.out | refine below_set ?_ GE628.out | refine below_set ?_ GE633.out) | exact HB.out)); (case side2 => exact Kd.R_tight rfl HO_629000.out); rintro e w72 ⟨rfl, hy0, hb, hkp⟩; refine ⟨_, rfl, ?_⟩; have n0_ := Aside0.mk (Kd.R_mono (ok' := fun k_ => some k_ ≠ (.slice Ao29 t625.length co29 : Value).ownBlock ∧ some k_ ≠ (.slice Ao35 t629.length co35 : Value).ownBlock ∧ some k_ ≠ (.slice Ao66 t635.length co66 : Value).ownBlock) (Kd.R_keptB (HO_625000.out) hkp (fun k_ hk_ hs_ => (hk_.1.1) hs_)) (fun k_ hk_ => ⟨hk_.1.1.1, hk_.1.1.2, hk_.1.2⟩)); have n1_ := Aside0.mk (Kd.R_reok rfl hy0 (fun k_ e_ => HO_629000.out.1 k_ e_)); have n2_ := Aside0.mk (Kd.R_mono (ok' := fun k_ => some k_ ≠ (.slice Ao23 t620.length co23 : Value).ownBlock ∧ some k_ ≠ (.slice Ao29 t625.length co29 : Value).ownBlock ∧ some k_ ≠ (.slice Ao66 t635.length co66 : Value).ownBlock) (Kd.R_keptB (HO_634000.out) hkp (fun k_ hk_ hs_ => (hk_.1.2) hs_)) (fun k_ hk_ => ⟨hk_.1.1.1, hk_.1.1.2, hk_.1.2⟩)); have n3_ := Aside0.mk (blk_kept (by (with_reducible repeat (first | refine blk_drewN ?_ _ | refine blk_drew ?_ | refine blk_alloc ?_ _)); exact BK615.out) hkp (fun hs_ => (fun e_ => (Kd.R_ne HO_629000.out BK615.out (by decide)) e_) hs_)); have n4_ := Aside0.mk (blk_kept (by (with_reducible repeat (first | refine blk_drewN ?_ _ | refine blk_drew ?_ | refine blk_alloc ?_ _)); exact BK624.out) hkp (fun hs_ => (fun e_ => (Kd.R_ne HO_629000.out BK624.out (by decide)) e_) hs_)); have n5_ := Aside0.mk (blk_kept (by (with_reducible repeat (first | refine blk_drewN ?_ _ | refine blk_drew ?_ | refine blk_alloc ?_ _)); exact BK628.out) hkp (fun hs_ => (fun e_ => (Kd.R_ne HO_629000.out BK628.out (by decide)) e_) hs_)); have n6_ := Aside0.mk (blk_kept (by (with_reducible repeat (first | refine blk_drewN ?_ _ | refine blk_drew ?_ | refine blk_alloc ?_ _)); exact BK633.out) hkp (fun hs_ => (fun e_ => (Kd.R_ne HO_629000.out BK633.out (by decide)) e_) hs_)); have n7_ := Aside0.mk (Kd.R_mono (ok' := fun k_ => some k_ ≠ (.slice Ao23 t620.length co23 : Value).ownBlock ∧ some k_ ≠ (.slice Ao29 t625.length co29 : Value).ownBlock ∧ some k_ ≠ (.slice Ao35 t629.length co35 : Value).ownBlock) (Kd.R_keptB (HO637.out) hkp (fun k_ hk_ hs_ => (hk_.1.2) hs_)) (fun k_ hk_ => ⟨hk_.1.1.1.2, hk_.1.1.2, hk_.1.2⟩)); have n8_ := Aside0.mk (hb); clear HO_625000; clear HO_629000; clear HO_634000; clear BK615; clear BK624; clear BK628; clear BK633; clear HO637; clear HB; have HO_625000 := n0_; have HO_629000 := n1_; have HO_634000 := n2_; have BK615 := n3_; have BK624 := n4_; have BK628 := n5_; have BK633 := n6_; have HO637 := n7_; have HB := n8_; clear n0_ n1_ n2_ n3_ n4_ n5_ n6_ n7_ n8_; (try clear hb); (try clear hkp); (try clear hy0)))
       (try simp only [Act.put, List.setIfInBounds_toArray, List.set_cons_zero, List.set_cons_succ])
       go_cut [68] (fun v68 wc => ∃ (kq : Nat) (x68_62 : Bool), v68 = .bool x68_62 ∧ Aside0 (laws_FnExactCutKey.j1 kq a1 t623 x68_62 l0_0 t620 t629 = some r) ∧ Aside0 (kq ≤ kj13) ∧ Aside0 (Kd.R k71 71 wc w.heap.size (fun k_ => some k_ ≠ ((.slice Ao29 t625.length co29) : Value).ownBlock ∧ some k_ ≠ ((.slice Ao35 t629.length co35) : Value).ownBlock) (.slice Ao23 t620.length co23) t620) ∧ Aside0 (Kd.R k71 71 wc w.heap.size (fun k_ => some k_ ≠ ((.slice Ao23 t620.length co23) : Value).ownBlock ∧ some k_ ≠ ((.slice Ao35 t629.length co35) : Value).ownBlock) (.slice Ao29 t625.length co29) t640) ∧ Aside0 (Kd.R k71 71 wc w.heap.size (fun k_ => some k_ ≠ ((.slice Ao23 t620.length co23) : Value).ownBlock ∧ some k_ ≠ ((.slice Ao29 t625.length co29) : Value).ownBlock) (.slice Ao35 t629.length co35) t629) ∧ Aside0 (wc.heap[gb615]? = some (.cells #[(.slice A0_0 l0_0.length c0_0)] 24 (0, 0))) ∧ Aside0 (wc.heap[gb624]? = some (.cells #[(.slice Ao23 t620.length co23)] 29 (0, 0))) ∧ Aside0 (wc.heap[gb628]? = some (.cells #[(.slice Ao29 t625.length co29)] 29 (0, 0))) ∧ Aside0 (wc.heap[gb633]? = some (.cells #[(.slice Ao35 t629.length co35)] 29 (0, 0))) ∧ Aside0 (Below w.heap.size w wc))
       case first =>
        have H := HC63.out
        clear HC63
        by_cases c73 : t639 < 0
        ·
         rw [if_pos c73] at H
         have c73b0 : decide (t639 < 0) = true := decide_eq_true c73
         clear c73
         (first | rw [c73b0] | (simp only [i64_w, i32_w]; rw [c73b0]) | skip)
         have H' := Aside0.mk H
         clear H
         go_wp2
         go_meet
         case rel => exact ⟨_, (true), (by first | rfl | (simp; done) | (simp [*]; done)), H', ⟨by have := HJ13.out; first | omega | exact Nat.le_refl _⟩, ⟨by (with_reducible repeat (first | apply Kd.R_alloc | apply Kd.R_drewN | apply Kd.R_drew)); exact Kd.R_mono HO_625000.out (fun _ hk => ⟨hk.1, hk.2.1⟩)⟩, ⟨by (with_reducible repeat (first | apply Kd.R_alloc | apply Kd.R_drewN | apply Kd.R_drew)); exact Kd.R_mono HO_629000.out (fun _ hk => ⟨hk.1.1, hk.1.2⟩)⟩, ⟨by (with_reducible repeat (first | apply Kd.R_alloc | apply Kd.R_drewN | apply Kd.R_drew)); exact Kd.R_mono HO_634000.out (fun _ hk => ⟨hk.1, hk.2.1⟩)⟩, ⟨by (with_reducible repeat (first | refine blk_drewN ?_ _ | refine blk_drew ?_ | refine blk_alloc ?_ _)); exact BK615.out⟩, ⟨by (with_reducible repeat (first | refine blk_drewN ?_ _ | refine blk_drew ?_ | refine blk_alloc ?_ _)); exact BK624.out⟩, ⟨by (with_reducible repeat (first | refine blk_drewN ?_ _ | refine blk_drew ?_ | refine blk_alloc ?_ _)); exact BK628.out⟩, ⟨by (with_reducible repeat (first | refine blk_drewN ?_ _ | refine blk_drew ?_ | refine blk_alloc ?_ _)); exact BK633.out⟩, ⟨by repeat (first | (with_reducible first | exact HB.out | apply below_alloc | apply pw_below_drewN | apply below_drew1 | refine below_set ?_ GE615.out | refine below_set ?_ GE624.out | refine below_set ?_ GE628.out | refine below_set ?_ GE633.out) | exact HB.out)⟩⟩
        ·
         rw [if_neg c73] at H
         have c73b0 : decide (t639 < 0) = false := decide_eq_false c73
         clear c73
         (first | rw [c73b0] | (simp only [i64_w, i32_w]; rw [c73b0]) | skip)
         replace H := Option.bind_eq_some_iff.mp H
         obtain ⟨t641, A740, H⟩ := H
         replace H : (if t641 = true then (laws_FnExactCutKey.j1 kj13 a1 t623 (t632 != t623) l0_0 t620 t629) else (laws_FnExactCutKey.j1 kj13 a1 t623 true l0_0 t620 t629)) = some r := H
         have A74 := Aside0.mk A740
         clear A740
         by_cases c75 : t641 = true
         ·
          subst c75
          have H1 : (laws_FnExactCutKey.j1 kj13 a1 t623 (t632 != t623) l0_0 t620 t629) = some r := by rw [if_pos rfl] at H; exact H
          clear H
          have H := H1
          clear H1
          have H' := Aside0.mk H
          clear H
          have hnb76 := NB633_615.out
          have hnc76 := NB615_633.out
          have hnb77 := NB633_624.out
          have hnc77 := NB624_633.out
          have hnb78 := NB633_628.out
          have hnc78 := NB628_633.out
          have hcz79_0 : w72.cell? ⟨gb633, 0, none⟩ = some (.slice Ao35 t629.length co35) := (blk_cell BK633.out 0).trans rfl
          have hfz79_0 := blk_frozen BK633.out 0
          have hnb80 := NB624_615.out
          have hnc80 := NB615_624.out
          have hnb81 := NB624_628.out
          have hnc81 := NB628_624.out
          have hcz82_0 : w72.cell? ⟨gb624, 0, none⟩ = some (.slice Ao23 t620.length co23) := (blk_cell BK624.out 0).trans rfl
          have hfz82_0 := blk_frozen BK624.out 0
          go_wp2_with (first | (go_at_call 17; (try simp only [i64_w]); (with_reducible refine (laws_eqTreap.calls kj13 _ _ t629 _ _ t620 true _ ?side1 ?side2 ?side3 ?side4 A74.out).mono ?_); (case side1 => repeat (first | exact (Kd.R_reads' HO_634000.out).2.2 | (with_reducible refine Kd.C_alloc ?_ _) | (with_reducible refine Kd.C_drewN ?_ _) | (with_reducible refine Kd.C_drew ?_))); (case side2 => exact (Kd.R_reads' HO_634000.out).2.1); (case side3 => repeat (first | exact (Kd.R_reads' HO_625000.out).2.2 | (with_reducible refine Kd.C_alloc ?_ _) | (with_reducible refine Kd.C_drewN ?_ _) | (with_reducible refine Kd.C_drew ?_))); (case side4 => exact (Kd.R_reads' HO_625000.out).2.1); rintro e w83 ⟨rfl, hb⟩; have n0_ := Aside0.mk (Kd.R_below (by (with_reducible repeat (first | apply Kd.R_alloc | apply Kd.R_drewN | apply Kd.R_drew)); exact HO_625000.out) hb); have n1_ := Aside0.mk (Kd.R_below (by (with_reducible repeat (first | apply Kd.R_alloc | apply Kd.R_drewN | apply Kd.R_drew)); exact HO_629000.out) hb); have n2_ := Aside0.mk (Kd.R_below (by (with_reducible repeat (first | apply Kd.R_alloc | apply Kd.R_drewN | apply Kd.R_drew)); exact HO_634000.out) hb); have n3_ := Aside0.mk (Kd.R_below (by (with_reducible repeat (first | apply Kd.R_alloc | apply Kd.R_drewN | apply Kd.R_drew)); exact HO637.out) hb); have n4_ := Aside0.mk (blk_below (g := gb615) (o := .cells #[.slice A0_0 l0_0.length c0_0] 24 (0, 0)) (by (with_reducible repeat (first | refine blk_drewN ?_ _ | refine blk_drew ?_ | refine blk_alloc ?_ _)); exact BK615.out) hb); have n5_ := Aside0.mk (blk_below (g := gb624) (o := .cells #[.slice Ao23 t620.length co23] 29 (0, 0)) (by (with_reducible repeat (first | refine blk_drewN ?_ _ | refine blk_drew ?_ | refine blk_alloc ?_ _)); exact BK624.out) hb); have n6_ := Aside0.mk (blk_below (g := gb628) (o := .cells #[.slice Ao29 t625.length co29] 29 (0, 0)) (by (with_reducible repeat (first | refine blk_drewN ?_ _ | refine blk_drew ?_ | refine blk_alloc ?_ _)); exact BK628.out) hb); have n7_ := Aside0.mk (blk_below (g := gb633) (o := .cells #[.slice Ao35 t629.length co35] 29 (0, 0)) (by (with_reducible repeat (first | refine blk_drewN ?_ _ | refine blk_drew ?_ | refine blk_alloc ?_ _)); exact BK633.out) hb); have n8_ := Aside0.mk (below_step (by repeat (first | (with_reducible first | exact HB.out | apply below_alloc | apply pw_below_drewN | apply below_drew1 | refine below_set ?_ GE615.out | refine below_set ?_ GE624.out | refine below_set ?_ GE628.out | refine below_set ?_ GE633.out) | exact HB.out)) hb); clear HO_625000; clear HO_629000; clear HO_634000; clear HO637; clear BK615; clear BK624; clear BK628; clear BK633; clear HB; have HO_625000 := n0_; have HO_629000 := n1_; have HO_634000 := n2_; have HO637 := n3_; have BK615 := n4_; have BK624 := n5_; have BK628 := n6_; have BK633 := n7_; have HB := n8_; clear n0_ n1_ n2_ n3_ n4_ n5_ n6_ n7_ n8_; (try clear hb); (try clear hb2); (try clear hk); (try clear hi)))
          go_meet
          case rel => exact ⟨_, ((t632 != t623)), (by first | rfl | (simp; done) | (simp [*]; done)), H', ⟨by have := HJ13.out; first | omega | exact Nat.le_refl _⟩, ⟨by (with_reducible repeat (first | apply Kd.R_alloc | apply Kd.R_drewN | apply Kd.R_drew)); exact Kd.R_mono HO_625000.out (fun _ hk => ⟨hk.1, hk.2.1⟩)⟩, ⟨by (with_reducible repeat (first | apply Kd.R_alloc | apply Kd.R_drewN | apply Kd.R_drew)); exact Kd.R_mono HO_629000.out (fun _ hk => ⟨hk.1.1, hk.1.2⟩)⟩, ⟨by (with_reducible repeat (first | apply Kd.R_alloc | apply Kd.R_drewN | apply Kd.R_drew)); exact Kd.R_mono HO_634000.out (fun _ hk => ⟨hk.1, hk.2.1⟩)⟩, ⟨by (with_reducible repeat (first | refine blk_drewN ?_ _ | refine blk_drew ?_ | refine blk_alloc ?_ _)); exact BK615.out⟩, ⟨by (with_reducible repeat (first | refine blk_drewN ?_ _ | refine blk_drew ?_ | refine blk_alloc ?_ _)); exact BK624.out⟩, ⟨by (with_reducible repeat (first | refine blk_drewN ?_ _ | refine blk_drew ?_ | refine blk_alloc ?_ _)); exact BK628.out⟩, ⟨by (with_reducible repeat (first | refine blk_drewN ?_ _ | refine blk_drew ?_ | refine blk_alloc ?_ _)); exact BK633.out⟩, ⟨by repeat (first | (with_reducible first | exact HB.out | apply below_alloc | apply pw_below_drewN | apply below_drew1 | refine below_set ?_ GE615.out | refine below_set ?_ GE624.out | refine below_set ?_ GE628.out | refine below_set ?_ GE633.out) | exact HB.out)⟩⟩
         ·
          replace c75 := Bool.eq_false_iff.mpr c75
          subst c75
          have H1 : (laws_FnExactCutKey.j1 kj13 a1 t623 true l0_0 t620 t629) = some r := by rw [if_neg (show ¬ (false = true) by decide)] at H; exact H
          clear H
          have H := H1
          clear H1
          have H' := Aside0.mk H
          clear H
          have hnb84 := NB633_615.out
          have hnc84 := NB615_633.out
          have hnb85 := NB633_624.out
          have hnc85 := NB624_633.out
          have hnb86 := NB633_628.out
          have hnc86 := NB628_633.out
          have hcz87_0 : w72.cell? ⟨gb633, 0, none⟩ = some (.slice Ao35 t629.length co35) := (blk_cell BK633.out 0).trans rfl
          have hfz87_0 := blk_frozen BK633.out 0
          have hnb88 := NB624_615.out
          have hnc88 := NB615_624.out
          have hnb89 := NB624_628.out
          have hnc89 := NB628_624.out
          have hcz90_0 : w72.cell? ⟨gb624, 0, none⟩ = some (.slice Ao23 t620.length co23) := (blk_cell BK624.out 0).trans rfl
          have hfz90_0 := blk_frozen BK624.out 0
          go_wp2_with (first | (go_at_call 17; (try simp only [i64_w]); (with_reducible refine (laws_eqTreap.calls kj13 _ _ t629 _ _ t620 false _ ?side1 ?side2 ?side3 ?side4 A74.out).mono ?_); (case side1 => repeat (first | exact (Kd.R_reads' HO_634000.out).2.2 | (with_reducible refine Kd.C_alloc ?_ _) | (with_reducible refine Kd.C_drewN ?_ _) | (with_reducible refine Kd.C_drew ?_))); (case side2 => exact (Kd.R_reads' HO_634000.out).2.1); (case side3 => repeat (first | exact (Kd.R_reads' HO_625000.out).2.2 | (with_reducible refine Kd.C_alloc ?_ _) | (with_reducible refine Kd.C_drewN ?_ _) | (with_reducible refine Kd.C_drew ?_))); (case side4 => exact (Kd.R_reads' HO_625000.out).2.1); rintro e w91 ⟨rfl, hb⟩; have n0_ := Aside0.mk (Kd.R_below (by (with_reducible repeat (first | apply Kd.R_alloc | apply Kd.R_drewN | apply Kd.R_drew)); exact HO_625000.out) hb); have n1_ := Aside0.mk (Kd.R_below (by (with_reducible repeat (first | apply Kd.R_alloc | apply Kd.R_drewN | apply Kd.R_drew)); exact HO_629000.out) hb); have n2_ := Aside0.mk (Kd.R_below (by (with_reducible repeat (first | apply Kd.R_alloc | apply Kd.R_drewN | apply Kd.R_drew)); exact HO_634000.out) hb); have n3_ := Aside0.mk (Kd.R_below (by (with_reducible repeat (first | apply Kd.R_alloc | apply Kd.R_drewN | apply Kd.R_drew)); exact HO637.out) hb); have n4_ := Aside0.mk (blk_below (g := gb615) (o := .cells #[.slice A0_0 l0_0.length c0_0] 24 (0, 0)) (by (with_reducible repeat (first | refine blk_drewN ?_ _ | refine blk_drew ?_ | refine blk_alloc ?_ _)); exact BK615.out) hb); have n5_ := Aside0.mk (blk_below (g := gb624) (o := .cells #[.slice Ao23 t620.length co23] 29 (0, 0)) (by (with_reducible repeat (first | refine blk_drewN ?_ _ | refine blk_drew ?_ | refine blk_alloc ?_ _)); exact BK624.out) hb); have n6_ := Aside0.mk (blk_below (g := gb628) (o := .cells #[.slice Ao29 t625.length co29] 29 (0, 0)) (by (with_reducible repeat (first | refine blk_drewN ?_ _ | refine blk_drew ?_ | refine blk_alloc ?_ _)); exact BK628.out) hb); have n7_ := Aside0.mk (blk_below (g := gb633) (o := .cells #[.slice Ao35 t629.length co35] 29 (0, 0)) (by (with_reducible repeat (first | refine blk_drewN ?_ _ | refine blk_drew ?_ | refine blk_alloc ?_ _)); exact BK633.out) hb); have n8_ := Aside0.mk (below_step (by repeat (first | (with_reducible first | exact HB.out | apply below_alloc | apply pw_below_drewN | apply below_drew1 | refine below_set ?_ GE615.out | refine below_set ?_ GE624.out | refine below_set ?_ GE628.out | refine below_set ?_ GE633.out) | exact HB.out)) hb); clear HO_625000; clear HO_629000; clear HO_634000; clear HO637; clear BK615; clear BK624; clear BK628; clear BK633; clear HB; have HO_625000 := n0_; have HO_629000 := n1_; have HO_634000 := n2_; have HO637 := n3_; have BK615 := n4_; have BK624 := n5_; have BK628 := n6_; have BK633 := n7_; have HB := n8_; clear n0_ n1_ n2_ n3_ n4_ n5_ n6_ n7_ n8_; (try clear hb); (try clear hb2); (try clear hk); (try clear hi)))
          go_meet
          case rel => exact ⟨_, (true), (by first | rfl | (simp; done) | (simp [*]; done)), H', ⟨by have := HJ13.out; first | omega | exact Nat.le_refl _⟩, ⟨by (with_reducible repeat (first | apply Kd.R_alloc | apply Kd.R_drewN | apply Kd.R_drew)); exact Kd.R_mono HO_625000.out (fun _ hk => ⟨hk.1, hk.2.1⟩)⟩, ⟨by (with_reducible repeat (first | apply Kd.R_alloc | apply Kd.R_drewN | apply Kd.R_drew)); exact Kd.R_mono HO_629000.out (fun _ hk => ⟨hk.1.1, hk.1.2⟩)⟩, ⟨by (with_reducible repeat (first | apply Kd.R_alloc | apply Kd.R_drewN | apply Kd.R_drew)); exact Kd.R_mono HO_634000.out (fun _ hk => ⟨hk.1, hk.2.1⟩)⟩, ⟨by (with_reducible repeat (first | refine blk_drewN ?_ _ | refine blk_drew ?_ | refine blk_alloc ?_ _)); exact BK615.out⟩, ⟨by (with_reducible repeat (first | refine blk_drewN ?_ _ | refine blk_drew ?_ | refine blk_alloc ?_ _)); exact BK624.out⟩, ⟨by (with_reducible repeat (first | refine blk_drewN ?_ _ | refine blk_drew ?_ | refine blk_alloc ?_ _)); exact BK628.out⟩, ⟨by (with_reducible repeat (first | refine blk_drewN ?_ _ | refine blk_drew ?_ | refine blk_alloc ?_ _)); exact BK633.out⟩, ⟨by repeat (first | (with_reducible first | exact HB.out | apply below_alloc | apply pw_below_drewN | apply below_drew1 | refine below_set ?_ GE615.out | refine below_set ?_ GE624.out | refine below_set ?_ GE628.out | refine below_set ?_ GE633.out) | exact HB.out)⟩⟩
       case rest =>
        clear HC63
        try clear c1
        try clear c2
        try clear p2
        try clear c3
        try clear c3b0
        try clear c3b1
        try clear c4
        try clear c5
        try clear c6
        try clear c6b0
        try clear c7
        try clear c8
        try clear c9
        try clear c13
        try clear c15
        try clear c17
        try clear c24
        try clear c25
        try clear c30
        try clear c31
        try clear c33
        try clear c34
        try clear c36
        try clear c37
        try clear c38
        try clear c41
        try clear c42
        try clear c43
        try clear c44
        try clear c46
        try clear c47
        try clear c50
        try clear c51
        try clear c52
        try clear c54
        try clear c55
        try clear c58
        try clear c61
        try clear c68
        try clear c69
        try clear c70
        try clear c73
        try clear c73b0
        try clear c75
        try clear c76
        try clear c77
        try clear c78
        try clear c80
        try clear c81
        try clear c84
        try clear c85
        try clear c86
        try clear c88
        try clear c89
        try clear hcz16_0
        try clear hcz18_0
        try clear hcz25_0
        try clear hcz26_0
        try clear hcz32_0
        try clear hcz39_0
        try clear hcz45_0
        try clear hcz48_0
        try clear hcz53_0
        try clear hcz56_0
        try clear hcz71_0
        try clear hcz79_0
        try clear hcz82_0
        try clear hcz87_0
        try clear hcz8_0
        try clear hcz90_0
        try clear hfz16_0
        try clear hfz18_0
        try clear hfz25_0
        try clear hfz26_0
        try clear hfz32_0
        try clear hfz39_0
        try clear hfz45_0
        try clear hfz48_0
        try clear hfz53_0
        try clear hfz56_0
        try clear hfz71_0
        try clear hfz79_0
        try clear hfz82_0
        try clear hfz87_0
        try clear hfz8_0
        try clear hfz90_0
        try clear p2
        obtain ⟨kq, x68_62, rfl, HA, HJ62, HO_625000, HO_629000, HO_634000, BK615, BK624, BK628, BK633, HB⟩ := hcut
        have hl629000_62 := (Kd.R_reads' HO_629000.out).1
        rw [hl629000_62] at HO_629000
        (try simp only [hl629000_62])
        (try simp only [hl629000_62] at BK615)
        (try simp only [hl629000_62] at BK624)
        (try simp only [hl629000_62] at BK628)
        (try simp only [hl629000_62] at BK633)
        (try simp only [hl629000_62] at HO_625000)
        (try simp only [hl629000_62] at HO_634000)
        cases kq with
        | zero => exact absurd HA.out (by simp [laws_FnExactCutKey.j1])
        | succ kj62 =>
         have H := HA.out
         clear HA
         simp only [laws_FnExactCutKey.j1] at H
         by_cases c92 : x68_62 = true
         ·
          subst c92
          have H1 : (some false) = some r := by rw [if_pos rfl] at H; exact H
          clear H
          have H := H1
          clear H1
          obtain rfl := Option.some.inj H
          go_wp2
          go_ret
          exact ⟨by first | rfl | (simp [errW_none, errW_some] <;> rfl) | (simp [*, errW_none, errW_some] <;> rfl), by repeat (first | (with_reducible first | exact HB.out | apply below_alloc | apply pw_below_drewN | apply below_drew1 | refine below_set ?_ GE615.out | refine below_set ?_ GE624.out | refine below_set ?_ GE628.out | refine below_set ?_ GE633.out) | exact HB.out)⟩
         ·
          replace c92 := Bool.eq_false_iff.mpr c92
          subst c92
          have H1 : ((laws_markTreap.f kj62 t629 1).bind fun bt642 => ((laws_heldTreap.f kj62 bt642.2 1).bind fun t644 => (if t644 < 0 then (some false) else (if t644 = bt642.1 then ((laws_toTreap.f kj62 l0_0).bind fun t645 => ((impl_CutKey.f t645 a1).bind fun bt648 => ((laws_eqTreap.f kj62 bt648.1 t620).bind fun t653 => (if t653 = true then (laws_FnExactCutKey.j2 kj62 bt642.1 (bt648.2 != t623) bt642.2) else (laws_FnExactCutKey.j2 kj62 bt642.1 true bt642.2))))) else (some false))))) = some r := by rw [if_neg (show ¬ (false = true) by decide)] at H; exact H
          clear H
          have H := H1
          clear H1
          replace H := Option.bind_eq_some_iff.mp H
          obtain ⟨⟨t642, t643⟩, A930, H⟩ := H
          replace H : ((laws_heldTreap.f kj62 t643 1).bind fun t644 => (if t644 < 0 then (some false) else (if t644 = t642 then ((laws_toTreap.f kj62 l0_0).bind fun t645 => ((impl_CutKey.f t645 a1).bind fun bt648 => ((laws_eqTreap.f kj62 bt648.1 t620).bind fun t653 => (if t653 = true then (laws_FnExactCutKey.j2 kj62 t642 (bt648.2 != t623) t643) else (laws_FnExactCutKey.j2 kj62 t642 true t643))))) else (some false)))) = some r := H
          have A93 := Aside0.mk A930
          clear A930
          replace H := Option.bind_eq_some_iff.mp H
          obtain ⟨t644, A940, H⟩ := H
          replace H : (if t644 < 0 then (some false) else (if t644 = t642 then ((laws_toTreap.f kj62 l0_0).bind fun t645 => ((impl_CutKey.f t645 a1).bind fun bt648 => ((laws_eqTreap.f kj62 bt648.1 t620).bind fun t653 => (if t653 = true then (laws_FnExactCutKey.j2 kj62 t642 (bt648.2 != t623) t643) else (laws_FnExactCutKey.j2 kj62 t642 true t643))))) else (some false))) = some r := H
          have A94 := Aside0.mk A940
          clear A940
          by_cases c95 : t644 < 0
          ·
           rw [if_pos c95] at H
           have c95b0 : decide (t644 < 0) = true := decide_eq_true c95
           clear c95
           obtain rfl := Option.some.inj H
           have hnb96 := NB633_615.out
           have hnc96 := NB615_633.out
           have hnb97 := NB633_624.out
           have hnc97 := NB624_633.out
           have hnb98 := NB633_628.out
           have hnc98 := NB628_633.out
           have hcz99_0 : wc.cell? ⟨gb633, 0, none⟩ = some (.slice Ao35 t629.length co35) := (blk_cell BK633.out 0).trans rfl
           have hfz99_0 := blk_frozen BK633.out 0
           go_wp2_with (first | ((with_reducible refine gate_callee (f := 25) rfl ?_); refine goesL_ (some 71) rfl rfl Try.func25 (by kernel_rfl) rfl #[.agg #[.slice Ao35 t629.length co35], .int .i64 1] rfl (by (try simp only [List.map_toArray, List.map_cons, List.map_nil]); first | done | rfl | (simp only [List.length_drop, List.length_take]; rfl)) ?_; (with_reducible refine (laws_markTreap.calls kj62 (fun k_ => some k_ = (.slice Ao35 t629.length co35 : Value).ownBlock) (.slice Ao35 t629.length co35) t629 1 t642 t643 w _ ?side1 ?side2 A93.out).mono ?_); (case side1 => repeat (first | (with_reducible first | exact HB.out | apply below_alloc | apply pw_below_drewN | apply below_drew1 | refine below_set ?_ GE615.out | refine below_set ?_ GE624.out | refine below_set ?_ GE628.out | refine below_set ?_ GE633.out) | exact HB.out)); (case side2 => exact Kd.R_tight rfl HO_634000.out); rintro e w100 ⟨rfl, hy0, hb, hkp⟩; refine ⟨_, rfl, ?_⟩; have n0_ := Aside0.mk (Kd.R_mono (ok' := fun k_ => some k_ ≠ (.slice Ao29 t640.length co29 : Value).ownBlock ∧ some k_ ≠ (.slice Ao35 t629.length co35 : Value).ownBlock) (Kd.R_keptB (HO_625000.out) hkp (fun k_ hk_ hs_ => (hk_.2) hs_)) (fun k_ hk_ => ⟨hk_.1.1, hk_.1.2⟩)); have n1_ := Aside0.mk (Kd.R_mono (ok' := fun k_ => some k_ ≠ (.slice Ao23 t620.length co23 : Value).ownBlock ∧ some k_ ≠ (.slice Ao35 t629.length co35 : Value).ownBlock) (Kd.R_keptB (HO_629000.out) hkp (fun k_ hk_ hs_ => (hk_.2) hs_)) (fun k_ hk_ => ⟨hk_.1.1, hk_.1.2⟩)); have n2_ := Aside0.mk (Kd.R_reok rfl hy0 (fun k_ e_ => HO_634000.out.1 k_ e_)); have n3_ := Aside0.mk (blk_kept (by (with_reducible repeat (first | refine blk_drewN ?_ _ | refine blk_drew ?_ | refine blk_alloc ?_ _)); exact BK615.out) hkp (fun hs_ => (fun e_ => (Kd.R_ne HO_634000.out BK615.out (by decide)) e_) hs_)); have n4_ := Aside0.mk (blk_kept (by (with_reducible repeat (first | refine blk_drewN ?_ _ | refine blk_drew ?_ | refine blk_alloc ?_ _)); exact BK624.out) hkp (fun hs_ => (fun e_ => (Kd.R_ne HO_634000.out BK624.out (by decide)) e_) hs_)); have n5_ := Aside0.mk (blk_kept (by (with_reducible repeat (first | refine blk_drewN ?_ _ | refine blk_drew ?_ | refine blk_alloc ?_ _)); exact BK628.out) hkp (fun hs_ => (fun e_ => (Kd.R_ne HO_634000.out BK628.out (by decide)) e_) hs_)); have n6_ := Aside0.mk (blk_kept (by (with_reducible repeat (first | refine blk_drewN ?_ _ | refine blk_drew ?_ | refine blk_alloc ?_ _)); exact BK633.out) hkp (fun hs_ => (fun e_ => (Kd.R_ne HO_634000.out BK633.out (by decide)) e_) hs_)); have n7_ := Aside0.mk (hb); clear HO_625000; clear HO_629000; clear HO_634000; clear BK615; clear BK624; clear BK628; clear BK633; clear HB; have HO_625000 := n0_; have HO_629000 := n1_; have HO_634000 := n2_; have BK615 := n3_; have BK624 := n4_; have BK628 := n5_; have BK633 := n6_; have HB := n7_; clear n0_ n1_ n2_ n3_ n4_ n5_ n6_ n7_; (try clear hb); (try clear hkp); (try clear hy0); have hcz101_0 : w100.cell? ⟨gb633, 0, none⟩ = some (.slice Ao35 t629.length co35) := (blk_cell BK633.out 0).trans rfl; have hfz101_0 := blk_frozen BK633.out 0) | ((with_reducible refine gate_callee (f := 30) rfl ?_); refine goesL_ (some 74) rfl rfl Try.func30 (by kernel_rfl) rfl #[.agg #[.slice Ao35 t643.length co35], .int .i64 1] rfl (by (try simp only [List.map_toArray, List.map_cons, List.map_nil]); first | done | (rw [show t643.length = t629.length from (Kd.R_reads' HO_634000.out).1.symm] <;> rfl) | rfl | (simp only [List.length_drop, List.length_take]; rfl)) ?_; (with_reducible refine (laws_heldTreap.calls kj62 _ _ t643 1 t644 _ ?side1 ?side2 A94.out).mono ?_); (case side1 => repeat (first | exact (Kd.R_reads' HO_634000.out).2.2 | (with_reducible refine Kd.C_alloc ?_ _) | (with_reducible refine Kd.C_drewN ?_ _) | (with_reducible refine Kd.C_drew ?_))); (case side2 => rw [show t643.length = t629.length from (Kd.R_reads' HO_634000.out).1.symm]; exact (Kd.R_reads' HO_634000.out).2.1); rintro e w102 ⟨rfl, hb⟩; refine ⟨_, rfl, ?_⟩; have n0_ := Aside0.mk (Kd.R_below (by (with_reducible repeat (first | apply Kd.R_alloc | apply Kd.R_drewN | apply Kd.R_drew)); exact HO_625000.out) hb); have n1_ := Aside0.mk (Kd.R_below (by (with_reducible repeat (first | apply Kd.R_alloc | apply Kd.R_drewN | apply Kd.R_drew)); exact HO_629000.out) hb); have n2_ := Aside0.mk (Kd.R_below (by (with_reducible repeat (first | apply Kd.R_alloc | apply Kd.R_drewN | apply Kd.R_drew)); exact HO_634000.out) hb); have n3_ := Aside0.mk (blk_below (g := gb615) (o := .cells #[.slice A0_0 l0_0.length c0_0] 24 (0, 0)) (by (with_reducible repeat (first | refine blk_drewN ?_ _ | refine blk_drew ?_ | refine blk_alloc ?_ _)); exact BK615.out) hb); have n4_ := Aside0.mk (blk_below (g := gb624) (o := .cells #[.slice Ao23 t620.length co23] 29 (0, 0)) (by (with_reducible repeat (first | refine blk_drewN ?_ _ | refine blk_drew ?_ | refine blk_alloc ?_ _)); exact BK624.out) hb); have n5_ := Aside0.mk (blk_below (g := gb628) (o := .cells #[.slice Ao29 t640.length co29] 29 (0, 0)) (by (with_reducible repeat (first | refine blk_drewN ?_ _ | refine blk_drew ?_ | refine blk_alloc ?_ _)); exact BK628.out) hb); have n6_ := Aside0.mk (blk_below (g := gb633) (o := .cells #[.slice Ao35 t629.length co35] 29 (0, 0)) (by (with_reducible repeat (first | refine blk_drewN ?_ _ | refine blk_drew ?_ | refine blk_alloc ?_ _)); exact BK633.out) hb); have n7_ := Aside0.mk (below_step (by repeat (first | (with_reducible first | exact HB.out | apply below_alloc | apply pw_below_drewN | apply below_drew1 | refine below_set ?_ GE615.out | refine below_set ?_ GE624.out | refine below_set ?_ GE628.out | refine below_set ?_ GE633.out) | exact HB.out)) hb); clear HO_625000; clear HO_629000; clear HO_634000; clear BK615; clear BK624; clear BK628; clear BK633; clear HB; have HO_625000 := n0_; have HO_629000 := n1_; have HO_634000 := n2_; have BK615 := n3_; have BK624 := n4_; have BK628 := n5_; have BK633 := n6_; have HB := n7_; clear n0_ n1_ n2_ n3_ n4_ n5_ n6_ n7_; (try clear hb); (try clear hb2); (try clear hk); (try clear hi)))
           go_ret
           exact ⟨by first | rfl | (simp [errW_none, errW_some] <;> rfl) | (simp [*, errW_none, errW_some] <;> rfl), by repeat (first | (with_reducible first | exact HB.out | apply below_alloc | apply pw_below_drewN | apply below_drew1 | refine below_set ?_ GE615.out | refine below_set ?_ GE624.out | refine below_set ?_ GE628.out | refine below_set ?_ GE633.out) | exact HB.out)⟩
          ·
           rw [if_neg c95] at H
           have c95b0 : decide (t644 < 0) = false := decide_eq_false c95
           clear c95
           by_cases c103 : t644 = t642
           ·
            rw [if_pos c103] at H
            have c103b0 : (t644 == t642) = true := beq_iff_eq.mpr c103
            have c103b1 : (t644 != t642) = false := bne_eq_false_iff_eq.mpr c103
            clear c103
            replace H := Option.bind_eq_some_iff.mp H
            obtain ⟨t645, A1040, H⟩ := H
            replace H : ((impl_CutKey.f t645 a1).bind fun bt648 => ((laws_eqTreap.f kj62 bt648.1 t620).bind fun t653 => (if t653 = true then (laws_FnExactCutKey.j2 kj62 t642 (bt648.2 != t623) t643) else (laws_FnExactCutKey.j2 kj62 t642 true t643)))) = some r := H
            have A104 := Aside0.mk A1040
            clear A1040
            replace H := Option.bind_eq_some_iff.mp H
            obtain ⟨⟨t648, t651⟩, A1050, H⟩ := H
            replace H : ((laws_eqTreap.f kj62 t648 t620).bind fun t653 => (if t653 = true then (laws_FnExactCutKey.j2 kj62 t642 (t651 != t623) t643) else (laws_FnExactCutKey.j2 kj62 t642 true t643))) = some r := H
            have A105 := Aside0.mk A1050
            clear A1050
            have HC106 := Aside0.mk H
            clear H
            have hnb107 := NB633_615.out
            have hnc107 := NB615_633.out
            have hnb108 := NB633_624.out
            have hnc108 := NB624_633.out
            have hnb109 := NB633_628.out
            have hnc109 := NB628_633.out
            have hcz110_0 : wc.cell? ⟨gb633, 0, none⟩ = some (.slice Ao35 t629.length co35) := (blk_cell BK633.out 0).trans rfl
            have hfz110_0 := blk_frozen BK633.out 0
            go_upto_region 27 with (first | ((with_reducible refine gate_callee (f := 25) rfl ?_); refine goesL_ (some 71) rfl rfl Try.func25 (by kernel_rfl) rfl #[.agg #[.slice Ao35 t629.length co35], .int .i64 1] rfl (by (try simp only [List.map_toArray, List.map_cons, List.map_nil]); first | done | rfl | (simp only [List.length_drop, List.length_take]; rfl)) ?_; (with_reducible refine (laws_markTreap.calls kj62 (fun k_ => some k_ = (.slice Ao35 t629.length co35 : Value).ownBlock) (.slice Ao35 t629.length co35) t629 1 t642 t643 w _ ?side1 ?side2 A93.out).mono ?_); (case side1 => repeat (first | (with_reducible first | exact HB.out | apply below_alloc | apply pw_below_drewN | apply below_drew1 | refine below_set ?_ GE615.out | refine below_set ?_ GE624.out | refine below_set ?_ GE628.out | refine below_set ?_ GE633.out) | exact HB.out)); (case side2 => exact Kd.R_tight rfl HO_634000.out); rintro e w111 ⟨rfl, hy0, hb, hkp⟩; refine ⟨_, rfl, ?_⟩; have n0_ := Aside0.mk (Kd.R_mono (ok' := fun k_ => some k_ ≠ (.slice Ao29 t640.length co29 : Value).ownBlock ∧ some k_ ≠ (.slice Ao35 t629.length co35 : Value).ownBlock) (Kd.R_keptB (HO_625000.out) hkp (fun k_ hk_ hs_ => (hk_.2) hs_)) (fun k_ hk_ => ⟨hk_.1.1, hk_.1.2⟩)); have n1_ := Aside0.mk (Kd.R_mono (ok' := fun k_ => some k_ ≠ (.slice Ao23 t620.length co23 : Value).ownBlock ∧ some k_ ≠ (.slice Ao35 t629.length co35 : Value).ownBlock) (Kd.R_keptB (HO_629000.out) hkp (fun k_ hk_ hs_ => (hk_.2) hs_)) (fun k_ hk_ => ⟨hk_.1.1, hk_.1.2⟩)); have n2_ := Aside0.mk (Kd.R_reok rfl hy0 (fun k_ e_ => HO_634000.out.1 k_ e_)); have n3_ := Aside0.mk (blk_kept (by (with_reducible repeat (first | refine blk_drewN ?_ _ | refine blk_drew ?_ | refine blk_alloc ?_ _)); exact BK615.out) hkp (fun hs_ => (fun e_ => (Kd.R_ne HO_634000.out BK615.out (by decide)) e_) hs_)); have n4_ := Aside0.mk (blk_kept (by (with_reducible repeat (first | refine blk_drewN ?_ _ | refine blk_drew ?_ | refine blk_alloc ?_ _)); exact BK624.out) hkp (fun hs_ => (fun e_ => (Kd.R_ne HO_634000.out BK624.out (by decide)) e_) hs_)); have n5_ := Aside0.mk (blk_kept (by (with_reducible repeat (first | refine blk_drewN ?_ _ | refine blk_drew ?_ | refine blk_alloc ?_ _)); exact BK628.out) hkp (fun hs_ => (fun e_ => (Kd.R_ne HO_634000.out BK628.out (by decide)) e_) hs_)); have n6_ := Aside0.mk (blk_kept (by (with_reducible repeat (first | refine blk_drewN ?_ _ | refine blk_drew ?_ | refine blk_alloc ?_ _)); exact BK633.out) hkp (fun hs_ => (fun e_ => (Kd.R_ne HO_634000.out BK633.out (by decide)) e_) hs_)); have n7_ := Aside0.mk (hb); clear HO_625000; clear HO_629000; clear HO_634000; clear BK615; clear BK624; clear BK628; clear BK633; clear HB; have HO_625000 := n0_; have HO_629000 := n1_; have HO_634000 := n2_; have BK615 := n3_; have BK624 := n4_; have BK628 := n5_; have BK633 := n6_; have HB := n7_; clear n0_ n1_ n2_ n3_ n4_ n5_ n6_ n7_; (try clear hb); (try clear hkp); (try clear hy0); have hcz112_0 : w111.cell? ⟨gb633, 0, none⟩ = some (.slice Ao35 t629.length co35) := (blk_cell BK633.out 0).trans rfl; have hfz112_0 := blk_frozen BK633.out 0) | ((with_reducible refine gate_callee (f := 30) rfl ?_); refine goesL_ (some 74) rfl rfl Try.func30 (by kernel_rfl) rfl #[.agg #[.slice Ao35 t643.length co35], .int .i64 1] rfl (by (try simp only [List.map_toArray, List.map_cons, List.map_nil]); first | done | (rw [show t643.length = t629.length from (Kd.R_reads' HO_634000.out).1.symm] <;> rfl) | rfl | (simp only [List.length_drop, List.length_take]; rfl)) ?_; (with_reducible refine (laws_heldTreap.calls kj62 _ _ t643 1 t644 _ ?side1 ?side2 A94.out).mono ?_); (case side1 => repeat (first | exact (Kd.R_reads' HO_634000.out).2.2 | (with_reducible refine Kd.C_alloc ?_ _) | (with_reducible refine Kd.C_drewN ?_ _) | (with_reducible refine Kd.C_drew ?_))); (case side2 => rw [show t643.length = t629.length from (Kd.R_reads' HO_634000.out).1.symm]; exact (Kd.R_reads' HO_634000.out).2.1); rintro e w113 ⟨rfl, hb⟩; refine ⟨_, rfl, ?_⟩; have n0_ := Aside0.mk (Kd.R_below (by (with_reducible repeat (first | apply Kd.R_alloc | apply Kd.R_drewN | apply Kd.R_drew)); exact HO_625000.out) hb); have n1_ := Aside0.mk (Kd.R_below (by (with_reducible repeat (first | apply Kd.R_alloc | apply Kd.R_drewN | apply Kd.R_drew)); exact HO_629000.out) hb); have n2_ := Aside0.mk (Kd.R_below (by (with_reducible repeat (first | apply Kd.R_alloc | apply Kd.R_drewN | apply Kd.R_drew)); exact HO_634000.out) hb); have n3_ := Aside0.mk (blk_below (g := gb615) (o := .cells #[.slice A0_0 l0_0.length c0_0] 24 (0, 0)) (by (with_reducible repeat (first | refine blk_drewN ?_ _ | refine blk_drew ?_ | refine blk_alloc ?_ _)); exact BK615.out) hb); have n4_ := Aside0.mk (blk_below (g := gb624) (o := .cells #[.slice Ao23 t620.length co23] 29 (0, 0)) (by (with_reducible repeat (first | refine blk_drewN ?_ _ | refine blk_drew ?_ | refine blk_alloc ?_ _)); exact BK624.out) hb); have n5_ := Aside0.mk (blk_below (g := gb628) (o := .cells #[.slice Ao29 t640.length co29] 29 (0, 0)) (by (with_reducible repeat (first | refine blk_drewN ?_ _ | refine blk_drew ?_ | refine blk_alloc ?_ _)); exact BK628.out) hb); have n6_ := Aside0.mk (blk_below (g := gb633) (o := .cells #[.slice Ao35 t629.length co35] 29 (0, 0)) (by (with_reducible repeat (first | refine blk_drewN ?_ _ | refine blk_drew ?_ | refine blk_alloc ?_ _)); exact BK633.out) hb); have n7_ := Aside0.mk (below_step (by repeat (first | (with_reducible first | exact HB.out | apply below_alloc | apply pw_below_drewN | apply below_drew1 | refine below_set ?_ GE615.out | refine below_set ?_ GE624.out | refine below_set ?_ GE628.out | refine below_set ?_ GE633.out) | exact HB.out)) hb); clear HO_625000; clear HO_629000; clear HO_634000; clear BK615; clear BK624; clear BK628; clear BK633; clear HB; have HO_625000 := n0_; have HO_629000 := n1_; have HO_634000 := n2_; have BK615 := n3_; have BK624 := n4_; have BK628 := n5_; have BK633 := n6_; have HB := n7_; clear n0_ n1_ n2_ n3_ n4_ n5_ n6_ n7_; (try clear hb); (try clear hb2); (try clear hk); (try clear hi); have hnb114 := NB615_624.out; have hnc114 := NB624_615.out; have hnb115 := NB615_628.out; have hnc115 := NB628_615.out; have hcz116_0 : w113.cell? ⟨gb615, 0, none⟩ = some (.slice A0_0 l0_0.length c0_0) := (blk_cell BK615.out 0).trans rfl; have hfz116_0 := blk_frozen BK615.out 0) | ((with_reducible refine gate_callee (f := 15) rfl ?_); refine goesL_ (some 82) rfl rfl Try.func15 (by kernel_rfl) rfl #[.agg #[.slice A0_0 l0_0.length c0_0]] rfl (by (try simp only [List.map_toArray, List.map_cons, List.map_nil]); first | done | rfl | (simp only [List.length_drop, List.length_take]; rfl)) ?_; (with_reducible refine (laws_toTreap.calls kj62 _ _ l0_0 t645 _ ?side1 ?side2 A104.out).mono ?_); (case side1 => repeat (first | exact (Kd.C_below HR0_0.out HB.out) | (with_reducible refine Kd.C_alloc ?_ _) | (with_reducible refine Kd.C_drewN ?_ _) | (with_reducible refine Kd.C_drew ?_))); (case side2 => exact HC0_0.out); rintro e w117 ⟨v646, rfl, ho0, hb⟩; refine ⟨_, rfl, ?_⟩; have n0_ := Aside0.mk (Kd.R_elder' (by (with_reducible repeat (first | apply Kd.R_alloc | apply Kd.R_drewN | apply Kd.R_drew)); exact HO_625000.out) (Kd.R_base ho0) hb); have n1_ := Aside0.mk (Kd.R_elder' (by (with_reducible repeat (first | apply Kd.R_alloc | apply Kd.R_drewN | apply Kd.R_drew)); exact HO_629000.out) (Kd.R_base ho0) hb); have n2_ := Aside0.mk (Kd.R_elder' (by (with_reducible repeat (first | apply Kd.R_alloc | apply Kd.R_drewN | apply Kd.R_drew)); exact HO_634000.out) (Kd.R_base ho0) hb); have n3_ := Aside0.mk (Kd.R_lower (Kd.R_new' (Kd.R_new' (Kd.R_new' ho0 (Kd.R_lt (by (with_reducible repeat (first | apply Kd.R_alloc | apply Kd.R_drewN | apply Kd.R_drew)); exact HO_625000.out))) (Kd.R_lt (by (with_reducible repeat (first | apply Kd.R_alloc | apply Kd.R_drewN | apply Kd.R_drew)); exact HO_629000.out))) (Kd.R_lt (by (with_reducible repeat (first | apply Kd.R_alloc | apply Kd.R_drewN | apply Kd.R_drew)); exact HO_634000.out))) (below_size (by repeat (first | (with_reducible first | exact HB.out | apply below_alloc | apply pw_below_drewN | apply below_drew1 | refine below_set ?_ GE615.out | refine below_set ?_ GE624.out | refine below_set ?_ GE628.out | refine below_set ?_ GE633.out) | exact HB.out)))); have n4_ := Aside0.mk (blk_below (g := gb615) (o := .cells #[.slice A0_0 l0_0.length c0_0] 24 (0, 0)) (by (with_reducible repeat (first | refine blk_drewN ?_ _ | refine blk_drew ?_ | refine blk_alloc ?_ _)); exact BK615.out) hb); have n5_ := Aside0.mk (blk_below (g := gb624) (o := .cells #[.slice Ao23 t620.length co23] 29 (0, 0)) (by (with_reducible repeat (first | refine blk_drewN ?_ _ | refine blk_drew ?_ | refine blk_alloc ?_ _)); exact BK624.out) hb); have n6_ := Aside0.mk (blk_below (g := gb628) (o := .cells #[.slice Ao29 t640.length co29] 29 (0, 0)) (by (with_reducible repeat (first | refine blk_drewN ?_ _ | refine blk_drew ?_ | refine blk_alloc ?_ _)); exact BK628.out) hb); have n7_ := Aside0.mk (blk_below (g := gb633) (o := .cells #[.slice Ao35 t629.length co35] 29 (0, 0)) (by (with_reducible repeat (first | refine blk_drewN ?_ _ | refine blk_drew ?_ | refine blk_alloc ?_ _)); exact BK633.out) hb); have n8_ := Aside0.mk (below_step (by repeat (first | (with_reducible first | exact HB.out | apply below_alloc | apply pw_below_drewN | apply below_drew1 | refine below_set ?_ GE615.out | refine below_set ?_ GE624.out | refine below_set ?_ GE628.out | refine below_set ?_ GE633.out) | exact HB.out)) hb); clear HO_625000; clear HO_629000; clear HO_634000; clear BK615; clear BK624; clear BK628; clear BK633; clear HB; have HO_625000 := n0_; have HO_629000 := n1_; have HO_634000 := n2_; have HO647 := n3_; have BK615 := n4_; have BK624 := n5_; have BK628 := n6_; have BK633 := n7_; have HB := n8_; clear n0_ n1_ n2_ n3_ n4_ n5_ n6_ n7_ n8_; (try clear hb); (try clear hb2); (try clear hk); (try clear hi); (try clear ho0); obtain ⟨Ao118, co118, eo118⟩ := Kd.R_slice HO647.out; subst eo118) | ((with_reducible refine gate_callee (f := 34) rfl ?_); refine goesL_ (some 84) rfl rfl Try.func34 (by kernel_rfl) rfl #[.agg #[.slice Ao118 t645.length co118], .string a1] rfl (by (try simp only [List.map_toArray, List.map_cons, List.map_nil]); first | done | rfl | (simp only [List.length_drop, List.length_take]; rfl)) ?_; (with_reducible refine (impl_CutKey.calls _ _ t645 a1 t648 t651 _ ?side1 ?side2 A105.out).mono ?_); (case side1 => repeat (first | exact (Kd.R_reads' HO647.out).2.2 | (with_reducible refine Kd.C_alloc ?_ _) | (with_reducible refine Kd.C_drewN ?_ _) | (with_reducible refine Kd.C_drew ?_))); (case side2 => exact (Kd.R_reads' HO647.out).2.1); rintro e w119 ⟨v649, rfl, ho0, hb⟩; refine ⟨_, rfl, ?_⟩; have n0_ := Aside0.mk (Kd.R_elder' (by (with_reducible repeat (first | apply Kd.R_alloc | apply Kd.R_drewN | apply Kd.R_drew)); exact HO_625000.out) (Kd.R_base ho0) hb); have n1_ := Aside0.mk (Kd.R_elder' (by (with_reducible repeat (first | apply Kd.R_alloc | apply Kd.R_drewN | apply Kd.R_drew)); exact HO_629000.out) (Kd.R_base ho0) hb); have n2_ := Aside0.mk (Kd.R_elder' (by (with_reducible repeat (first | apply Kd.R_alloc | apply Kd.R_drewN | apply Kd.R_drew)); exact HO_634000.out) (Kd.R_base ho0) hb); have n3_ := Aside0.mk (Kd.R_elder' (by (with_reducible repeat (first | apply Kd.R_alloc | apply Kd.R_drewN | apply Kd.R_drew)); exact HO647.out) (Kd.R_base ho0) hb); have n4_ := Aside0.mk (Kd.R_lower (Kd.R_new' (Kd.R_new' (Kd.R_new' (Kd.R_new' ho0 (Kd.R_lt (by (with_reducible repeat (first | apply Kd.R_alloc | apply Kd.R_drewN | apply Kd.R_drew)); exact HO_625000.out))) (Kd.R_lt (by (with_reducible repeat (first | apply Kd.R_alloc | apply Kd.R_drewN | apply Kd.R_drew)); exact HO_629000.out))) (Kd.R_lt (by (with_reducible repeat (first | apply Kd.R_alloc | apply Kd.R_drewN | apply Kd.R_drew)); exact HO_634000.out))) (Kd.R_lt (by (with_reducible repeat (first | apply Kd.R_alloc | apply Kd.R_drewN | apply Kd.R_drew)); exact HO647.out))) (below_size (by repeat (first | (with_reducible first | exact HB.out | apply below_alloc | apply pw_below_drewN | apply below_drew1 | refine below_set ?_ GE615.out | refine below_set ?_ GE624.out | refine below_set ?_ GE628.out | refine below_set ?_ GE633.out) | exact HB.out)))); have n5_ := Aside0.mk (blk_below (g := gb615) (o := .cells #[.slice A0_0 l0_0.length c0_0] 24 (0, 0)) (by (with_reducible repeat (first | refine blk_drewN ?_ _ | refine blk_drew ?_ | refine blk_alloc ?_ _)); exact BK615.out) hb); have n6_ := Aside0.mk (blk_below (g := gb624) (o := .cells #[.slice Ao23 t620.length co23] 29 (0, 0)) (by (with_reducible repeat (first | refine blk_drewN ?_ _ | refine blk_drew ?_ | refine blk_alloc ?_ _)); exact BK624.out) hb); have n7_ := Aside0.mk (blk_below (g := gb628) (o := .cells #[.slice Ao29 t640.length co29] 29 (0, 0)) (by (with_reducible repeat (first | refine blk_drewN ?_ _ | refine blk_drew ?_ | refine blk_alloc ?_ _)); exact BK628.out) hb); have n8_ := Aside0.mk (blk_below (g := gb633) (o := .cells #[.slice Ao35 t629.length co35] 29 (0, 0)) (by (with_reducible repeat (first | refine blk_drewN ?_ _ | refine blk_drew ?_ | refine blk_alloc ?_ _)); exact BK633.out) hb); have n9_ := Aside0.mk (below_step (by repeat (first | (with_reducible first | exact HB.out | apply below_alloc | apply pw_below_drewN | apply below_drew1 | refine below_set ?_ GE615.out | refine below_set ?_ GE624.out | refine below_set ?_ GE628.out | refine below_set ?_ GE633.out) | exact HB.out)) hb); clear HO_625000; clear HO_629000; clear HO_634000; clear HO647; clear BK615; clear BK624; clear BK628; clear BK633; clear HB; have HO_625000 := n0_; have HO_629000 := n1_; have HO_634000 := n2_; have HO647 := n3_; have HO650 := n4_; have BK615 := n5_; have BK624 := n6_; have BK628 := n7_; have BK633 := n8_; have HB := n9_; clear n0_ n1_ n2_ n3_ n4_ n5_ n6_ n7_ n8_ n9_; (try clear hb); (try clear hb2); (try clear hk); (try clear hi); (try clear ho0)) | ((with_reducible refine gate_dst (N := 14) rfl ?_); refine box_event ?hg (N := 14) ?hd (cs := #[.slice none 0 0]) (t := 29) ?hr ?_; (case hd => rfl); (case hg => rfl); (case hr => first | (go_simp; done) | (go_simp; rfl)); intro gb652 hg w120 hbox hb; have n0_ := Aside0.mk (Kd.R_below (by (with_reducible repeat (first | apply Kd.R_alloc | apply Kd.R_drewN | apply Kd.R_drew)); exact HO_625000.out) hb); have n1_ := Aside0.mk (Kd.R_below (by (with_reducible repeat (first | apply Kd.R_alloc | apply Kd.R_drewN | apply Kd.R_drew)); exact HO_629000.out) hb); have n2_ := Aside0.mk (Kd.R_below (by (with_reducible repeat (first | apply Kd.R_alloc | apply Kd.R_drewN | apply Kd.R_drew)); exact HO_634000.out) hb); have n3_ := Aside0.mk (Kd.R_below (by (with_reducible repeat (first | apply Kd.R_alloc | apply Kd.R_drewN | apply Kd.R_drew)); exact HO647.out) hb); have n4_ := Aside0.mk (Kd.R_below (by (with_reducible repeat (first | apply Kd.R_alloc | apply Kd.R_drewN | apply Kd.R_drew)); exact HO650.out) hb); have n5_ := Aside0.mk (blk_below (g := gb615) (o := .cells #[.slice A0_0 l0_0.length c0_0] 24 (0, 0)) (by (with_reducible repeat (first | refine blk_drewN ?_ _ | refine blk_drew ?_ | refine blk_alloc ?_ _)); exact BK615.out) hb); have n6_ := Aside0.mk (blk_below (g := gb624) (o := .cells #[.slice Ao23 t620.length co23] 29 (0, 0)) (by (with_reducible repeat (first | refine blk_drewN ?_ _ | refine blk_drew ?_ | refine blk_alloc ?_ _)); exact BK624.out) hb); have n7_ := Aside0.mk (blk_below (g := gb628) (o := .cells #[.slice Ao29 t640.length co29] 29 (0, 0)) (by (with_reducible repeat (first | refine blk_drewN ?_ _ | refine blk_drew ?_ | refine blk_alloc ?_ _)); exact BK628.out) hb); have n8_ := Aside0.mk (blk_below (g := gb633) (o := .cells #[.slice Ao35 t629.length co35] 29 (0, 0)) (by (with_reducible repeat (first | refine blk_drewN ?_ _ | refine blk_drew ?_ | refine blk_alloc ?_ _)); exact BK633.out) hb); have n9_ := Aside0.mk (below_step (by repeat (first | (with_reducible first | exact HB.out | apply below_alloc | apply pw_below_drewN | apply below_drew1 | refine below_set ?_ GE615.out | refine below_set ?_ GE624.out | refine below_set ?_ GE628.out | refine below_set ?_ GE633.out) | exact HB.out)) hb); have n10_ := Aside0.mk (hbox); have n11_ := Aside0.mk ((by rw [hg]; exact (below_size (by repeat (first | (with_reducible first | exact HB.out | apply below_alloc | apply pw_below_drewN | apply below_drew1 | refine below_set ?_ GE615.out | refine below_set ?_ GE624.out | refine below_set ?_ GE628.out | refine below_set ?_ GE633.out) | exact HB.out))) : w.heap.size ≤ gb652)); have n12_ := Aside0.mk ((by rw [hg]; exact (below_size (by repeat (first | (with_reducible first | exact HB.out | apply below_alloc | apply pw_below_drewN | apply below_drew1 | refine below_set ?_ GE615.out | refine below_set ?_ GE624.out | refine below_set ?_ GE628.out | refine below_set ?_ GE633.out) | exact HB.out))) : w.heap.size ≤ gb652)); have n13_ := Aside0.mk ((by rw [hg]; exact Nat.ne_of_lt (blk_lt (g := gb615) (o := .cells #[.slice A0_0 l0_0.length c0_0] 24 (0, 0)) (by (with_reducible repeat (first | refine blk_drewN ?_ _ | refine blk_drew ?_ | refine blk_alloc ?_ _)); exact BK615.out)) : gb615 ≠ gb652)); have n14_ := Aside0.mk ((by rw [hg]; exact Nat.ne_of_gt (blk_lt (g := gb615) (o := .cells #[.slice A0_0 l0_0.length c0_0] 24 (0, 0)) (by (with_reducible repeat (first | refine blk_drewN ?_ _ | refine blk_drew ?_ | refine blk_alloc ?_ _)); exact BK615.out)) : gb652 ≠ gb615)); have n15_ := Aside0.mk ((by rw [hg]; exact Nat.ne_of_lt (blk_lt (g := gb624) (o := .cells #[.slice Ao23 t620.length co23] 29 (0, 0)) (by (with_reducible repeat (first | refine blk_drewN ?_ _ | refine blk_drew ?_ | refine blk_alloc ?_ _)); exact BK624.out)) : gb624 ≠ gb652)); have n16_ := Aside0.mk ((by rw [hg]; exact Nat.ne_of_gt (blk_lt (g := gb624) (o := .cells #[.slice Ao23 t620.length co23] 29 (0, 0)) (by (with_reducible repeat (first | refine blk_drewN ?_ _ | refine blk_drew ?_ | refine blk_alloc ?_ _)); exact BK624.out)) : gb652 ≠ gb624)); have n17_ := Aside0.mk ((by rw [hg]; exact Nat.ne_of_lt (blk_lt (g := gb628) (o := .cells #[.slice Ao29 t640.length co29] 29 (0, 0)) (by (with_reducible repeat (first | refine blk_drewN ?_ _ | refine blk_drew ?_ | refine blk_alloc ?_ _)); exact BK628.out)) : gb628 ≠ gb652)); have n18_ := Aside0.mk ((by rw [hg]; exact Nat.ne_of_gt (blk_lt (g := gb628) (o := .cells #[.slice Ao29 t640.length co29] 29 (0, 0)) (by (with_reducible repeat (first | refine blk_drewN ?_ _ | refine blk_drew ?_ | refine blk_alloc ?_ _)); exact BK628.out)) : gb652 ≠ gb628)); have n19_ := Aside0.mk ((by rw [hg]; exact Nat.ne_of_lt (blk_lt (g := gb633) (o := .cells #[.slice Ao35 t629.length co35] 29 (0, 0)) (by (with_reducible repeat (first | refine blk_drewN ?_ _ | refine blk_drew ?_ | refine blk_alloc ?_ _)); exact BK633.out)) : gb633 ≠ gb652)); have n20_ := Aside0.mk ((by rw [hg]; exact Nat.ne_of_gt (blk_lt (g := gb633) (o := .cells #[.slice Ao35 t629.length co35] 29 (0, 0)) (by (with_reducible repeat (first | refine blk_drewN ?_ _ | refine blk_drew ?_ | refine blk_alloc ?_ _)); exact BK633.out)) : gb652 ≠ gb633)); clear HO_625000; clear HO_629000; clear HO_634000; clear HO647; clear HO650; clear BK615; clear BK624; clear BK628; clear BK633; clear HB; have HO_625000 := n0_; have HO_629000 := n1_; have HO_634000 := n2_; have HO647 := n3_; have HO650 := n4_; have BK615 := n5_; have BK624 := n6_; have BK628 := n7_; have BK633 := n8_; have HB := n9_; have BK652 := n10_; have GW652 := n11_; have GE652 := n12_; have NB615_652 := n13_; have NB652_615 := n14_; have NB624_652 := n15_; have NB652_624 := n16_; have NB628_652 := n17_; have NB652_628 := n18_; have NB633_652 := n19_; have NB652_633 := n20_; clear n0_ n1_ n2_ n3_ n4_ n5_ n6_ n7_ n8_ n9_ n10_ n11_ n12_ n13_ n14_ n15_ n16_ n17_ n18_ n19_ n20_; clear hb hbox hg; obtain ⟨Ao121, co121, eo121⟩ := Kd.R_slice HO650.out; subst eo121; have hnb122 := NB652_615.out; have hnc122 := NB615_652.out; have hnb123 := NB652_624.out; have hnc123 := NB624_652.out; have hnb124 := NB652_628.out; have hnc124 := NB628_652.out; have hnb125 := NB652_633.out; have hnc125 := NB633_652.out; have hcz126_0 : w120.cell? ⟨gb652, 0, none⟩ = some (.slice none 0 0) := (blk_cell BK652.out 0).trans rfl; have hfz126_0 := blk_frozen BK652.out 0))
            (try simp only [Act.put, List.setIfInBounds_toArray, List.set_cons_zero, List.set_cons_succ])
            go_cut [95] (fun v95 wc => ∃ (kq : Nat) (x95_105 : Bool), v95 = .bool x95_105 ∧ Aside0 (laws_FnExactCutKey.j2 kq t642 x95_105 t643 = some r) ∧ Aside0 (kq ≤ kj62) ∧ Aside0 (Kd.R k71 71 wc w.heap.size (fun k_ => some k_ ≠ ((.slice Ao29 t640.length co29) : Value).ownBlock ∧ some k_ ≠ ((.slice Ao35 t629.length co35) : Value).ownBlock ∧ some k_ ≠ ((.slice Ao121 t648.length co121) : Value).ownBlock) (.slice Ao23 t620.length co23) t620) ∧ Aside0 (Kd.R k71 71 wc w.heap.size (fun k_ => some k_ ≠ ((.slice Ao23 t620.length co23) : Value).ownBlock ∧ some k_ ≠ ((.slice Ao35 t629.length co35) : Value).ownBlock ∧ some k_ ≠ ((.slice Ao121 t648.length co121) : Value).ownBlock) (.slice Ao29 t640.length co29) t640) ∧ Aside0 (Kd.R k71 71 wc w.heap.size (fun k_ => some k_ ≠ ((.slice Ao23 t620.length co23) : Value).ownBlock ∧ some k_ ≠ ((.slice Ao29 t640.length co29) : Value).ownBlock ∧ some k_ ≠ ((.slice Ao121 t648.length co121) : Value).ownBlock) (.slice Ao35 t629.length co35) t643) ∧ Aside0 (Kd.R k71 71 wc w.heap.size (fun k_ => some k_ ≠ ((.slice Ao23 t620.length co23) : Value).ownBlock ∧ some k_ ≠ ((.slice Ao29 t640.length co29) : Value).ownBlock ∧ some k_ ≠ ((.slice Ao35 t629.length co35) : Value).ownBlock) (.slice Ao121 t648.length co121) t648) ∧ Aside0 (wc.heap[gb615]? = some (.cells #[(.slice A0_0 l0_0.length c0_0)] 24 (0, 0))) ∧ Aside0 (wc.heap[gb624]? = some (.cells #[(.slice Ao23 t620.length co23)] 29 (0, 0))) ∧ Aside0 (wc.heap[gb628]? = some (.cells #[(.slice Ao29 t640.length co29)] 29 (0, 0))) ∧ Aside0 (wc.heap[gb633]? = some (.cells #[(.slice Ao35 t629.length co35)] 29 (0, 0))) ∧ Aside0 (wc.heap[gb652]? = some (.cells #[(.slice Ao121 t648.length co121)] 29 (0, 0))) ∧ Aside0 (Below w.heap.size w wc))
            case first =>
             have H := HC106.out
             clear HC106
             replace H := Option.bind_eq_some_iff.mp H
             obtain ⟨t653, A1270, H⟩ := H
             replace H : (if t653 = true then (laws_FnExactCutKey.j2 kj62 t642 (t651 != t623) t643) else (laws_FnExactCutKey.j2 kj62 t642 true t643)) = some r := H
             have A127 := Aside0.mk A1270
             clear A1270
             by_cases c128 : t653 = true
             ·
              subst c128
              have H1 : (laws_FnExactCutKey.j2 kj62 t642 (t651 != t623) t643) = some r := by rw [if_pos rfl] at H; exact H
              clear H
              have H := H1
              clear H1
              have H' := Aside0.mk H
              clear H
              have hnb129 := NB652_615.out
              have hnc129 := NB615_652.out
              have hnb130 := NB652_624.out
              have hnc130 := NB624_652.out
              have hnb131 := NB652_628.out
              have hnc131 := NB628_652.out
              have hnb132 := NB652_633.out
              have hnc132 := NB633_652.out
              have hcz133_0 : w120.cell? ⟨gb652, 0, none⟩ = some (.slice none 0 0) := (blk_cell BK652.out 0).trans rfl
              have hfz133_0 := blk_frozen BK652.out 0
              have hnb134 := NB624_615.out
              have hnc134 := NB615_624.out
              have hnb135 := NB624_628.out
              have hnc135 := NB628_624.out
              have hnb136 := NB624_633.out
              have hnc136 := NB633_624.out
              have hcz137_0 : w120.cell? ⟨gb624, 0, none⟩ = some (.slice Ao23 t620.length co23) := (blk_cell BK624.out 0).trans rfl
              have hfz137_0 := blk_frozen BK624.out 0
              go_wp2_with (first | ((with_reducible refine gate_callee (f := 17) rfl ?_); refine goesL_ (some 89) rfl rfl Try.func17 (by kernel_rfl) rfl #[.agg #[.slice Ao121 t648.length co121], .agg #[.slice Ao23 t620.length co23]] rfl (by (try simp only [List.map_toArray, List.map_cons, List.map_nil]); first | done | rfl | (simp only [List.length_drop, List.length_take]; rfl)) ?_; (with_reducible refine (laws_eqTreap.calls kj62 _ _ t648 _ _ t620 true _ ?side1 ?side2 ?side3 ?side4 A127.out).mono ?_); (case side1 => refine (Kd.R_reads' (e := 71) (base := w.heap.size) (ok := fun k_ => ((((True ∧ some k_ ≠ (.slice Ao23 t620.length co23 : Value).ownBlock) ∧ some k_ ≠ (.slice Ao29 t640.length co29 : Value).ownBlock) ∧ some k_ ≠ (.slice Ao35 t629.length co35 : Value).ownBlock) ∧ some k_ ≠ (.slice Ao118 t645.length co118 : Value).ownBlock)) (n := t648.length) (c := co121) ?_).2.2; exact (by (with_reducible repeat (first | apply Kd.R_alloc | apply Kd.R_drewN | apply Kd.R_drew)); exact (Kd.R_mono (Kd.R_far (p := ⟨gb652, 0, none⟩) (Kd.R_types HO650.out BK652.out (by decide)) (fun _ hk => hk.2) (.slice Ao121 t648.length co121)) (fun _ h_ => h_.1)))); (case side2 => exact (Kd.R_reads' HO650.out).2.1); (case side3 => refine (Kd.R_reads' (e := 71) (base := w.heap.size) (ok := fun k_ => (((some k_ ≠ (.slice Ao29 t640.length co29 : Value).ownBlock ∧ some k_ ≠ (.slice Ao35 t629.length co35 : Value).ownBlock) ∧ some k_ ≠ (.slice Ao118 t645.length co118 : Value).ownBlock) ∧ some k_ ≠ (.slice Ao121 t648.length co121 : Value).ownBlock)) (n := t620.length) (c := co23) ?_).2.2; exact (by (with_reducible repeat (first | apply Kd.R_alloc | apply Kd.R_drewN | apply Kd.R_drew)); exact (Kd.R_mono (Kd.R_far (p := ⟨gb652, 0, none⟩) (Kd.R_types HO_625000.out BK652.out (by decide)) (fun _ hk => hk.2) (.slice Ao121 t648.length co121)) (fun _ h_ => h_.1)))); (case side4 => exact (Kd.R_reads' HO_625000.out).2.1); rintro e w138 ⟨rfl, hb⟩; refine ⟨_, rfl, ?_⟩; have n0_ := Aside0.mk (Kd.R_below (by (with_reducible repeat (first | apply Kd.R_alloc | apply Kd.R_drewN | apply Kd.R_drew)); exact (Kd.R_mono (Kd.R_far (p := ⟨gb652, 0, none⟩) (Kd.R_types HO_625000.out BK652.out (by decide)) (fun _ hk => hk.2) (.slice Ao121 t648.length co121)) (fun _ h_ => h_.1))) hb); have n1_ := Aside0.mk (Kd.R_below (by (with_reducible repeat (first | apply Kd.R_alloc | apply Kd.R_drewN | apply Kd.R_drew)); exact (Kd.R_mono (Kd.R_far (p := ⟨gb652, 0, none⟩) (Kd.R_types HO_629000.out BK652.out (by decide)) (fun _ hk => hk.2) (.slice Ao121 t648.length co121)) (fun _ h_ => h_.1))) hb); have n2_ := Aside0.mk (Kd.R_below (by (with_reducible repeat (first | apply Kd.R_alloc | apply Kd.R_drewN | apply Kd.R_drew)); exact (Kd.R_mono (Kd.R_far (p := ⟨gb652, 0, none⟩) (Kd.R_types HO_634000.out BK652.out (by decide)) (fun _ hk => hk.2) (.slice Ao121 t648.length co121)) (fun _ h_ => h_.1))) hb); have n3_ := Aside0.mk (Kd.R_below (by (with_reducible repeat (first | apply Kd.R_alloc | apply Kd.R_drewN | apply Kd.R_drew)); exact (Kd.R_mono (Kd.R_far (p := ⟨gb652, 0, none⟩) (Kd.R_types HO647.out BK652.out (by decide)) (fun _ hk => hk.2) (.slice Ao121 t648.length co121)) (fun _ h_ => h_.1))) hb); have n4_ := Aside0.mk (Kd.R_below (by (with_reducible repeat (first | apply Kd.R_alloc | apply Kd.R_drewN | apply Kd.R_drew)); exact (Kd.R_mono (Kd.R_far (p := ⟨gb652, 0, none⟩) (Kd.R_types HO650.out BK652.out (by decide)) (fun _ hk => hk.2) (.slice Ao121 t648.length co121)) (fun _ h_ => h_.1))) hb); have n5_ := Aside0.mk (blk_below (g := gb615) (o := .cells #[.slice A0_0 l0_0.length c0_0] 24 (0, 0)) (by (with_reducible repeat (first | refine blk_drewN ?_ _ | refine blk_drew ?_ | refine blk_alloc ?_ _)); refine blk_far ?_ NB615_652.out _; (with_reducible repeat (first | refine blk_drewN ?_ _ | refine blk_drew ?_ | refine blk_alloc ?_ _)); exact BK615.out) hb); have n6_ := Aside0.mk (blk_below (g := gb624) (o := .cells #[.slice Ao23 t620.length co23] 29 (0, 0)) (by (with_reducible repeat (first | refine blk_drewN ?_ _ | refine blk_drew ?_ | refine blk_alloc ?_ _)); refine blk_far ?_ NB624_652.out _; (with_reducible repeat (first | refine blk_drewN ?_ _ | refine blk_drew ?_ | refine blk_alloc ?_ _)); exact BK624.out) hb); have n7_ := Aside0.mk (blk_below (g := gb628) (o := .cells #[.slice Ao29 t640.length co29] 29 (0, 0)) (by (with_reducible repeat (first | refine blk_drewN ?_ _ | refine blk_drew ?_ | refine blk_alloc ?_ _)); refine blk_far ?_ NB628_652.out _; (with_reducible repeat (first | refine blk_drewN ?_ _ | refine blk_drew ?_ | refine blk_alloc ?_ _)); exact BK628.out) hb); have n8_ := Aside0.mk (blk_below (g := gb633) (o := .cells #[.slice Ao35 t629.length co35] 29 (0, 0)) (by (with_reducible repeat (first | refine blk_drewN ?_ _ | refine blk_drew ?_ | refine blk_alloc ?_ _)); refine blk_far ?_ NB633_652.out _; (with_reducible repeat (first | refine blk_drewN ?_ _ | refine blk_drew ?_ | refine blk_alloc ?_ _)); exact BK633.out) hb); have n9_ := Aside0.mk (blk_below (g := gb652) (o := .cells #[.slice Ao121 t648.length co121] 29 (0, 0)) (by (with_reducible repeat (first | refine blk_drewN ?_ _ | refine blk_drew ?_ | refine blk_alloc ?_ _)); refine blk_put (cs := #[.slice none 0 0]) ?_ 0 _ rfl; (with_reducible repeat (first | refine blk_drewN ?_ _ | refine blk_drew ?_ | refine blk_alloc ?_ _)); exact BK652.out) hb); have n10_ := Aside0.mk (below_step (by repeat (first | (with_reducible first | exact HB.out | apply below_alloc | apply pw_below_drewN | apply below_drew1 | refine below_set ?_ GE615.out | refine below_set ?_ GE624.out | refine below_set ?_ GE628.out | refine below_set ?_ GE633.out | refine below_set ?_ GE652.out) | exact HB.out)) hb); clear HO_625000; clear HO_629000; clear HO_634000; clear HO647; clear HO650; clear BK615; clear BK624; clear BK628; clear BK633; clear BK652; clear HB; have HO_625000 := n0_; have HO_629000 := n1_; have HO_634000 := n2_; have HO647 := n3_; have HO650 := n4_; have BK615 := n5_; have BK624 := n6_; have BK628 := n7_; have BK633 := n8_; have BK652 := n9_; have HB := n10_; clear n0_ n1_ n2_ n3_ n4_ n5_ n6_ n7_ n8_ n9_ n10_; (try clear hb); (try clear hb2); (try clear hk); (try clear hi)))
              go_meet
              case rel => exact ⟨_, ((t651 != t623)), (by first | rfl | (simp; done) | (simp [*]; done)), H', ⟨by have := HJ13.out; have := HJ62.out; first | omega | exact Nat.le_refl _⟩, ⟨by (try simp only [hl629000_62]); (with_reducible repeat (first | apply Kd.R_alloc | apply Kd.R_drewN | apply Kd.R_drew)); exact Kd.R_mono HO_625000.out (fun _ hk => ⟨hk.1.1.1, ⟨hk.1.1.2, hk.2⟩⟩)⟩, ⟨by (try simp only [hl629000_62]); (with_reducible repeat (first | apply Kd.R_alloc | apply Kd.R_drewN | apply Kd.R_drew)); exact Kd.R_mono HO_629000.out (fun _ hk => ⟨hk.1.1.1, ⟨hk.1.1.2, hk.2⟩⟩)⟩, ⟨by (try simp only [hl629000_62]); (with_reducible repeat (first | apply Kd.R_alloc | apply Kd.R_drewN | apply Kd.R_drew)); exact Kd.R_mono HO_634000.out (fun _ hk => ⟨hk.1.1.1, ⟨hk.1.1.2, hk.2⟩⟩)⟩, ⟨by (try simp only [hl629000_62]); (with_reducible repeat (first | apply Kd.R_alloc | apply Kd.R_drewN | apply Kd.R_drew)); exact Kd.R_mono HO650.out (fun _ hk => ⟨hk.1.1.1.2, ⟨hk.1.1.2, hk.1.2⟩⟩)⟩, ⟨by (try simp only [hl629000_62]); (with_reducible repeat (first | refine blk_drewN ?_ _ | refine blk_drew ?_ | refine blk_alloc ?_ _)); exact BK615.out⟩, ⟨by (try simp only [hl629000_62]); (with_reducible repeat (first | refine blk_drewN ?_ _ | refine blk_drew ?_ | refine blk_alloc ?_ _)); exact BK624.out⟩, ⟨by (try simp only [hl629000_62]); (with_reducible repeat (first | refine blk_drewN ?_ _ | refine blk_drew ?_ | refine blk_alloc ?_ _)); exact BK628.out⟩, ⟨by (try simp only [hl629000_62]); (with_reducible repeat (first | refine blk_drewN ?_ _ | refine blk_drew ?_ | refine blk_alloc ?_ _)); exact BK633.out⟩, ⟨by (try simp only [hl629000_62]); (with_reducible repeat (first | refine blk_drewN ?_ _ | refine blk_drew ?_ | refine blk_alloc ?_ _)); exact BK652.out⟩, ⟨by repeat (first | (with_reducible first | exact HB.out | apply below_alloc | apply pw_below_drewN | apply below_drew1 | refine below_set ?_ GE615.out | refine below_set ?_ GE624.out | refine below_set ?_ GE628.out | refine below_set ?_ GE633.out | refine below_set ?_ GE652.out) | exact HB.out)⟩⟩
             ·
              replace c128 := Bool.eq_false_iff.mpr c128
              subst c128
              have H1 : (laws_FnExactCutKey.j2 kj62 t642 true t643) = some r := by rw [if_neg (show ¬ (false = true) by decide)] at H; exact H
              clear H
              have H := H1
              clear H1
              have H' := Aside0.mk H
              clear H
              have hnb139 := NB652_615.out
              have hnc139 := NB615_652.out
              have hnb140 := NB652_624.out
              have hnc140 := NB624_652.out
              have hnb141 := NB652_628.out
              have hnc141 := NB628_652.out
              have hnb142 := NB652_633.out
              have hnc142 := NB633_652.out
              have hcz143_0 : w120.cell? ⟨gb652, 0, none⟩ = some (.slice none 0 0) := (blk_cell BK652.out 0).trans rfl
              have hfz143_0 := blk_frozen BK652.out 0
              have hnb144 := NB624_615.out
              have hnc144 := NB615_624.out
              have hnb145 := NB624_628.out
              have hnc145 := NB628_624.out
              have hnb146 := NB624_633.out
              have hnc146 := NB633_624.out
              have hcz147_0 : w120.cell? ⟨gb624, 0, none⟩ = some (.slice Ao23 t620.length co23) := (blk_cell BK624.out 0).trans rfl
              have hfz147_0 := blk_frozen BK624.out 0
              go_wp2_with (first | ((with_reducible refine gate_callee (f := 17) rfl ?_); refine goesL_ (some 89) rfl rfl Try.func17 (by kernel_rfl) rfl #[.agg #[.slice Ao121 t648.length co121], .agg #[.slice Ao23 t620.length co23]] rfl (by (try simp only [List.map_toArray, List.map_cons, List.map_nil]); first | done | rfl | (simp only [List.length_drop, List.length_take]; rfl)) ?_; (with_reducible refine (laws_eqTreap.calls kj62 _ _ t648 _ _ t620 false _ ?side1 ?side2 ?side3 ?side4 A127.out).mono ?_); (case side1 => refine (Kd.R_reads' (e := 71) (base := w.heap.size) (ok := fun k_ => ((((True ∧ some k_ ≠ (.slice Ao23 t620.length co23 : Value).ownBlock) ∧ some k_ ≠ (.slice Ao29 t640.length co29 : Value).ownBlock) ∧ some k_ ≠ (.slice Ao35 t629.length co35 : Value).ownBlock) ∧ some k_ ≠ (.slice Ao118 t645.length co118 : Value).ownBlock)) (n := t648.length) (c := co121) ?_).2.2; exact (by (with_reducible repeat (first | apply Kd.R_alloc | apply Kd.R_drewN | apply Kd.R_drew)); exact (Kd.R_mono (Kd.R_far (p := ⟨gb652, 0, none⟩) (Kd.R_types HO650.out BK652.out (by decide)) (fun _ hk => hk.2) (.slice Ao121 t648.length co121)) (fun _ h_ => h_.1)))); (case side2 => exact (Kd.R_reads' HO650.out).2.1); (case side3 => refine (Kd.R_reads' (e := 71) (base := w.heap.size) (ok := fun k_ => (((some k_ ≠ (.slice Ao29 t640.length co29 : Value).ownBlock ∧ some k_ ≠ (.slice Ao35 t629.length co35 : Value).ownBlock) ∧ some k_ ≠ (.slice Ao118 t645.length co118 : Value).ownBlock) ∧ some k_ ≠ (.slice Ao121 t648.length co121 : Value).ownBlock)) (n := t620.length) (c := co23) ?_).2.2; exact (by (with_reducible repeat (first | apply Kd.R_alloc | apply Kd.R_drewN | apply Kd.R_drew)); exact (Kd.R_mono (Kd.R_far (p := ⟨gb652, 0, none⟩) (Kd.R_types HO_625000.out BK652.out (by decide)) (fun _ hk => hk.2) (.slice Ao121 t648.length co121)) (fun _ h_ => h_.1)))); (case side4 => exact (Kd.R_reads' HO_625000.out).2.1); rintro e w148 ⟨rfl, hb⟩; refine ⟨_, rfl, ?_⟩; have n0_ := Aside0.mk (Kd.R_below (by (with_reducible repeat (first | apply Kd.R_alloc | apply Kd.R_drewN | apply Kd.R_drew)); exact (Kd.R_mono (Kd.R_far (p := ⟨gb652, 0, none⟩) (Kd.R_types HO_625000.out BK652.out (by decide)) (fun _ hk => hk.2) (.slice Ao121 t648.length co121)) (fun _ h_ => h_.1))) hb); have n1_ := Aside0.mk (Kd.R_below (by (with_reducible repeat (first | apply Kd.R_alloc | apply Kd.R_drewN | apply Kd.R_drew)); exact (Kd.R_mono (Kd.R_far (p := ⟨gb652, 0, none⟩) (Kd.R_types HO_629000.out BK652.out (by decide)) (fun _ hk => hk.2) (.slice Ao121 t648.length co121)) (fun _ h_ => h_.1))) hb); have n2_ := Aside0.mk (Kd.R_below (by (with_reducible repeat (first | apply Kd.R_alloc | apply Kd.R_drewN | apply Kd.R_drew)); exact (Kd.R_mono (Kd.R_far (p := ⟨gb652, 0, none⟩) (Kd.R_types HO_634000.out BK652.out (by decide)) (fun _ hk => hk.2) (.slice Ao121 t648.length co121)) (fun _ h_ => h_.1))) hb); have n3_ := Aside0.mk (Kd.R_below (by (with_reducible repeat (first | apply Kd.R_alloc | apply Kd.R_drewN | apply Kd.R_drew)); exact (Kd.R_mono (Kd.R_far (p := ⟨gb652, 0, none⟩) (Kd.R_types HO647.out BK652.out (by decide)) (fun _ hk => hk.2) (.slice Ao121 t648.length co121)) (fun _ h_ => h_.1))) hb); have n4_ := Aside0.mk (Kd.R_below (by (with_reducible repeat (first | apply Kd.R_alloc | apply Kd.R_drewN | apply Kd.R_drew)); exact (Kd.R_mono (Kd.R_far (p := ⟨gb652, 0, none⟩) (Kd.R_types HO650.out BK652.out (by decide)) (fun _ hk => hk.2) (.slice Ao121 t648.length co121)) (fun _ h_ => h_.1))) hb); have n5_ := Aside0.mk (blk_below (g := gb615) (o := .cells #[.slice A0_0 l0_0.length c0_0] 24 (0, 0)) (by (with_reducible repeat (first | refine blk_drewN ?_ _ | refine blk_drew ?_ | refine blk_alloc ?_ _)); refine blk_far ?_ NB615_652.out _; (with_reducible repeat (first | refine blk_drewN ?_ _ | refine blk_drew ?_ | refine blk_alloc ?_ _)); exact BK615.out) hb); have n6_ := Aside0.mk (blk_below (g := gb624) (o := .cells #[.slice Ao23 t620.length co23] 29 (0, 0)) (by (with_reducible repeat (first | refine blk_drewN ?_ _ | refine blk_drew ?_ | refine blk_alloc ?_ _)); refine blk_far ?_ NB624_652.out _; (with_reducible repeat (first | refine blk_drewN ?_ _ | refine blk_drew ?_ | refine blk_alloc ?_ _)); exact BK624.out) hb); have n7_ := Aside0.mk (blk_below (g := gb628) (o := .cells #[.slice Ao29 t640.length co29] 29 (0, 0)) (by (with_reducible repeat (first | refine blk_drewN ?_ _ | refine blk_drew ?_ | refine blk_alloc ?_ _)); refine blk_far ?_ NB628_652.out _; (with_reducible repeat (first | refine blk_drewN ?_ _ | refine blk_drew ?_ | refine blk_alloc ?_ _)); exact BK628.out) hb); have n8_ := Aside0.mk (blk_below (g := gb633) (o := .cells #[.slice Ao35 t629.length co35] 29 (0, 0)) (by (with_reducible repeat (first | refine blk_drewN ?_ _ | refine blk_drew ?_ | refine blk_alloc ?_ _)); refine blk_far ?_ NB633_652.out _; (with_reducible repeat (first | refine blk_drewN ?_ _ | refine blk_drew ?_ | refine blk_alloc ?_ _)); exact BK633.out) hb); have n9_ := Aside0.mk (blk_below (g := gb652) (o := .cells #[.slice Ao121 t648.length co121] 29 (0, 0)) (by (with_reducible repeat (first | refine blk_drewN ?_ _ | refine blk_drew ?_ | refine blk_alloc ?_ _)); refine blk_put (cs := #[.slice none 0 0]) ?_ 0 _ rfl; (with_reducible repeat (first | refine blk_drewN ?_ _ | refine blk_drew ?_ | refine blk_alloc ?_ _)); exact BK652.out) hb); have n10_ := Aside0.mk (below_step (by repeat (first | (with_reducible first | exact HB.out | apply below_alloc | apply pw_below_drewN | apply below_drew1 | refine below_set ?_ GE615.out | refine below_set ?_ GE624.out | refine below_set ?_ GE628.out | refine below_set ?_ GE633.out | refine below_set ?_ GE652.out) | exact HB.out)) hb); clear HO_625000; clear HO_629000; clear HO_634000; clear HO647; clear HO650; clear BK615; clear BK624; clear BK628; clear BK633; clear BK652; clear HB; have HO_625000 := n0_; have HO_629000 := n1_; have HO_634000 := n2_; have HO647 := n3_; have HO650 := n4_; have BK615 := n5_; have BK624 := n6_; have BK628 := n7_; have BK633 := n8_; have BK652 := n9_; have HB := n10_; clear n0_ n1_ n2_ n3_ n4_ n5_ n6_ n7_ n8_ n9_ n10_; (try clear hb); (try clear hb2); (try clear hk); (try clear hi)))
              go_meet
              case rel => exact ⟨_, (true), (by first | rfl | (simp; done) | (simp [*]; done)), H', ⟨by have := HJ13.out; have := HJ62.out; first | omega | exact Nat.le_refl _⟩, ⟨by (try simp only [hl629000_62]); (with_reducible repeat (first | apply Kd.R_alloc | apply Kd.R_drewN | apply Kd.R_drew)); exact Kd.R_mono HO_625000.out (fun _ hk => ⟨hk.1.1.1, ⟨hk.1.1.2, hk.2⟩⟩)⟩, ⟨by (try simp only [hl629000_62]); (with_reducible repeat (first | apply Kd.R_alloc | apply Kd.R_drewN | apply Kd.R_drew)); exact Kd.R_mono HO_629000.out (fun _ hk => ⟨hk.1.1.1, ⟨hk.1.1.2, hk.2⟩⟩)⟩, ⟨by (try simp only [hl629000_62]); (with_reducible repeat (first | apply Kd.R_alloc | apply Kd.R_drewN | apply Kd.R_drew)); exact Kd.R_mono HO_634000.out (fun _ hk => ⟨hk.1.1.1, ⟨hk.1.1.2, hk.2⟩⟩)⟩, ⟨by (try simp only [hl629000_62]); (with_reducible repeat (first | apply Kd.R_alloc | apply Kd.R_drewN | apply Kd.R_drew)); exact Kd.R_mono HO650.out (fun _ hk => ⟨hk.1.1.1.2, ⟨hk.1.1.2, hk.1.2⟩⟩)⟩, ⟨by (try simp only [hl629000_62]); (with_reducible repeat (first | refine blk_drewN ?_ _ | refine blk_drew ?_ | refine blk_alloc ?_ _)); exact BK615.out⟩, ⟨by (try simp only [hl629000_62]); (with_reducible repeat (first | refine blk_drewN ?_ _ | refine blk_drew ?_ | refine blk_alloc ?_ _)); exact BK624.out⟩, ⟨by (try simp only [hl629000_62]); (with_reducible repeat (first | refine blk_drewN ?_ _ | refine blk_drew ?_ | refine blk_alloc ?_ _)); exact BK628.out⟩, ⟨by (try simp only [hl629000_62]); (with_reducible repeat (first | refine blk_drewN ?_ _ | refine blk_drew ?_ | refine blk_alloc ?_ _)); exact BK633.out⟩, ⟨by (try simp only [hl629000_62]); (with_reducible repeat (first | refine blk_drewN ?_ _ | refine blk_drew ?_ | refine blk_alloc ?_ _)); exact BK652.out⟩, ⟨by repeat (first | (with_reducible first | exact HB.out | apply below_alloc | apply pw_below_drewN | apply below_drew1 | refine below_set ?_ GE615.out | refine below_set ?_ GE624.out | refine below_set ?_ GE628.out | refine below_set ?_ GE633.out | refine below_set ?_ GE652.out) | exact HB.out)⟩⟩
            case rest =>
             clear HC106
             try clear c1
             try clear c2
             try clear p2
             try clear c3
             try clear c3b0
             try clear c3b1
             try clear c4
             try clear c5
             try clear c6
             try clear c6b0
             try clear c7
             try clear c8
             try clear c9
             try clear c10
             try clear c11
             try clear c12
             try clear c13
             try clear c14
             try clear c15
             try clear c17
             try clear c24
             try clear c25
             try clear c30
             try clear c31
             try clear c33
             try clear c34
             try clear c36
             try clear c37
             try clear c38
             try clear c41
             try clear c42
             try clear c43
             try clear c44
             try clear c46
             try clear c47
             try clear c50
             try clear c51
             try clear c52
             try clear c54
             try clear c55
             try clear c58
             try clear c61
             try clear c68
             try clear c69
             try clear c70
             try clear c73
             try clear c73b0
             try clear c75
             try clear c76
             try clear c77
             try clear c78
             try clear c80
             try clear c81
             try clear c84
             try clear c85
             try clear c86
             try clear c88
             try clear c89
             try clear c92
             try clear c95
             try clear c95b0
             try clear c96
             try clear c97
             try clear c98
             try clear c103
             try clear c103b0
             try clear c103b1
             try clear c107
             try clear c108
             try clear c109
             try clear c114
             try clear c115
             try clear c122
             try clear c123
             try clear c124
             try clear c125
             try clear c128
             try clear c129
             try clear c130
             try clear c131
             try clear c132
             try clear c134
             try clear c135
             try clear c136
             try clear c139
             try clear c140
             try clear c141
             try clear c142
             try clear c144
             try clear c145
             try clear c146
             try clear hcz101_0
             try clear hcz110_0
             try clear hcz112_0
             try clear hcz116_0
             try clear hcz126_0
             try clear hcz133_0
             try clear hcz137_0
             try clear hcz143_0
             try clear hcz147_0
             try clear hcz16_0
             try clear hcz18_0
             try clear hcz25_0
             try clear hcz26_0
             try clear hcz32_0
             try clear hcz39_0
             try clear hcz45_0
             try clear hcz48_0
             try clear hcz53_0
             try clear hcz56_0
             try clear hcz71_0
             try clear hcz79_0
             try clear hcz82_0
             try clear hcz87_0
             try clear hcz8_0
             try clear hcz90_0
             try clear hcz99_0
             try clear hfz101_0
             try clear hfz110_0
             try clear hfz112_0
             try clear hfz116_0
             try clear hfz126_0
             try clear hfz133_0
             try clear hfz137_0
             try clear hfz143_0
             try clear hfz147_0
             try clear hfz16_0
             try clear hfz18_0
             try clear hfz25_0
             try clear hfz26_0
             try clear hfz32_0
             try clear hfz39_0
             try clear hfz45_0
             try clear hfz48_0
             try clear hfz53_0
             try clear hfz56_0
             try clear hfz71_0
             try clear hfz79_0
             try clear hfz82_0
             try clear hfz87_0
             try clear hfz8_0
             try clear hfz90_0
             try clear hfz99_0
             try clear p2
             obtain ⟨kq, x95_105, rfl, HA, HJ105, HO_625000, HO_629000, HO_634000, HO_653000, BK615, BK624, BK628, BK633, BK652, HB⟩ := hcut
             have hl634000_105 := (Kd.R_reads' HO_634000.out).1
             rw [hl634000_105] at HO_634000
             (try simp only [hl634000_105])
             (try simp only [hl634000_105] at BK615)
             (try simp only [hl634000_105] at BK624)
             (try simp only [hl634000_105] at BK628)
             (try simp only [hl634000_105] at BK633)
             (try simp only [hl634000_105] at BK652)
             (try simp only [hl634000_105] at HO_625000)
             (try simp only [hl634000_105] at HO_629000)
             (try simp only [hl634000_105] at HO_653000)
             cases kq with
             | zero => exact absurd HA.out (by simp [laws_FnExactCutKey.j2])
             | succ kj105 =>
              have H := HA.out
              clear HA
              simp only [laws_FnExactCutKey.j2] at H
              by_cases c149 : x95_105 = true
              ·
               subst c149
               have H1 : (some false) = some r := by rw [if_pos rfl] at H; exact H
               clear H
               have H := H1
               clear H1
               obtain rfl := Option.some.inj H
               go_wp2
               go_ret
               exact ⟨by first | rfl | (simp [errW_none, errW_some] <;> rfl) | (simp [*, errW_none, errW_some] <;> rfl), by repeat (first | (with_reducible first | exact HB.out | apply below_alloc | apply pw_below_drewN | apply below_drew1 | refine below_set ?_ GE615.out | refine below_set ?_ GE624.out | refine below_set ?_ GE628.out | refine below_set ?_ GE633.out | refine below_set ?_ GE652.out) | exact HB.out)⟩
              ·
               replace c149 := Bool.eq_false_iff.mpr c149
               subst c149
               have H1 : ((laws_heldTreap.f kj105 t643 1).bind fun t654 => (if t654 < 0 then (some false) else (if t654 = t642 then (some true) else (some false)))) = some r := by rw [if_neg (show ¬ (false = true) by decide)] at H; exact H
               clear H
               have H := H1
               clear H1
               replace H := Option.bind_eq_some_iff.mp H
               obtain ⟨t654, A1500, H⟩ := H
               replace H : (if t654 < 0 then (some false) else (if t654 = t642 then (some true) else (some false))) = some r := H
               have A150 := Aside0.mk A1500
               clear A1500
               by_cases c151 : t654 < 0
               ·
                rw [if_pos c151] at H
                have c151b0 : decide (t654 < 0) = true := decide_eq_true c151
                clear c151
                obtain rfl := Option.some.inj H
                have hnb152 := NB633_615.out
                have hnc152 := NB615_633.out
                have hnb153 := NB633_624.out
                have hnc153 := NB624_633.out
                have hnb154 := NB633_628.out
                have hnc154 := NB628_633.out
                have hnb155 := NB633_652.out
                have hnc155 := NB652_633.out
                have hcz156_0 : wc.cell? ⟨gb633, 0, none⟩ = some (.slice Ao35 t643.length co35) := (blk_cell BK633.out 0).trans rfl
                have hfz156_0 := blk_frozen BK633.out 0
                go_wp2_with (first | ((with_reducible refine gate_callee (f := 30) rfl ?_); refine goesL_ (some 98) rfl rfl Try.func30 (by kernel_rfl) rfl #[.agg #[.slice Ao35 t643.length co35], .int .i64 1] rfl (by (try simp only [List.map_toArray, List.map_cons, List.map_nil]); first | done | rfl | (simp only [List.length_drop, List.length_take]; rfl)) ?_; (with_reducible refine (laws_heldTreap.calls kj105 _ _ t643 1 t654 _ ?side1 ?side2 A150.out).mono ?_); (case side1 => repeat (first | exact (Kd.R_reads' HO_634000.out).2.2 | (with_reducible refine Kd.C_alloc ?_ _) | (with_reducible refine Kd.C_drewN ?_ _) | (with_reducible refine Kd.C_drew ?_))); (case side2 => exact (Kd.R_reads' HO_634000.out).2.1); rintro e w157 ⟨rfl, hb⟩; refine ⟨_, rfl, ?_⟩; have n0_ := Aside0.mk (Kd.R_below (by (with_reducible repeat (first | apply Kd.R_alloc | apply Kd.R_drewN | apply Kd.R_drew)); exact HO_625000.out) hb); have n1_ := Aside0.mk (Kd.R_below (by (with_reducible repeat (first | apply Kd.R_alloc | apply Kd.R_drewN | apply Kd.R_drew)); exact HO_629000.out) hb); have n2_ := Aside0.mk (Kd.R_below (by (with_reducible repeat (first | apply Kd.R_alloc | apply Kd.R_drewN | apply Kd.R_drew)); exact HO_634000.out) hb); have n3_ := Aside0.mk (Kd.R_below (by (with_reducible repeat (first | apply Kd.R_alloc | apply Kd.R_drewN | apply Kd.R_drew)); exact HO_653000.out) hb); have n4_ := Aside0.mk (blk_below (g := gb615) (o := .cells #[.slice A0_0 l0_0.length c0_0] 24 (0, 0)) (by (with_reducible repeat (first | refine blk_drewN ?_ _ | refine blk_drew ?_ | refine blk_alloc ?_ _)); exact BK615.out) hb); have n5_ := Aside0.mk (blk_below (g := gb624) (o := .cells #[.slice Ao23 t620.length co23] 29 (0, 0)) (by (with_reducible repeat (first | refine blk_drewN ?_ _ | refine blk_drew ?_ | refine blk_alloc ?_ _)); exact BK624.out) hb); have n6_ := Aside0.mk (blk_below (g := gb628) (o := .cells #[.slice Ao29 t640.length co29] 29 (0, 0)) (by (with_reducible repeat (first | refine blk_drewN ?_ _ | refine blk_drew ?_ | refine blk_alloc ?_ _)); exact BK628.out) hb); have n7_ := Aside0.mk (blk_below (g := gb633) (o := .cells #[.slice Ao35 t643.length co35] 29 (0, 0)) (by (with_reducible repeat (first | refine blk_drewN ?_ _ | refine blk_drew ?_ | refine blk_alloc ?_ _)); exact BK633.out) hb); have n8_ := Aside0.mk (blk_below (g := gb652) (o := .cells #[.slice Ao121 t648.length co121] 29 (0, 0)) (by (with_reducible repeat (first | refine blk_drewN ?_ _ | refine blk_drew ?_ | refine blk_alloc ?_ _)); exact BK652.out) hb); have n9_ := Aside0.mk (below_step (by repeat (first | (with_reducible first | exact HB.out | apply below_alloc | apply pw_below_drewN | apply below_drew1 | refine below_set ?_ GE615.out | refine below_set ?_ GE624.out | refine below_set ?_ GE628.out | refine below_set ?_ GE633.out | refine below_set ?_ GE652.out) | exact HB.out)) hb); clear HO_625000; clear HO_629000; clear HO_634000; clear HO_653000; clear BK615; clear BK624; clear BK628; clear BK633; clear BK652; clear HB; have HO_625000 := n0_; have HO_629000 := n1_; have HO_634000 := n2_; have HO_653000 := n3_; have BK615 := n4_; have BK624 := n5_; have BK628 := n6_; have BK633 := n7_; have BK652 := n8_; have HB := n9_; clear n0_ n1_ n2_ n3_ n4_ n5_ n6_ n7_ n8_ n9_; (try clear hb); (try clear hb2); (try clear hk); (try clear hi)))
                go_ret
                exact ⟨by first | rfl | (simp [errW_none, errW_some] <;> rfl) | (simp [*, errW_none, errW_some] <;> rfl), by repeat (first | (with_reducible first | exact HB.out | apply below_alloc | apply pw_below_drewN | apply below_drew1 | refine below_set ?_ GE615.out | refine below_set ?_ GE624.out | refine below_set ?_ GE628.out | refine below_set ?_ GE633.out | refine below_set ?_ GE652.out) | exact HB.out)⟩
               ·
                rw [if_neg c151] at H
                have c151b0 : decide (t654 < 0) = false := decide_eq_false c151
                clear c151
                by_cases c158 : t654 = t642
                ·
                 rw [if_pos c158] at H
                 have c158b0 : (t654 == t642) = true := beq_iff_eq.mpr c158
                 have c158b1 : (t654 != t642) = false := bne_eq_false_iff_eq.mpr c158
                 clear c158
                 obtain rfl := Option.some.inj H
                 have hnb159 := NB633_615.out
                 have hnc159 := NB615_633.out
                 have hnb160 := NB633_624.out
                 have hnc160 := NB624_633.out
                 have hnb161 := NB633_628.out
                 have hnc161 := NB628_633.out
                 have hnb162 := NB633_652.out
                 have hnc162 := NB652_633.out
                 have hcz163_0 : wc.cell? ⟨gb633, 0, none⟩ = some (.slice Ao35 t643.length co35) := (blk_cell BK633.out 0).trans rfl
                 have hfz163_0 := blk_frozen BK633.out 0
                 go_wp2_with (first | ((with_reducible refine gate_callee (f := 30) rfl ?_); refine goesL_ (some 98) rfl rfl Try.func30 (by kernel_rfl) rfl #[.agg #[.slice Ao35 t643.length co35], .int .i64 1] rfl (by (try simp only [List.map_toArray, List.map_cons, List.map_nil]); first | done | rfl | (simp only [List.length_drop, List.length_take]; rfl)) ?_; (with_reducible refine (laws_heldTreap.calls kj105 _ _ t643 1 t654 _ ?side1 ?side2 A150.out).mono ?_); (case side1 => repeat (first | exact (Kd.R_reads' HO_634000.out).2.2 | (with_reducible refine Kd.C_alloc ?_ _) | (with_reducible refine Kd.C_drewN ?_ _) | (with_reducible refine Kd.C_drew ?_))); (case side2 => exact (Kd.R_reads' HO_634000.out).2.1); rintro e w164 ⟨rfl, hb⟩; refine ⟨_, rfl, ?_⟩; have n0_ := Aside0.mk (Kd.R_below (by (with_reducible repeat (first | apply Kd.R_alloc | apply Kd.R_drewN | apply Kd.R_drew)); exact HO_625000.out) hb); have n1_ := Aside0.mk (Kd.R_below (by (with_reducible repeat (first | apply Kd.R_alloc | apply Kd.R_drewN | apply Kd.R_drew)); exact HO_629000.out) hb); have n2_ := Aside0.mk (Kd.R_below (by (with_reducible repeat (first | apply Kd.R_alloc | apply Kd.R_drewN | apply Kd.R_drew)); exact HO_634000.out) hb); have n3_ := Aside0.mk (Kd.R_below (by (with_reducible repeat (first | apply Kd.R_alloc | apply Kd.R_drewN | apply Kd.R_drew)); exact HO_653000.out) hb); have n4_ := Aside0.mk (blk_below (g := gb615) (o := .cells #[.slice A0_0 l0_0.length c0_0] 24 (0, 0)) (by (with_reducible repeat (first | refine blk_drewN ?_ _ | refine blk_drew ?_ | refine blk_alloc ?_ _)); exact BK615.out) hb); have n5_ := Aside0.mk (blk_below (g := gb624) (o := .cells #[.slice Ao23 t620.length co23] 29 (0, 0)) (by (with_reducible repeat (first | refine blk_drewN ?_ _ | refine blk_drew ?_ | refine blk_alloc ?_ _)); exact BK624.out) hb); have n6_ := Aside0.mk (blk_below (g := gb628) (o := .cells #[.slice Ao29 t640.length co29] 29 (0, 0)) (by (with_reducible repeat (first | refine blk_drewN ?_ _ | refine blk_drew ?_ | refine blk_alloc ?_ _)); exact BK628.out) hb); have n7_ := Aside0.mk (blk_below (g := gb633) (o := .cells #[.slice Ao35 t643.length co35] 29 (0, 0)) (by (with_reducible repeat (first | refine blk_drewN ?_ _ | refine blk_drew ?_ | refine blk_alloc ?_ _)); exact BK633.out) hb); have n8_ := Aside0.mk (blk_below (g := gb652) (o := .cells #[.slice Ao121 t648.length co121] 29 (0, 0)) (by (with_reducible repeat (first | refine blk_drewN ?_ _ | refine blk_drew ?_ | refine blk_alloc ?_ _)); exact BK652.out) hb); have n9_ := Aside0.mk (below_step (by repeat (first | (with_reducible first | exact HB.out | apply below_alloc | apply pw_below_drewN | apply below_drew1 | refine below_set ?_ GE615.out | refine below_set ?_ GE624.out | refine below_set ?_ GE628.out | refine below_set ?_ GE633.out | refine below_set ?_ GE652.out) | exact HB.out)) hb); clear HO_625000; clear HO_629000; clear HO_634000; clear HO_653000; clear BK615; clear BK624; clear BK628; clear BK633; clear BK652; clear HB; have HO_625000 := n0_; have HO_629000 := n1_; have HO_634000 := n2_; have HO_653000 := n3_; have BK615 := n4_; have BK624 := n5_; have BK628 := n6_; have BK633 := n7_; have BK652 := n8_; have HB := n9_; clear n0_ n1_ n2_ n3_ n4_ n5_ n6_ n7_ n8_ n9_; (try clear hb); (try clear hb2); (try clear hk); (try clear hi)))
                 go_ret
                 exact ⟨by first | rfl | (simp [errW_none, errW_some] <;> rfl) | (simp [*, errW_none, errW_some] <;> rfl), by repeat (first | (with_reducible first | exact HB.out | apply below_alloc | apply pw_below_drewN | apply below_drew1 | refine below_set ?_ GE615.out | refine below_set ?_ GE624.out | refine below_set ?_ GE628.out | refine below_set ?_ GE633.out | refine below_set ?_ GE652.out) | exact HB.out)⟩
                ·
                 rw [if_neg c158] at H
                 have c158b0 : (t654 == t642) = false := beq_eq_false_iff_ne.mpr c158
                 have c158b1 : (t654 != t642) = true := bne_iff_ne.mpr c158
                 obtain rfl := Option.some.inj H
                 have hnb165 := NB633_615.out
                 have hnc165 := NB615_633.out
                 have hnb166 := NB633_624.out
                 have hnc166 := NB624_633.out
                 have hnb167 := NB633_628.out
                 have hnc167 := NB628_633.out
                 have hnb168 := NB633_652.out
                 have hnc168 := NB652_633.out
                 have hcz169_0 : wc.cell? ⟨gb633, 0, none⟩ = some (.slice Ao35 t643.length co35) := (blk_cell BK633.out 0).trans rfl
                 have hfz169_0 := blk_frozen BK633.out 0
                 go_wp2_with (first | ((with_reducible refine gate_callee (f := 30) rfl ?_); refine goesL_ (some 98) rfl rfl Try.func30 (by kernel_rfl) rfl #[.agg #[.slice Ao35 t643.length co35], .int .i64 1] rfl (by (try simp only [List.map_toArray, List.map_cons, List.map_nil]); first | done | rfl | (simp only [List.length_drop, List.length_take]; rfl)) ?_; (with_reducible refine (laws_heldTreap.calls kj105 _ _ t643 1 t654 _ ?side1 ?side2 A150.out).mono ?_); (case side1 => repeat (first | exact (Kd.R_reads' HO_634000.out).2.2 | (with_reducible refine Kd.C_alloc ?_ _) | (with_reducible refine Kd.C_drewN ?_ _) | (with_reducible refine Kd.C_drew ?_))); (case side2 => exact (Kd.R_reads' HO_634000.out).2.1); rintro e w170 ⟨rfl, hb⟩; refine ⟨_, rfl, ?_⟩; have n0_ := Aside0.mk (Kd.R_below (by (with_reducible repeat (first | apply Kd.R_alloc | apply Kd.R_drewN | apply Kd.R_drew)); exact HO_625000.out) hb); have n1_ := Aside0.mk (Kd.R_below (by (with_reducible repeat (first | apply Kd.R_alloc | apply Kd.R_drewN | apply Kd.R_drew)); exact HO_629000.out) hb); have n2_ := Aside0.mk (Kd.R_below (by (with_reducible repeat (first | apply Kd.R_alloc | apply Kd.R_drewN | apply Kd.R_drew)); exact HO_634000.out) hb); have n3_ := Aside0.mk (Kd.R_below (by (with_reducible repeat (first | apply Kd.R_alloc | apply Kd.R_drewN | apply Kd.R_drew)); exact HO_653000.out) hb); have n4_ := Aside0.mk (blk_below (g := gb615) (o := .cells #[.slice A0_0 l0_0.length c0_0] 24 (0, 0)) (by (with_reducible repeat (first | refine blk_drewN ?_ _ | refine blk_drew ?_ | refine blk_alloc ?_ _)); exact BK615.out) hb); have n5_ := Aside0.mk (blk_below (g := gb624) (o := .cells #[.slice Ao23 t620.length co23] 29 (0, 0)) (by (with_reducible repeat (first | refine blk_drewN ?_ _ | refine blk_drew ?_ | refine blk_alloc ?_ _)); exact BK624.out) hb); have n6_ := Aside0.mk (blk_below (g := gb628) (o := .cells #[.slice Ao29 t640.length co29] 29 (0, 0)) (by (with_reducible repeat (first | refine blk_drewN ?_ _ | refine blk_drew ?_ | refine blk_alloc ?_ _)); exact BK628.out) hb); have n7_ := Aside0.mk (blk_below (g := gb633) (o := .cells #[.slice Ao35 t643.length co35] 29 (0, 0)) (by (with_reducible repeat (first | refine blk_drewN ?_ _ | refine blk_drew ?_ | refine blk_alloc ?_ _)); exact BK633.out) hb); have n8_ := Aside0.mk (blk_below (g := gb652) (o := .cells #[.slice Ao121 t648.length co121] 29 (0, 0)) (by (with_reducible repeat (first | refine blk_drewN ?_ _ | refine blk_drew ?_ | refine blk_alloc ?_ _)); exact BK652.out) hb); have n9_ := Aside0.mk (below_step (by repeat (first | (with_reducible first | exact HB.out | apply below_alloc | apply pw_below_drewN | apply below_drew1 | refine below_set ?_ GE615.out | refine below_set ?_ GE624.out | refine below_set ?_ GE628.out | refine below_set ?_ GE633.out | refine below_set ?_ GE652.out) | exact HB.out)) hb); clear HO_625000; clear HO_629000; clear HO_634000; clear HO_653000; clear BK615; clear BK624; clear BK628; clear BK633; clear BK652; clear HB; have HO_625000 := n0_; have HO_629000 := n1_; have HO_634000 := n2_; have HO_653000 := n3_; have BK615 := n4_; have BK624 := n5_; have BK628 := n6_; have BK633 := n7_; have BK652 := n8_; have HB := n9_; clear n0_ n1_ n2_ n3_ n4_ n5_ n6_ n7_ n8_ n9_; (try clear hb); (try clear hb2); (try clear hk); (try clear hi)))
                 go_ret
                 exact ⟨by first | rfl | (simp [errW_none, errW_some] <;> rfl) | (simp [*, errW_none, errW_some] <;> rfl), by repeat (first | (with_reducible first | exact HB.out | apply below_alloc | apply pw_below_drewN | apply below_drew1 | refine below_set ?_ GE615.out | refine below_set ?_ GE624.out | refine below_set ?_ GE628.out | refine below_set ?_ GE633.out | refine below_set ?_ GE652.out) | exact HB.out)⟩
           ·
            rw [if_neg c103] at H
            have c103b0 : (t644 == t642) = false := beq_eq_false_iff_ne.mpr c103
            have c103b1 : (t644 != t642) = true := bne_iff_ne.mpr c103
            obtain rfl := Option.some.inj H
            have hnb171 := NB633_615.out
            have hnc171 := NB615_633.out
            have hnb172 := NB633_624.out
            have hnc172 := NB624_633.out
            have hnb173 := NB633_628.out
            have hnc173 := NB628_633.out
            have hcz174_0 : wc.cell? ⟨gb633, 0, none⟩ = some (.slice Ao35 t629.length co35) := (blk_cell BK633.out 0).trans rfl
            have hfz174_0 := blk_frozen BK633.out 0
            go_wp2_with (first | ((with_reducible refine gate_callee (f := 25) rfl ?_); refine goesL_ (some 71) rfl rfl Try.func25 (by kernel_rfl) rfl #[.agg #[.slice Ao35 t629.length co35], .int .i64 1] rfl (by (try simp only [List.map_toArray, List.map_cons, List.map_nil]); first | done | rfl | (simp only [List.length_drop, List.length_take]; rfl)) ?_; (with_reducible refine (laws_markTreap.calls kj62 (fun k_ => some k_ = (.slice Ao35 t629.length co35 : Value).ownBlock) (.slice Ao35 t629.length co35) t629 1 t642 t643 w _ ?side1 ?side2 A93.out).mono ?_); (case side1 => repeat (first | (with_reducible first | exact HB.out | apply below_alloc | apply pw_below_drewN | apply below_drew1 | refine below_set ?_ GE615.out | refine below_set ?_ GE624.out | refine below_set ?_ GE628.out | refine below_set ?_ GE633.out) | exact HB.out)); (case side2 => exact Kd.R_tight rfl HO_634000.out); rintro e w175 ⟨rfl, hy0, hb, hkp⟩; refine ⟨_, rfl, ?_⟩; have n0_ := Aside0.mk (Kd.R_mono (ok' := fun k_ => some k_ ≠ (.slice Ao29 t640.length co29 : Value).ownBlock ∧ some k_ ≠ (.slice Ao35 t629.length co35 : Value).ownBlock) (Kd.R_keptB (HO_625000.out) hkp (fun k_ hk_ hs_ => (hk_.2) hs_)) (fun k_ hk_ => ⟨hk_.1.1, hk_.1.2⟩)); have n1_ := Aside0.mk (Kd.R_mono (ok' := fun k_ => some k_ ≠ (.slice Ao23 t620.length co23 : Value).ownBlock ∧ some k_ ≠ (.slice Ao35 t629.length co35 : Value).ownBlock) (Kd.R_keptB (HO_629000.out) hkp (fun k_ hk_ hs_ => (hk_.2) hs_)) (fun k_ hk_ => ⟨hk_.1.1, hk_.1.2⟩)); have n2_ := Aside0.mk (Kd.R_reok rfl hy0 (fun k_ e_ => HO_634000.out.1 k_ e_)); have n3_ := Aside0.mk (blk_kept (by (with_reducible repeat (first | refine blk_drewN ?_ _ | refine blk_drew ?_ | refine blk_alloc ?_ _)); exact BK615.out) hkp (fun hs_ => (fun e_ => (Kd.R_ne HO_634000.out BK615.out (by decide)) e_) hs_)); have n4_ := Aside0.mk (blk_kept (by (with_reducible repeat (first | refine blk_drewN ?_ _ | refine blk_drew ?_ | refine blk_alloc ?_ _)); exact BK624.out) hkp (fun hs_ => (fun e_ => (Kd.R_ne HO_634000.out BK624.out (by decide)) e_) hs_)); have n5_ := Aside0.mk (blk_kept (by (with_reducible repeat (first | refine blk_drewN ?_ _ | refine blk_drew ?_ | refine blk_alloc ?_ _)); exact BK628.out) hkp (fun hs_ => (fun e_ => (Kd.R_ne HO_634000.out BK628.out (by decide)) e_) hs_)); have n6_ := Aside0.mk (blk_kept (by (with_reducible repeat (first | refine blk_drewN ?_ _ | refine blk_drew ?_ | refine blk_alloc ?_ _)); exact BK633.out) hkp (fun hs_ => (fun e_ => (Kd.R_ne HO_634000.out BK633.out (by decide)) e_) hs_)); have n7_ := Aside0.mk (hb); clear HO_625000; clear HO_629000; clear HO_634000; clear BK615; clear BK624; clear BK628; clear BK633; clear HB; have HO_625000 := n0_; have HO_629000 := n1_; have HO_634000 := n2_; have BK615 := n3_; have BK624 := n4_; have BK628 := n5_; have BK633 := n6_; have HB := n7_; clear n0_ n1_ n2_ n3_ n4_ n5_ n6_ n7_; (try clear hb); (try clear hkp); (try clear hy0); have hcz176_0 : w175.cell? ⟨gb633, 0, none⟩ = some (.slice Ao35 t629.length co35) := (blk_cell BK633.out 0).trans rfl; have hfz176_0 := blk_frozen BK633.out 0) | ((with_reducible refine gate_callee (f := 30) rfl ?_); refine goesL_ (some 74) rfl rfl Try.func30 (by kernel_rfl) rfl #[.agg #[.slice Ao35 t643.length co35], .int .i64 1] rfl (by (try simp only [List.map_toArray, List.map_cons, List.map_nil]); first | done | (rw [show t643.length = t629.length from (Kd.R_reads' HO_634000.out).1.symm] <;> rfl) | rfl | (simp only [List.length_drop, List.length_take]; rfl)) ?_; (with_reducible refine (laws_heldTreap.calls kj62 _ _ t643 1 t644 _ ?side1 ?side2 A94.out).mono ?_); (case side1 => repeat (first | exact (Kd.R_reads' HO_634000.out).2.2 | (with_reducible refine Kd.C_alloc ?_ _) | (with_reducible refine Kd.C_drewN ?_ _) | (with_reducible refine Kd.C_drew ?_))); (case side2 => rw [show t643.length = t629.length from (Kd.R_reads' HO_634000.out).1.symm]; exact (Kd.R_reads' HO_634000.out).2.1); rintro e w177 ⟨rfl, hb⟩; refine ⟨_, rfl, ?_⟩; have n0_ := Aside0.mk (Kd.R_below (by (with_reducible repeat (first | apply Kd.R_alloc | apply Kd.R_drewN | apply Kd.R_drew)); exact HO_625000.out) hb); have n1_ := Aside0.mk (Kd.R_below (by (with_reducible repeat (first | apply Kd.R_alloc | apply Kd.R_drewN | apply Kd.R_drew)); exact HO_629000.out) hb); have n2_ := Aside0.mk (Kd.R_below (by (with_reducible repeat (first | apply Kd.R_alloc | apply Kd.R_drewN | apply Kd.R_drew)); exact HO_634000.out) hb); have n3_ := Aside0.mk (blk_below (g := gb615) (o := .cells #[.slice A0_0 l0_0.length c0_0] 24 (0, 0)) (by (with_reducible repeat (first | refine blk_drewN ?_ _ | refine blk_drew ?_ | refine blk_alloc ?_ _)); exact BK615.out) hb); have n4_ := Aside0.mk (blk_below (g := gb624) (o := .cells #[.slice Ao23 t620.length co23] 29 (0, 0)) (by (with_reducible repeat (first | refine blk_drewN ?_ _ | refine blk_drew ?_ | refine blk_alloc ?_ _)); exact BK624.out) hb); have n5_ := Aside0.mk (blk_below (g := gb628) (o := .cells #[.slice Ao29 t640.length co29] 29 (0, 0)) (by (with_reducible repeat (first | refine blk_drewN ?_ _ | refine blk_drew ?_ | refine blk_alloc ?_ _)); exact BK628.out) hb); have n6_ := Aside0.mk (blk_below (g := gb633) (o := .cells #[.slice Ao35 t629.length co35] 29 (0, 0)) (by (with_reducible repeat (first | refine blk_drewN ?_ _ | refine blk_drew ?_ | refine blk_alloc ?_ _)); exact BK633.out) hb); have n7_ := Aside0.mk (below_step (by repeat (first | (with_reducible first | exact HB.out | apply below_alloc | apply pw_below_drewN | apply below_drew1 | refine below_set ?_ GE615.out | refine below_set ?_ GE624.out | refine below_set ?_ GE628.out | refine below_set ?_ GE633.out) | exact HB.out)) hb); clear HO_625000; clear HO_629000; clear HO_634000; clear BK615; clear BK624; clear BK628; clear BK633; clear HB; have HO_625000 := n0_; have HO_629000 := n1_; have HO_634000 := n2_; have BK615 := n3_; have BK624 := n4_; have BK628 := n5_; have BK633 := n6_; have HB := n7_; clear n0_ n1_ n2_ n3_ n4_ n5_ n6_ n7_; (try clear hb); (try clear hb2); (try clear hk); (try clear hi)))
            go_ret
            exact ⟨by first | rfl | (simp [errW_none, errW_some] <;> rfl) | (simp [*, errW_none, errW_some] <;> rfl), by repeat (first | (with_reducible first | exact HB.out | apply below_alloc | apply pw_below_drewN | apply below_drew1 | refine below_set ?_ GE615.out | refine below_set ?_ GE624.out | refine below_set ?_ GE628.out | refine below_set ?_ GE633.out) | exact HB.out)⟩
      ·
       replace c61 := Bool.eq_false_iff.mpr c61
       subst c61
       have H1 : (some false) = some r := by rw [if_neg (show ¬ (false = true) by decide)] at H; exact H
       clear H
       have H := H1
       clear H1
       obtain rfl := Option.some.inj H
       try go_wp2
       have n0_ := Aside0.mk (Kd.R_drew HO_625000.out)
       have n1_ := Aside0.mk (Kd.R_drew HO_629000.out)
       have n2_ := Aside0.mk (Kd.R_drew HO_634000.out)
       have n3_ := Aside0.mk (blk_drew BK615.out)
       have n4_ := Aside0.mk (blk_drew BK624.out)
       have n5_ := Aside0.mk (blk_drew BK628.out)
       have n6_ := Aside0.mk (blk_drew BK633.out)
       have n7_ := Aside0.mk (below_drew1 HB.out)
       clear HO_625000
       clear HO_629000
       clear HO_634000
       clear BK615
       clear BK624
       clear BK628
       clear BK633
       clear HB
       have HO_625000 := n0_
       have HO_629000 := n1_
       have HO_634000 := n2_
       have BK615 := n3_
       have BK624 := n4_
       have BK628 := n5_
       have BK633 := n6_
       have HB := n7_
       clear n0_ n1_ n2_ n3_ n4_ n5_ n6_ n7_
       refine start_ (n := 5) (S := fun w' => w'.cell? ⟨gb628, 0, none⟩ = some (.slice Ao29 t625.length co29) ∧ w'.cell? ⟨gb615, 0, none⟩ = some (.slice A0_0 l0_0.length c0_0)) (ds := []) #[false, false, false, false, false] (by kernel_rfl) rfl rfl ⟨(blk_cell BK628.out 0).trans rfl, (blk_cell BK615.out 0).trans rfl⟩ (fun hHeld => ?_)
       generalize wc.drew = w178 at HO_625000 HO_629000 HO_634000 BK615 BK624 BK628 BK633 HB hHeld ⊢
       refine take_ (i := 0) (N := some 48) (v := ?_) (a' := ?_) #[true, false, false, false, false] rfl rfl (by kernel_rfl) (fun _ _ _ h => h) (Or.inl ⟨by rfl, ?_⟩) hHeld ?_ ?_
       rotate_left
       ·
        rintro w' ⟨s0, s1⟩
        go_simp
        with_reducible rfl
       rotate_left
       ·
        simp only [Act.put, List.setIfInBounds_toArray, List.set_cons_zero, List.set_cons_succ, i64_w, i32_w]
        rfl
       refine take_ (i := 1) (N := some 49) (v := ?_) (a' := ?_) #[true, true, false, false, false] rfl rfl (by kernel_rfl) (fun _ _ _ h => h) (Or.inl ⟨by rfl, ?_⟩) hHeld ?_ ?_
       rotate_left
       ·
        rintro w' ⟨s0, s1⟩
        go_simp
        with_reducible rfl
       rotate_left
       ·
        simp only [Act.put, List.setIfInBounds_toArray, List.set_cons_zero, List.set_cons_succ, i64_w, i32_w]
        rfl
       refine one_ (i := 2) (N := some 50) #[true, true, true, false, false] rfl rfl (by kernel_rfl) (by decide) (fun K hK => ?_)
       refine goes_ Try.func15 (by kernel_rfl) rfl #[.agg #[.slice A0_0 l0_0.length c0_0]] (by rfl) rfl rfl (by (try simp only [List.map_toArray, List.map_cons, List.map_nil]); first | done | rfl | (simp only [List.length_drop, List.length_take]; rfl)) ?_
       with_reducible refine (laws_toTreap.calls kj13 _ _ l0_0 t635 _ ?side1 ?side2 A59.out).mono ?_
       (case side1 => repeat (first | exact (Kd.C_below HR0_0.out HB.out) | (with_reducible refine Kd.C_alloc ?_ _) | (with_reducible refine Kd.C_drewN ?_ _) | (with_reducible refine Kd.C_drew ?_)))
       (case side2 => exact HC0_0.out)
       rintro e w179 ⟨v636, rfl, ho0, hb⟩
       refine ⟨_, rfl, ?_⟩
       have n0_ := Aside0.mk (Kd.R_elder' (by (with_reducible repeat (first | apply Kd.R_alloc | apply Kd.R_drewN | apply Kd.R_drew)); exact HO_625000.out) (Kd.R_base ho0) hb)
       have n1_ := Aside0.mk (Kd.R_elder' (by (with_reducible repeat (first | apply Kd.R_alloc | apply Kd.R_drewN | apply Kd.R_drew)); exact HO_629000.out) (Kd.R_base ho0) hb)
       have n2_ := Aside0.mk (Kd.R_elder' (by (with_reducible repeat (first | apply Kd.R_alloc | apply Kd.R_drewN | apply Kd.R_drew)); exact HO_634000.out) (Kd.R_base ho0) hb)
       have n3_ := Aside0.mk (Kd.R_lower (Kd.R_new' (Kd.R_new' (Kd.R_new' ho0 (Kd.R_lt (by (with_reducible repeat (first | apply Kd.R_alloc | apply Kd.R_drewN | apply Kd.R_drew)); exact HO_625000.out))) (Kd.R_lt (by (with_reducible repeat (first | apply Kd.R_alloc | apply Kd.R_drewN | apply Kd.R_drew)); exact HO_629000.out))) (Kd.R_lt (by (with_reducible repeat (first | apply Kd.R_alloc | apply Kd.R_drewN | apply Kd.R_drew)); exact HO_634000.out))) (below_size (by repeat (first | (with_reducible first | exact HB.out | apply below_alloc | apply pw_below_drewN | apply below_drew1 | refine below_set ?_ GE615.out | refine below_set ?_ GE624.out | refine below_set ?_ GE628.out | refine below_set ?_ GE633.out) | exact HB.out))))
       have n4_ := Aside0.mk (blk_below (g := gb615) (o := .cells #[.slice A0_0 l0_0.length c0_0] 24 (0, 0)) (by (with_reducible repeat (first | refine blk_drewN ?_ _ | refine blk_drew ?_ | refine blk_alloc ?_ _)); exact BK615.out) hb)
       have n5_ := Aside0.mk (blk_below (g := gb624) (o := .cells #[.slice Ao23 t620.length co23] 29 (0, 0)) (by (with_reducible repeat (first | refine blk_drewN ?_ _ | refine blk_drew ?_ | refine blk_alloc ?_ _)); exact BK624.out) hb)
       have n6_ := Aside0.mk (blk_below (g := gb628) (o := .cells #[.slice Ao29 t625.length co29] 29 (0, 0)) (by (with_reducible repeat (first | refine blk_drewN ?_ _ | refine blk_drew ?_ | refine blk_alloc ?_ _)); exact BK628.out) hb)
       have n7_ := Aside0.mk (blk_below (g := gb633) (o := .cells #[.slice Ao35 t629.length co35] 29 (0, 0)) (by (with_reducible repeat (first | refine blk_drewN ?_ _ | refine blk_drew ?_ | refine blk_alloc ?_ _)); exact BK633.out) hb)
       have n8_ := Aside0.mk (below_step (by repeat (first | (with_reducible first | exact HB.out | apply below_alloc | apply pw_below_drewN | apply below_drew1 | refine below_set ?_ GE615.out | refine below_set ?_ GE624.out | refine below_set ?_ GE628.out | refine below_set ?_ GE633.out) | exact HB.out)) hb)
       clear HO_625000
       clear HO_629000
       clear HO_634000
       clear BK615
       clear BK624
       clear BK628
       clear BK633
       clear HB
       have HO_625000 := n0_
       have HO_629000 := n1_
       have HO_634000 := n2_
       have HO637 := n3_
       have BK615 := n4_
       have BK624 := n5_
       have BK628 := n6_
       have BK633 := n7_
       have HB := n8_
       clear n0_ n1_ n2_ n3_ n4_ n5_ n6_ n7_ n8_
       (try clear hb)
       (try clear hb2)
       (try clear hk)
       (try clear hi)
       (try clear ho0)
       obtain ⟨Ao180, co180, eo180⟩ := Kd.R_slice HO637.out
       (first | subst eo180 | (injection eo180 with f1_ f2_ f3_; have f4_ := f1_.symm; have f5_ := f3_.symm; clear f1_ f2_ f3_; subst f4_; subst f5_))
       refine hK.out _ _ ⟨(blk_cell BK628.out 0).trans rfl, (blk_cell BK615.out 0).trans rfl⟩ (fun hHeld => ?_)
       clear hK K
       refine norm_ (a' := ?_) ?_ ?_
       rotate_left
       ·
        show Act.put _ (some 50) _ = _
        simp only [Act.put, List.setIfInBounds_toArray, List.set_cons_zero, List.set_cons_succ, i64_w, i32_w]
        rfl
       refine one_ (i := 3) (N := some 51) #[true, true, true, true, false] rfl rfl (by kernel_rfl) (by decide) (fun K hK => ?_)
       refine goes_ Try.func17 (by kernel_rfl) rfl #[.agg #[.slice Ao29 t625.length co29], .agg #[.slice Ao180 t635.length co180]] (by rfl) rfl rfl (by (try simp only [List.map_toArray, List.map_cons, List.map_nil]); first | done | rfl | (simp only [List.length_drop, List.length_take]; rfl)) ?_
       with_reducible refine (laws_eqTreap.calls kj13 _ _ t625 _ _ t635 false _ ?side1 ?side2 ?side3 ?side4 A60.out).mono ?_
       (case side1 => repeat (first | exact (Kd.R_reads' HO_629000.out).2.2 | (with_reducible refine Kd.C_alloc ?_ _) | (with_reducible refine Kd.C_drewN ?_ _) | (with_reducible refine Kd.C_drew ?_)))
       (case side2 => exact (Kd.R_reads' HO_629000.out).2.1)
       (case side3 => repeat (first | exact (Kd.R_reads' HO637.out).2.2 | (with_reducible refine Kd.C_alloc ?_ _) | (with_reducible refine Kd.C_drewN ?_ _) | (with_reducible refine Kd.C_drew ?_)))
       (case side4 => exact (Kd.R_reads' HO637.out).2.1)
       rintro e w181 ⟨rfl, hb⟩
       refine ⟨_, rfl, ?_⟩
       have n0_ := Aside0.mk (Kd.R_below (by (with_reducible repeat (first | apply Kd.R_alloc | apply Kd.R_drewN | apply Kd.R_drew)); exact HO_625000.out) hb)
       have n1_ := Aside0.mk (Kd.R_below (by (with_reducible repeat (first | apply Kd.R_alloc | apply Kd.R_drewN | apply Kd.R_drew)); exact HO_629000.out) hb)
       have n2_ := Aside0.mk (Kd.R_below (by (with_reducible repeat (first | apply Kd.R_alloc | apply Kd.R_drewN | apply Kd.R_drew)); exact HO_634000.out) hb)
       have n3_ := Aside0.mk (Kd.R_below (by (with_reducible repeat (first | apply Kd.R_alloc | apply Kd.R_drewN | apply Kd.R_drew)); exact HO637.out) hb)
       have n4_ := Aside0.mk (blk_below (g := gb615) (o := .cells #[.slice A0_0 l0_0.length c0_0] 24 (0, 0)) (by (with_reducible repeat (first | refine blk_drewN ?_ _ | refine blk_drew ?_ | refine blk_alloc ?_ _)); exact BK615.out) hb)
       have n5_ := Aside0.mk (blk_below (g := gb624) (o := .cells #[.slice Ao23 t620.length co23] 29 (0, 0)) (by (with_reducible repeat (first | refine blk_drewN ?_ _ | refine blk_drew ?_ | refine blk_alloc ?_ _)); exact BK624.out) hb)
       have n6_ := Aside0.mk (blk_below (g := gb628) (o := .cells #[.slice Ao29 t625.length co29] 29 (0, 0)) (by (with_reducible repeat (first | refine blk_drewN ?_ _ | refine blk_drew ?_ | refine blk_alloc ?_ _)); exact BK628.out) hb)
       have n7_ := Aside0.mk (blk_below (g := gb633) (o := .cells #[.slice Ao35 t629.length co35] 29 (0, 0)) (by (with_reducible repeat (first | refine blk_drewN ?_ _ | refine blk_drew ?_ | refine blk_alloc ?_ _)); exact BK633.out) hb)
       have n8_ := Aside0.mk (below_step (by repeat (first | (with_reducible first | exact HB.out | apply below_alloc | apply pw_below_drewN | apply below_drew1 | refine below_set ?_ GE615.out | refine below_set ?_ GE624.out | refine below_set ?_ GE628.out | refine below_set ?_ GE633.out) | exact HB.out)) hb)
       clear HO_625000
       clear HO_629000
       clear HO_634000
       clear HO637
       clear BK615
       clear BK624
       clear BK628
       clear BK633
       clear HB
       have HO_625000 := n0_
       have HO_629000 := n1_
       have HO_634000 := n2_
       have HO637 := n3_
       have BK615 := n4_
       have BK624 := n5_
       have BK628 := n6_
       have BK633 := n7_
       have HB := n8_
       clear n0_ n1_ n2_ n3_ n4_ n5_ n6_ n7_ n8_
       (try clear hb)
       (try clear hb2)
       (try clear hk)
       (try clear hi)
       refine hK.out _ _ ⟨(blk_cell BK628.out 0).trans rfl, (blk_cell BK615.out 0).trans rfl⟩ (fun hHeld => ?_)
       clear hK K
       refine norm_ (a' := ?_) ?_ ?_
       rotate_left
       ·
        show Act.put _ (some 51) _ = _
        simp only [Act.put, List.setIfInBounds_toArray, List.set_cons_zero, List.set_cons_succ, i64_w, i32_w]
        rfl
       refine pure_ (i := 4) (N := some 52) (v := ?_) (a' := ?_) #[true, true, true, true, true] rfl rfl (by kernel_rfl) (fun _ _ _ h => h) (Or.inl ⟨by rfl, ?_⟩) ?_ ?_
       rotate_left
       ·
        intro w'
        go_simp
        with_reducible rfl
       rotate_left
       ·
        simp only [Act.put, List.setIfInBounds_toArray, List.set_cons_zero, List.set_cons_succ, i64_w, i32_w]
        rfl
       refine done_ (by kernel_rfl) ?_
       try go_wp2
       go_ret
       exact ⟨by first | rfl | (simp [errW_none, errW_some] <;> rfl) | (simp [*, errW_none, errW_some] <;> rfl), by repeat (first | (with_reducible first | exact HB.out | apply below_alloc | apply pw_below_drewN | apply below_drew1 | refine below_set ?_ GE615.out | refine below_set ?_ GE624.out | refine below_set ?_ GE628.out | refine below_set ?_ GE633.out) | exact HB.out)⟩

/-- THE ONE PURE STATEMENT of laws_FnExactCutKey. -/
def laws_FnExactCutKey.Pure : Prop := ∀ (l0_0 : List (S99)) (a1 : ByteArray), (l0_0.length ≤ maxLen ∧ ∀ x_ ∈ l0_0, (x_.f0.size ≤ maxLen ∧ (x_.f1.size ≤ maxLen ∧ ((Lit.int .i64 x_.f2).wf = true ∧ (Lit.int .i64 x_.f3).wf = true)))) → a1.size ≤ maxLen → ∃ k, laws_FnExactCutKey.f k l0_0 a1 = some true
theorem laws_FnExactCutKey.walk (P : laws_FnExactCutKey.Pure) (A0_0 : Option Addr) (c0_0 : Nat) (l0_0 : List (S99)) (a1 : ByteArray) (w : World) (hr0_0 : Kd.C k99 w A0_0 l0_0.length l0_0) (hc0_0 : l0_0.length ≤ c0_0) (w0_0 : (l0_0.length ≤ maxLen ∧ ∀ x_ ∈ l0_0, (x_.f0.size ≤ maxLen ∧ (x_.f1.size ≤ maxLen ∧ ((Lit.int .i64 x_.f2).wf = true ∧ (Lit.int .i64 x_.f3).wf = true))))) (w1 : a1.size ≤ maxLen) :
  Calls Try.prog 9 #[.agg #[.slice A0_0 l0_0.length c0_0], .string a1] w fun e w' => e = .returned (.bool true) ∧ Below w.heap.size w w' := by
 obtain ⟨k, h⟩ := P l0_0 a1 w0_0 w1
 refine (laws_FnExactCutKey.calls k _ _ l0_0 a1 true w hr0_0 hc0_0 h).mono ?_
 rintro e w' ⟨rfl, hd⟩
 exact ⟨rfl, hd⟩

end Go.Proofs.Ytjknkeipginpcaa.PQ
end
