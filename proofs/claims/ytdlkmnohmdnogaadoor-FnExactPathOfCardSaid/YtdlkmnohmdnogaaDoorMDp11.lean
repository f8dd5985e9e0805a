/- Several texts in one: what the claim's last text rests on. No conditions. -/
import Derived.Test.YtdlkmnohmdnogaaDoorProg
import Derived.Test.YtdlkmnohmdnogaaDoorMDp7
import Derived.Deep.WholeRow
import Derived.Laws.Tables
import Derived.WalkLawsBesides
import Derived.WalkSpells
import Derived.RegionTactic
import Derived.RegionCalls
import Derived.ChangeAlike
import Derived.StillTailTactics
import Derived.LaidEqlPtr
section
namespace Go.Proofs.YtdlkmnohmdnogaaDoor.Gna
set_option linter.unusedVariables false
set_option linter.unusedSimpArgs false
open Go.RowKit Go.Lib Go.Proofs.YtdlkmnohmdnogaaDoorW.PrintWords Go.Proofs.YtdlkmnohmdnogaaDoorW.PrintLast Go.Proofs.YtdlkmnohmdnogaaDoorW.PrintMore Go.Proofs.YtdlkmnohmdnogaaDoor.Pre
/-- The number of a byte among the bytes of the marks. -/
def mp (i : Nat) : Nat := if i = 48 then 0 else if i = 49 then 1 else if i = 126 then 2 else 3
/-- The head of the replacer: its root, the table's size, the numbers of the bytes. -/
structure IsM (w : World) (G T0 : Nat) : Prop where
 c0 : w.cell? ⟨G, 0, none⟩ = some (.string ⟨#[]⟩)
 c1 : w.cell? ⟨G, 1, none⟩ = some (.int .i64 0)
 c2 : w.cell? ⟨G, 2, none⟩ = some (.string ⟨#[]⟩)
 c3 : w.cell? ⟨G, 3, none⟩ = some (.pointer none)
 c4 : w.cell? ⟨G, 4, none⟩ = some (.slice (some ⟨T0, 0, none⟩) 3 3)
 c5 : w.cell? ⟨G, 5, none⟩ = some (.int .i64 3)
 map : ∀ i, i < 256 → w.cell? ⟨G, 6 + i, none⟩ = some (.int .u8 (mp i : Int))
theorem IsM.later {w w' : World} {G T0 B : Nat} (h : IsM w G T0) (hb : Below B w w') (hG : G < B) : IsM w' G T0 :=
 ⟨(hb.cell hG).trans h.c0, (hb.cell hG).trans h.c1, (hb.cell hG).trans h.c2, (hb.cell hG).trans h.c3, (hb.cell hG).trans h.c4, (hb.cell hG).trans h.c5, fun i hi => (hb.cell hG).trans (h.map i hi)⟩
/-- A node of the tree in a block of its own. -/
def Nd (w : World) (b : Nat) (v : ByteArray) (p : Int) (pre : ByteArray) (nx tb : Value) : Prop := w.heap[b]? = some (.cells #[.string v, .int .i64 p, .string pre, nx, tb] 88 (0, 0))

theorem Nd.k0 {w : World} {b : Nat} {v : ByteArray} {p : Int} {pre : ByteArray} {nx tb : Value} (h : Nd w b v p pre nx tb) : w.cell? ⟨b, 0, none⟩ = some (.string v) := (blk_cell h 0).trans rfl
theorem Nd.k1 {w : World} {b : Nat} {v : ByteArray} {p : Int} {pre : ByteArray} {nx tb : Value} (h : Nd w b v p pre nx tb) : w.cell? ⟨b, 1, none⟩ = some (.int .i64 p) := (blk_cell h 1).trans rfl
theorem Nd.k2 {w : World} {b : Nat} {v : ByteArray} {p : Int} {pre : ByteArray} {nx tb : Value} (h : Nd w b v p pre nx tb) : w.cell? ⟨b, 2, none⟩ = some (.string pre) := (blk_cell h 2).trans rfl
theorem Nd.k3 {w : World} {b : Nat} {v : ByteArray} {p : Int} {pre : ByteArray} {nx tb : Value} (h : Nd w b v p pre nx tb) : w.cell? ⟨b, 3, none⟩ = some nx := (blk_cell h 3).trans rfl
theorem Nd.k4 {w : World} {b : Nat} {v : ByteArray} {p : Int} {pre : ByteArray} {nx tb : Value} (h : Nd w b v p pre nx tb) : w.cell? ⟨b, 4, none⟩ = some tb := (blk_cell h 4).trans rfl
theorem Nd.z {w : World} {b : Nat} {v : ByteArray} {p : Int} {pre : ByteArray} {nx tb : Value} (h : Nd w b v p pre nx tb) (i : Nat) : w.frozen? ⟨b, i, none⟩ = false := blk_frozen h i
theorem Nd.s0 {w : World} {b : Nat} {v : ByteArray} {p : Int} {pre : ByteArray} {nx tb : Value} (h : Nd w b v p pre nx tb) (v' : ByteArray) : Nd (w.setCell ⟨b, 0, none⟩ (.string v')) b v' p pre nx tb := blk_put h 0 _ rfl
theorem Nd.s1 {w : World} {b : Nat} {v : ByteArray} {p : Int} {pre : ByteArray} {nx tb : Value} (h : Nd w b v p pre nx tb) (p' : Int) : Nd (w.setCell ⟨b, 1, none⟩ (.int .i64 p')) b v p' pre nx tb := blk_put h 1 _ rfl
theorem Nd.s2 {w : World} {b : Nat} {v : ByteArray} {p : Int} {pre : ByteArray} {nx tb : Value} (h : Nd w b v p pre nx tb) (pre' : ByteArray) : Nd (w.setCell ⟨b, 2, none⟩ (.string pre')) b v p pre' nx tb := blk_put h 2 _ rfl
theorem Nd.s3 {w : World} {b : Nat} {v : ByteArray} {p : Int} {pre : ByteArray} {nx tb : Value} (h : Nd w b v p pre nx tb) (nx' : Value) : Nd (w.setCell ⟨b, 3, none⟩ nx') b v p pre nx' tb := blk_put h 3 _ rfl
theorem Nd.s4 {w : World} {b : Nat} {v : ByteArray} {p : Int} {pre : ByteArray} {nx tb : Value} (h : Nd w b v p pre nx tb) (tb' : Value) : Nd (w.setCell ⟨b, 4, none⟩ tb') b v p pre nx tb' := blk_put h 4 _ rfl
theorem Nd.al {w : World} {b : Nat} {v : ByteArray} {p : Int} {pre : ByteArray} {nx tb : Value} (h : Nd w b v p pre nx tb) (o : Obj) : Nd (w.alloc o) b v p pre nx tb := blk_alloc h o
theorem Nd.ft {w : World} {b : Nat} {v : ByteArray} {p : Int} {pre : ByteArray} {nx tb : Value} (h : Nd w b v p pre nx tb) {a : Addr} (hn : b ≠ a.block) (u : Value) : Nd (w.setCell a u) b v p pre nx tb := blk_far h hn u
theorem Nd.lt {w : World} {b : Nat} {v : ByteArray} {p : Int} {pre : ByteArray} {nx tb : Value} (h : Nd w b v p pre nx tb) : b < w.heap.size := blk_lt h
theorem Nd.bl {w w' : World} {b B : Nat} {v : ByteArray} {p : Int} {pre : ByteArray} {nx tb : Value} (h : Nd w b v p pre nx tb) (hb : Below B w w') (hB : b < B) : Nd w' b v p pre nx tb := (hb.block b hB).trans h
theorem Nd.nw (w : World) : Nd (w.alloc (.cells #[.string ⟨#[]⟩, .int .i64 0, .string ⟨#[]⟩, .pointer none, .slice none 0 0] 88)) w.heap.size ⟨#[]⟩ 0 ⟨#[]⟩ (.pointer none) (.slice none 0 0) := blk_new w _

set_option maxHeartbeats 2000000 in
set_option maxRecDepth 100000 in
theorem add_leaf (b G : Nat) (v : ByteArray) (p : Int) (nx tb : Value) (pre : ByteArray) (w : World) (h : Nd w b ⟨#[]⟩ 0 pre nx tb) :
  Calls Tryd.prog 47 #[.pointer (some ⟨b, 0, none⟩), .string ⟨#[]⟩, .string v, .int .i64 p, .pointer (some ⟨G, 0, none⟩)] w fun e w' => e = .returned (.tuple #[]) ∧ Nd w' b v p pre nx tb ∧ Below b w w' ∧ ∀ j, j ≠ b → w'.heap[j]? = w.heap[j]? := by
 have H := aM h
 have c1 := h.k1
 have c0 := h.k0
 have f0 := h.z 0
 have f1 := h.z 1
 clear h
 go_enter Tryd.func47, Tryd.ntmps47
 go_wp2
 first | go_end0 | (simp only [Exit.inBlock, Exit.then]; refine bodyPost_ret (results_none rfl _ _ _) rfl ?_) | refine bodyPost_ret (results_none rfl _ _ _) rfl ?_
 exact ⟨rfl, (H.out.s0 v).s1 p, ((Below.refl b w).setCell (p := ⟨b, 0, none⟩) (Nat.le_refl _) _).setCell (p := ⟨b, 1, none⟩) (Nat.le_refl _) _, fun j hj => (Below.heap_setCell _ ⟨b, 1, none⟩ _ j hj).trans (Below.heap_setCell w ⟨b, 0, none⟩ _ j hj)⟩

set_option maxHeartbeats 2000000 in
set_option maxRecDepth 100000 in
theorem add_new (b G : Nat) (v k : ByteArray) (p : Int) (w : World) (h : Nd w b ⟨#[]⟩ 0 ⟨#[]⟩ (.pointer none) (.slice none 0 0)) (hk : k.toList.isEmpty = false) :
  Calls Tryd.prog 47 #[.pointer (some ⟨b, 0, none⟩), .string k, .string v, .int .i64 p, .pointer (some ⟨G, 0, none⟩)] w fun e w' => e = .returned (.tuple #[]) ∧ (∃ N, b < N ∧ Nd w' b ⟨#[]⟩ 0 k (.pointer (some ⟨N, 0, none⟩)) (.slice none 0 0) ∧ Nd w' N v p ⟨#[]⟩ (.pointer none) (.slice none 0 0)) ∧ Below b w w' := by
 have HL := aM h.lt
 have c2 := h.k2
 have c4 := h.k4
 have f2 := h.z 2
 obtain ⟨w1, hw1⟩ : ∃ x, x = (w.setCell ⟨b, 2, none⟩ (.string k)).alloc (.cells #[.string ⟨#[]⟩, .int .i64 0, .string ⟨#[]⟩, .pointer none, .slice none 0 0] 88) := ⟨_, rfl⟩
 have HS : Aside0 (w1.heap.size = w.heap.size + 1) := ⟨by rw [hw1]; simp⟩
 have H1 : Aside0 (Nd w1 b ⟨#[]⟩ 0 k (.pointer none) (.slice none 0 0)) := ⟨by rw [hw1]; exact (h.s2 k).al _⟩
 have HN1 : Aside0 (Nd w1 w.heap.size ⟨#[]⟩ 0 ⟨#[]⟩ (.pointer none) (.slice none 0 0)) := ⟨by
  rw [hw1]
  have h := Nd.nw (w.setCell ⟨b, 2, none⟩ (.string k))
  have hs : (w.setCell ⟨b, 2, none⟩ (.string k)).heap.size = w.heap.size := by simp [World.setCell]
  rw [hs] at h
  exact h⟩
 have HB1 : Aside0 (Below b w w1) := ⟨by
  rw [hw1]
  exact ((Below.refl b w).setCell (p := ⟨b, 2, none⟩) (Nat.le_refl _) _).alloc (by have := HL.out; simp [World.setCell]; omega) _⟩
 have HW := aM hw1
 clear h hw1
 go_enter Tryd.func47, Tryd.ntmps47
 go_upto_region 33 with (fail)
 have c3 := H1.out.k3
 have f3 := H1.out.z 3
 rw [HW.out] at c3 f3
 go_upto_region 34 with (fail)
 rw [← HW.out]
 obtain ⟨w2, hw2⟩ : ∃ x, x = w1.setCell ⟨b, 3, none⟩ (.pointer (some ⟨w.heap.size, 0, none⟩)) := ⟨_, rfl⟩
 rw [← hw2]
 have H2 : Aside0 (Nd w2 b ⟨#[]⟩ 0 k (.pointer (some ⟨w.heap.size, 0, none⟩)) (.slice none 0 0)) := ⟨by rw [hw2]; exact H1.out.s3 _⟩
 have HN2 : Aside0 (Nd w2 w.heap.size ⟨#[]⟩ 0 ⟨#[]⟩ (.pointer none) (.slice none 0 0)) := ⟨by rw [hw2]; exact HN1.out.ft (Ne.symm (Nat.ne_of_lt HL.out)) _⟩
 have HB2 : Aside0 (Below b w w2) := ⟨by rw [hw2]; exact HB1.out.setCell (p := ⟨b, 3, none⟩) (Nat.le_refl _) _⟩
 clear hw2 c3 f3 c2 c4 f2
 have d3 := H2.out.k3
 go_wp2_with (go_at_call 47; go_loud ((with_reducible refine (add_leaf w.heap.size G v p _ _ _ _ HN2.out).mono ?_); rintro e w3 ⟨rfl, h3, hb, _⟩; have HN3 := aM h3; have H3 := aM (H2.out.bl hb HL.out); have HB3 := aM (HB2.out.trans (hb.mono (Nat.le_of_lt HL.out))); clear h3 hb))
 first | go_end0 | (simp only [Exit.inBlock, Exit.then]; refine bodyPost_ret (results_none rfl _ _ _) rfl ?_) | refine bodyPost_ret (results_none rfl _ _ _) rfl ?_
 exact ⟨rfl, ⟨w.heap.size, HL.out, H3.out, HN3.out⟩, HB3.out⟩

theorem ne48 : (⟨#[48]⟩ : ByteArray).toList.isEmpty = false := by rw [ByteArray.toList_eq]; rfl
theorem ex48 : (⟨#[126, 48]⟩ : ByteArray).extract 1 2 = ⟨#[48]⟩ := by
 apply ByteArray.ext
 rw [ByteArray.data_extract]
 rfl
theorem ex49 : (⟨#[126, 49]⟩ : ByteArray).extract 1 2 = ⟨#[49]⟩ := by
 apply ByteArray.ext
 rw [ByteArray.data_extract]
 rfl
theorem ex0 : (⟨#[49]⟩ : ByteArray).extract 1 1 = ⟨#[]⟩ := by
 apply ByteArray.ext
 rw [ByteArray.data_extract]
 rfl
theorem drewN_below (w : World) (q B : Nat) : Below B w (w.drewN q) := ⟨rfl, rfl, rfl, Nat.le_refl _, fun _ _ => rfl⟩
set_option maxHeartbeats 2000000 in
set_option maxRecDepth 100000 in
/-- The first mark: its way down the tree is new. -/
theorem add_one (G T0 : Nat) (v : ByteArray) (p : Int) (w : World) (hM : IsM w G T0) (hT : w.heap[T0]? = some (.cells #[.pointer none, .pointer none, .pointer none] 85 (0, 0))) (hGT : G < T0) :
  Calls Tryd.prog 47 #[.pointer (some ⟨G, 0, none⟩), .string ⟨#[126, 48]⟩, .string v, .int .i64 p, .pointer (some ⟨G, 0, none⟩)] w fun e w' => e = .returned (.tuple #[]) ∧ IsM w' G T0 ∧
   (∃ N1 N2, T0 < N1 ∧ N1 < N2 ∧ w'.heap[T0]? = some (.cells #[.pointer none, .pointer none, .pointer (some ⟨N1, 0, none⟩)] 85 (0, 0)) ∧ Nd w' N1 ⟨#[]⟩ 0 ⟨#[48]⟩ (.pointer (some ⟨N2, 0, none⟩)) (.slice none 0 0) ∧ Nd w' N2 v p ⟨#[]⟩ (.pointer none) (.slice none 0 0)) ∧ Below T0 w w' := by
 have HM := aM hM
 have HT := aM hT
 have HGT := aM hGT
 have HL := aM (blk_lt hT)
 have c2 := hM.c2
 have c4 := hM.c4
 have cm : w.cell? ⟨G, 132, none⟩ = some (.int .u8 2) := hM.map 126 (by decide)
 have ct : w.cell? ⟨T0, 2, none⟩ = some (.pointer none) := (blk_cell hT 2).trans rfl
 have e126 : ∀ h, ((⟨#[126, 48]⟩ : ByteArray)[0]'h).toNat = 126 := fun _ => rfl
 have ex := ex48
 clear hM hT hGT
 go_enter Tryd.func47, Tryd.ntmps47
 go_upto_region 28 with (fail)
 go_quiet (fail)
 go_upto_region 30 with (fail)
 obtain ⟨wr, hwr⟩ : ∃ x, x = w.drewN nq := ⟨_, rfl⟩
 rw [← hwr]
 have HBR : Aside0 (Below T0 w wr) := ⟨by rw [hwr]; exact drewN_below _ _ _⟩
 have HMR := aM (HM.out.later HBR.out HGT.out)
 have HTR : Aside0 (wr.heap[T0]? = some (.cells #[.pointer none, .pointer none, .pointer none] 85 (0, 0))) := ⟨by rw [hwr]; exact HT.out⟩
 have HLR := aM (blk_lt HTR.out)
 clear hwr c2 c4 cm ct
 have c4 := HMR.out.c4
 have ct : ∀ o, (wr.alloc o).cell? ⟨T0, 2, none⟩ = some (.pointer none) := fun o => (blk_cell (blk_alloc HTR.out o) 2).trans rfl
 have ft : ∀ o, (wr.alloc o).frozen? ⟨T0, 2, none⟩ = false := fun o => blk_frozen (blk_alloc HTR.out o) 2
 go_upto_region 31 with (fail)
 obtain ⟨w2, hw2⟩ : ∃ x, x = (wr.alloc (.cells #[.string ⟨#[]⟩, .int .i64 0, .string ⟨#[]⟩, .pointer none, .slice none 0 0] 88)).setCell ⟨T0, 2, none⟩ (.pointer (some ⟨wr.heap.size, 0, none⟩)) := ⟨_, rfl⟩
 rw [← hw2]
 have HB2 : Aside0 (Below T0 w w2) := ⟨by rw [hw2]; exact (HBR.out.alloc (Nat.le_of_lt HLR.out) _).setCell (p := ⟨T0, 2, none⟩) (Nat.le_refl _) _⟩
 have HM2 := aM (HM.out.later HB2.out HGT.out)
 have HT2 : Aside0 (w2.heap[T0]? = some (.cells #[.pointer none, .pointer none, .pointer (some ⟨wr.heap.size, 0, none⟩)] 85 (0, 0))) := ⟨by rw [hw2]; exact blk_put (blk_alloc HTR.out _) 2 _ rfl⟩
 have HN2 : Aside0 (Nd w2 wr.heap.size ⟨#[]⟩ 0 ⟨#[]⟩ (.pointer none) (.slice none 0 0)) := ⟨by rw [hw2]; exact (Nd.nw wr).ft (Ne.symm (Nat.ne_of_lt HLR.out)) _⟩
 obtain ⟨N1, hN1⟩ : ∃ x, x = wr.heap.size := ⟨_, rfl⟩
 rw [← hN1] at HT2 HN2 HLR
 clear hw2 hN1 c4 ct ft
 have c4 := HM2.out.c4
 have ct : w2.cell? ⟨T0, 2, none⟩ = some (.pointer (some ⟨N1, 0, none⟩)) := (blk_cell HT2.out 2).trans rfl
 go_still_tail 12, (by kernel_rfl)
 change wpList _ _ _ _ _ w2.drew
 obtain ⟨w3, hw3⟩ : ∃ x, x = w2.drew := ⟨_, rfl⟩
 rw [← hw3]
 have HB3 : Aside0 (Below T0 w w3) := ⟨by rw [hw3]; exact HB2.out.drew⟩
 have HT3 : Aside0 (w3.heap[T0]? = some (.cells #[.pointer none, .pointer none, .pointer (some ⟨N1, 0, none⟩)] 85 (0, 0))) := ⟨by rw [hw3]; exact HT2.out⟩
 have HN3 : Aside0 (Nd w3 N1 ⟨#[]⟩ 0 ⟨#[]⟩ (.pointer none) (.slice none 0 0)) := ⟨by rw [hw3]; exact HN2.out⟩
 clear hw3 c4 ct
 go_wp2_with (go_at_call 47; go_loud ((with_reducible refine (add_new N1 G v ⟨#[48]⟩ p _ HN3.out ne48).mono ?_); rintro e w4 ⟨rfl, ⟨N2, hN, h4, h5⟩, hb⟩; have HN4 := aM h4; have HN5 := aM h5; have HNN := aM hN; have HB4 := aM (HB3.out.trans (hb.mono (Nat.le_of_lt HLR.out))); have HT4 := aM ((hb.block T0 HLR.out).trans HT3.out); clear h4 h5 hN hb))
 first | go_end0 | (simp only [Exit.inBlock, Exit.then]; refine bodyPost_ret (results_none rfl _ _ _) rfl ?_) | refine bodyPost_ret (results_none rfl _ _ _) rfl ?_
 exact ⟨rfl, HM.out.later HB4.out HGT.out, ⟨N1, N2, HLR.out, HNN.out, HT4.out, HN4.out, HN5.out⟩, HB4.out⟩

set_option maxHeartbeats 4000000 in
set_option maxRecDepth 100000 in
/-- A node of one way: another way begins there. -/
theorem add_fork (G T0 N1 N2 : Nat) (v : ByteArray) (p : Int) (w : World) (hM : IsM w G T0) (hGN : G < N1) (h1 : Nd w N1 ⟨#[]⟩ 0 ⟨#[48]⟩ (.pointer (some ⟨N2, 0, none⟩)) (.slice none 0 0)) :
  Calls Tryd.prog 47 #[.pointer (some ⟨N1, 0, none⟩), .string ⟨#[49]⟩, .string v, .int .i64 p, .pointer (some ⟨G, 0, none⟩)] w fun e w' => e = .returned (.tuple #[]) ∧
   (∃ T1 N3, w.heap.size ≤ N3 ∧ w.heap.size ≤ T1 ∧ Nd w' N1 ⟨#[]⟩ 0 ⟨#[]⟩ (.pointer none) (.slice (some ⟨T1, 0, none⟩) 3 3) ∧ w'.heap[T1]? = some (.cells #[.pointer (some ⟨N2, 0, none⟩), .pointer (some ⟨N3, 0, none⟩), .pointer none] 85 (0, 0)) ∧ Nd w' N3 v p ⟨#[]⟩ (.pointer none) (.slice none 0 0)) ∧ (∀ j, j < w.heap.size → j ≠ N1 → w'.heap[j]? = w.heap[j]?) ∧ Below N1 w w' := by
 have HM := aM hM
 have HG := aM hGN
 have H1 := aM h1
 have c2 := h1.k2
 have e49 : ∀ h, ((⟨#[49]⟩ : ByteArray)[0]'h).toNat = 49 := fun _ => rfl
 have e48 : ∀ h, ((⟨#[48]⟩ : ByteArray)[0]'h).toNat = 48 := fun _ => rfl
 clear hM hGN h1
 go_enter Tryd.func47, Tryd.ntmps47
 go_wp2
 refine wp_loop_rounds 1 ?_
 rw [rounds_succ]
 go_upto_region 8 with (fail)
 go_quiet (fail)
 go_upto_region 9 with (fail)
 obtain ⟨wr, hwr⟩ : ∃ x, x = w.drewN nq := ⟨_, rfl⟩
 rw [← hwr]
 have HBR : Aside0 (∀ B, Below B w wr) := ⟨fun B => by rw [hwr]; exact drewN_below _ _ _⟩
 have HSR : Aside0 (wr.heap.size = w.heap.size) := ⟨by rw [hwr]; rfl⟩
 have HMR := aM (HM.out.later (HBR.out N1) HG.out)
 have HR1 : Aside0 (Nd wr N1 ⟨#[]⟩ 0 ⟨#[48]⟩ (.pointer (some ⟨N2, 0, none⟩)) (.slice none 0 0)) := ⟨by rw [hwr]; exact H1.out⟩
 clear hwr c2
 have c2 := HR1.out.k2
 have c3 := HR1.out.k3
 go_upto_region 17 with (fail)
 obtain ⟨w2, hw2⟩ : ∃ x, x = wr.alloc (.cells #[.string ⟨#[]⟩, .int .i64 0, .string ⟨#[]⟩, .pointer none, .slice none 0 0] 88) := ⟨_, rfl⟩
 rw [← hw2]
 have HLR := aM HR1.out.lt
 have HG2 := HG.out
 have HB2 : Aside0 (∀ B, B ≤ wr.heap.size → Below B w w2) := ⟨fun B hB => by rw [hw2]; exact (HBR.out B).alloc hB _⟩
 have HM2 := aM (HM.out.later (HB2.out N1 (Nat.le_of_lt HLR.out)) HG.out)
 have H2 : Aside0 (Nd w2 N1 ⟨#[]⟩ 0 ⟨#[48]⟩ (.pointer (some ⟨N2, 0, none⟩)) (.slice none 0 0)) := ⟨by rw [hw2]; exact HR1.out.al _⟩
 have HK2 : Aside0 (Nd w2 wr.heap.size ⟨#[]⟩ 0 ⟨#[]⟩ (.pointer none) (.slice none 0 0)) := ⟨by rw [hw2]; exact Nd.nw wr⟩
 have HS2 : Aside0 (w2.heap.size = wr.heap.size + 1) := ⟨by rw [hw2]; simp⟩
 obtain ⟨N3, hN3⟩ : ∃ x, x = wr.heap.size := ⟨_, rfl⟩
 rw [← hN3] at HK2 HS2 HLR HB2 HSR ⊢
 clear hw2 hN3 c2 c3 HG2
 have c5 := HM2.out.c5
 have hmk : ∀ W : World, (Instr.makeSlice 86 (.int .i64 3) (.int .i64 3)).run Tryd.prog W = .ok (.slice (some ⟨W.heap.size, 0, none⟩) 3 3) (W.alloc (.cells #[.pointer none, .pointer none, .pointer none] 85)) := fun _ => by kernel_rfl
 have d4 : ∀ o, (w2.alloc o).cell? ⟨N1, 4, none⟩ = some (.slice none 0 0) := fun o => (H2.out.al o).k4
 have z4 : ∀ o, (w2.alloc o).frozen? ⟨N1, 4, none⟩ = false := fun o => (H2.out.al o).z 4
 go_upto_region 18 with (fail)
 obtain ⟨w3, hw3⟩ : ∃ x, x = (w2.alloc (.cells #[.pointer none, .pointer none, .pointer none] 85)).setCell ⟨N1, 4, none⟩ (.slice (some ⟨w2.heap.size, 0, none⟩) 3 3) := ⟨_, rfl⟩
 rw [← hw3]
 have HNT : Aside0 (N1 < w2.heap.size ∧ N3 < w2.heap.size ∧ N1 ≠ N3) := ⟨⟨H2.out.lt, by rw [HS2.out]; exact Nat.lt_succ_self _, Nat.ne_of_lt HLR.out⟩⟩
 have HF3 : Aside0 (∀ j, j < w.heap.size → j ≠ N1 → w3.heap[j]? = w.heap[j]?) := ⟨fun j hj hne => by
  rw [hw3]
  refine (Below.heap_setCell _ ⟨N1, 4, none⟩ _ j hne).trans ?_
  refine (Below.heap_alloc w2 _ j (by rw [HS2.out, HSR.out]; omega)).trans ?_
  exact (HB2.out N3 (Nat.le_refl _)).block j (by rw [HSR.out]; exact hj)⟩
 have HB3 : Aside0 (Below N1 w w3) := ⟨by rw [hw3]; exact ((HB2.out N1 (Nat.le_of_lt HLR.out)).alloc (Nat.le_of_lt HNT.out.1) _).setCell (p := ⟨N1, 4, none⟩) (Nat.le_refl _) _⟩
 have HM3 := aM (HM.out.later HB3.out HG.out)
 have H3 : Aside0 (Nd w3 N1 ⟨#[]⟩ 0 ⟨#[48]⟩ (.pointer (some ⟨N2, 0, none⟩)) (.slice (some ⟨w2.heap.size, 0, none⟩) 3 3)) := ⟨by rw [hw3]; exact (H2.out.al _).s4 _⟩
 have HK3 : Aside0 (Nd w3 N3 ⟨#[]⟩ 0 ⟨#[]⟩ (.pointer none) (.slice none 0 0)) := ⟨by rw [hw3]; exact (HK2.out.al _).ft (Ne.symm HNT.out.2.2) _⟩
 have HT3 : Aside0 (w3.heap[w2.heap.size]? = some (.cells #[.pointer none, .pointer none, .pointer none] 85 (0, 0))) := ⟨by rw [hw3]; exact blk_far (blk_new w2 _) (Ne.symm (Nat.ne_of_lt HNT.out.1)) _⟩
 have HLT : Aside0 (w.heap.size ≤ w2.heap.size ∧ w.heap.size ≤ N3) := ⟨by rw [HS2.out, ← HSR.out]; exact ⟨Nat.le_succ _, Nat.le_refl _⟩⟩
 obtain ⟨T1, hT1⟩ : ∃ x, x = w2.heap.size := ⟨_, rfl⟩
 rw [← hT1] at H3 HT3 HLT HNT
 clear hw3 hT1 c5 d4 z4 hmk
 have a2 := H3.out.k2
 have a4 := H3.out.k4
 have am : w3.cell? ⟨G, 54, none⟩ = some (.int .u8 0) := HM3.out.map 48 (by decide)
 have at0 : w3.cell? ⟨T1, 0, none⟩ = some (.pointer none) := (blk_cell HT3.out 0).trans rfl
 have zt0 : w3.frozen? ⟨T1, 0, none⟩ = false := blk_frozen HT3.out 0
 go_still_tail 16, (by kernel_rfl)
 change wpList _ _ _ _ _ w3.drew
 go_upto_region 19 with (fail)
 obtain ⟨w4, hw4⟩ : ∃ x, x = (w3.setCell ⟨T1, 0, none⟩ (.pointer (some ⟨N2, 0, none⟩))).drew := ⟨_, rfl⟩
 rw [← hw4]
 have HF4 : Aside0 (∀ j, j < w.heap.size → j ≠ N1 → w4.heap[j]? = w.heap[j]?) := ⟨fun j hj hne => by
  rw [hw4]
  exact (Below.heap_setCell w3 ⟨T1, 0, none⟩ _ j (Nat.ne_of_lt (Nat.lt_of_lt_of_le hj HLT.out.1))).trans (HF3.out j hj hne)⟩
 have HB4 : Aside0 (Below N1 w w4) := ⟨by rw [hw4]; exact (HB3.out.setCell (p := ⟨T1, 0, none⟩) (Nat.le_of_lt HNT.out.1) _).drew⟩
 have HM4 := aM (HM.out.later HB4.out HG.out)
 have H4 : Aside0 (Nd w4 N1 ⟨#[]⟩ 0 ⟨#[48]⟩ (.pointer (some ⟨N2, 0, none⟩)) (.slice (some ⟨T1, 0, none⟩) 3 3)) := ⟨by rw [hw4]; exact H3.out.ft (Nat.ne_of_lt HNT.out.1) _⟩
 have HK4 : Aside0 (Nd w4 N3 ⟨#[]⟩ 0 ⟨#[]⟩ (.pointer none) (.slice none 0 0)) := ⟨by rw [hw4]; exact HK3.out.ft (Nat.ne_of_lt HNT.out.2.1) _⟩
 have HT4 : Aside0 (w4.heap[T1]? = some (.cells #[.pointer (some ⟨N2, 0, none⟩), .pointer none, .pointer none] 85 (0, 0))) := ⟨by rw [hw4]; exact blk_put HT3.out 0 _ rfl⟩
 clear hw4 a2 a4 am at0 zt0
 have a4 := H4.out.k4
 have am : w4.cell? ⟨G, 55, none⟩ = some (.int .u8 1) := HM4.out.map 49 (by decide)
 have at1 : w4.cell? ⟨T1, 1, none⟩ = some (.pointer none) := (blk_cell HT4.out 1).trans rfl
 have zt1 : w4.frozen? ⟨T1, 1, none⟩ = false := blk_frozen HT4.out 1
 go_still_tail 13, (by kernel_rfl)
 change wpList _ _ _ _ _ w4.drew
 go_upto_region 20 with (fail)
 obtain ⟨w5, hw5⟩ : ∃ x, x = (w4.setCell ⟨T1, 1, none⟩ (.pointer (some ⟨N3, 0, none⟩))).drew := ⟨_, rfl⟩
 rw [← hw5]
 have HF5 : Aside0 (∀ j, j < w.heap.size → j ≠ N1 → w5.heap[j]? = w.heap[j]?) := ⟨fun j hj hne => by
  rw [hw5]
  exact (Below.heap_setCell w4 ⟨T1, 1, none⟩ _ j (Nat.ne_of_lt (Nat.lt_of_lt_of_le hj HLT.out.1))).trans (HF4.out j hj hne)⟩
 have HB5 : Aside0 (Below N1 w w5) := ⟨by rw [hw5]; exact (HB4.out.setCell (p := ⟨T1, 1, none⟩) (Nat.le_of_lt HNT.out.1) _).drew⟩
 have H5 : Aside0 (Nd w5 N1 ⟨#[]⟩ 0 ⟨#[48]⟩ (.pointer (some ⟨N2, 0, none⟩)) (.slice (some ⟨T1, 0, none⟩) 3 3)) := ⟨by rw [hw5]; exact H4.out.ft (Nat.ne_of_lt HNT.out.1) _⟩
 have HK5 : Aside0 (Nd w5 N3 ⟨#[]⟩ 0 ⟨#[]⟩ (.pointer none) (.slice none 0 0)) := ⟨by rw [hw5]; exact HK4.out.ft (Nat.ne_of_lt HNT.out.2.1) _⟩
 have HT5 : Aside0 (w5.heap[T1]? = some (.cells #[.pointer (some ⟨N2, 0, none⟩), .pointer (some ⟨N3, 0, none⟩), .pointer none] 85 (0, 0))) := ⟨by rw [hw5]; exact blk_put HT4.out 1 _ rfl⟩
 clear hw5 a4 am at1 zt1
 have a2 := H5.out.k2
 have z2 := H5.out.z 2
 have a3 : ∀ v, (w5.setCell ⟨N1, 2, none⟩ (.string v)).cell? ⟨N1, 3, none⟩ = some (.pointer (some ⟨N2, 0, none⟩)) := fun v => (H5.out.s2 v).k3
 have z3 : ∀ v, (w5.setCell ⟨N1, 2, none⟩ (.string v)).frozen? ⟨N1, 3, none⟩ = false := fun v => (H5.out.s2 v).z 3
 have ex := ex0
 go_upto_region 22 with (fail)
 obtain ⟨w6, hw6⟩ : ∃ x, x = (w5.setCell ⟨N1, 2, none⟩ (.string ⟨#[]⟩)).setCell ⟨N1, 3, none⟩ (.pointer none) := ⟨_, rfl⟩
 rw [← hw6]
 have HF6 : Aside0 (∀ j, j < w.heap.size → j ≠ N1 → w6.heap[j]? = w.heap[j]?) := ⟨fun j hj hne => by
  rw [hw6]
  exact (Below.heap_setCell _ ⟨N1, 3, none⟩ _ j hne).trans ((Below.heap_setCell w5 ⟨N1, 2, none⟩ _ j hne).trans (HF5.out j hj hne))⟩
 have HB6 : Aside0 (Below N1 w w6) := ⟨by rw [hw6]; exact (HB5.out.setCell (p := ⟨N1, 2, none⟩) (Nat.le_refl _) _).setCell (p := ⟨N1, 3, none⟩) (Nat.le_refl _) _⟩
 have H6 : Aside0 (Nd w6 N1 ⟨#[]⟩ 0 ⟨#[]⟩ (.pointer none) (.slice (some ⟨T1, 0, none⟩) 3 3)) := ⟨by rw [hw6]; exact (H5.out.s2 _).s3 _⟩
 have HK6 : Aside0 (Nd w6 N3 ⟨#[]⟩ 0 ⟨#[]⟩ (.pointer none) (.slice none 0 0)) := ⟨by rw [hw6]; exact (HK5.out.ft (Ne.symm HNT.out.2.2) _).ft (Ne.symm HNT.out.2.2) _⟩
 have HT6 : Aside0 (w6.heap[T1]? = some (.cells #[.pointer (some ⟨N2, 0, none⟩), .pointer (some ⟨N3, 0, none⟩), .pointer none] 85 (0, 0))) := ⟨by rw [hw6]; exact blk_far (blk_far HT5.out (Ne.symm (Nat.ne_of_lt HNT.out.1)) _) (Ne.symm (Nat.ne_of_lt HNT.out.1)) _⟩
 clear hw6 a2 z2 a3 z3
 go_wp2_with (go_at_call 47; go_loud (rw [show ByteArray.empty = (⟨#[]⟩ : ByteArray) from rfl]; (with_reducible refine (add_leaf N3 G v p _ _ _ _ HK6.out).mono ?_); rintro e w7 ⟨rfl, h7, hb, hf⟩; have HT7 := aM ((hf T1 (Nat.ne_of_gt HNT.out.2.1)).trans HT6.out); clear hf; have HK7 := aM h7; have HN7 := aM (H6.out.bl hb HLR.out); have HB7 := aM hb; clear h7 hb))
 go_end0
 exact ⟨rfl, ⟨T1, N3, HLT.out.2, HLT.out.1, HN7.out, HT7.out, HK7.out⟩, fun j hj hne => (HB7.out.block j (Nat.lt_of_lt_of_le hj HLT.out.2)).trans (HF6.out j hj hne), HB6.out.trans (HB7.out.mono (Nat.le_of_lt HLR.out))⟩
end Go.Proofs.YtdlkmnohmdnogaaDoor.Gna
end

section
namespace Go.Proofs.YtdlkmnohmdnogaaDoor.Gnb
set_option linter.unusedVariables false
set_option linter.unusedSimpArgs false
open Go.RowKit Go.Lib Go.Proofs.YtdlkmnohmdnogaaDoorW.PrintWords Go.Proofs.YtdlkmnohmdnogaaDoorW.PrintLast Go.Proofs.YtdlkmnohmdnogaaDoorW.PrintMore Go.Proofs.YtdlkmnohmdnogaaDoor.Pre Go.Proofs.YtdlkmnohmdnogaaDoor.Gna
set_option maxHeartbeats 2000000 in
set_option maxRecDepth 100000 in
theorem add_two (G T0 N1 N2 : Nat) (v : ByteArray) (p : Int) (w : World) (hM : IsM w G T0) (hGN : G < N1) (hTN : T0 < N1)
  (hT : w.heap[T0]? = some (.cells #[.pointer none, .pointer none, .pointer (some ⟨N1, 0, none⟩)] 85 (0, 0))) (h1 : Nd w N1 ⟨#[]⟩ 0 ⟨#[48]⟩ (.pointer (some ⟨N2, 0, none⟩)) (.slice none 0 0)) :
  Calls Tryd.prog 47 #[.pointer (some ⟨G, 0, none⟩), .string ⟨#[126, 49]⟩, .string v, .int .i64 p, .pointer (some ⟨G, 0, none⟩)] w fun e w' => e = .returned (.tuple #[]) ∧
   (∃ T1 N3, w.heap.size ≤ N3 ∧ w.heap.size ≤ T1 ∧ Nd w' N1 ⟨#[]⟩ 0 ⟨#[]⟩ (.pointer none) (.slice (some ⟨T1, 0, none⟩) 3 3) ∧ w'.heap[T1]? = some (.cells #[.pointer (some ⟨N2, 0, none⟩), .pointer (some ⟨N3, 0, none⟩), .pointer none] 85 (0, 0)) ∧ Nd w' N3 v p ⟨#[]⟩ (.pointer none) (.slice none 0 0)) ∧ (∀ j, j < w.heap.size → j ≠ N1 → w'.heap[j]? = w.heap[j]?) ∧ Below N1 w w' := by
 have HM := aM hM
 have HT := aM hT
 have H1 := aM h1
 have HG := aM hGN
 have HTN := aM hTN
 have c2 := hM.c2
 have c4 := hM.c4
 have cm : w.cell? ⟨G, 132, none⟩ = some (.int .u8 2) := hM.map 126 (by decide)
 have e126 : ∀ h, ((⟨#[126, 49]⟩ : ByteArray)[0]'h).toNat = 126 := fun _ => rfl
 have ex := ex49
 clear hM hT h1 hGN hTN
 go_enter Tryd.func47, Tryd.ntmps47
 go_upto_region 28 with (fail)
 go_quiet (fail)
 obtain ⟨wr, hwr⟩ : ∃ x, x = w.drewN nq := ⟨_, rfl⟩
 rw [← hwr]
 have HBR : Aside0 (∀ B, Below B w wr) := ⟨fun B => by rw [hwr]; exact drewN_below _ _ _⟩
 have HSR : Aside0 (wr.heap.size = w.heap.size) := ⟨by rw [hwr]; rfl⟩
 have HMR := aM (HM.out.later (HBR.out N1) HG.out)
 have HTR : Aside0 (wr.heap[T0]? = some (.cells #[.pointer none, .pointer none, .pointer (some ⟨N1, 0, none⟩)] 85 (0, 0))) := ⟨by rw [hwr]; exact HT.out⟩
 have HR1 : Aside0 (Nd wr N1 ⟨#[]⟩ 0 ⟨#[48]⟩ (.pointer (some ⟨N2, 0, none⟩)) (.slice none 0 0)) := ⟨by rw [hwr]; exact H1.out⟩
 clear hwr c2 c4 cm
 have c4 := HMR.out.c4
 have ct : wr.cell? ⟨T0, 2, none⟩ = some (.pointer (some ⟨N1, 0, none⟩)) := (blk_cell HTR.out 2).trans rfl
 go_upto_region 31 with (fail)
 go_still_tail 12, (by kernel_rfl)
 change wpList _ _ _ _ _ wr.drew
 obtain ⟨w3, hw3⟩ : ∃ x, x = wr.drew := ⟨_, rfl⟩
 rw [← hw3]
 have HB3 : Aside0 (∀ B, Below B w w3) := ⟨fun B => by rw [hw3]; exact (HBR.out B).drew⟩
 have HS3 : Aside0 (w3.heap.size = w.heap.size) := ⟨by rw [hw3]; exact HSR.out⟩
 have H3 : Aside0 (Nd w3 N1 ⟨#[]⟩ 0 ⟨#[48]⟩ (.pointer (some ⟨N2, 0, none⟩)) (.slice none 0 0)) := ⟨by rw [hw3]; exact HR1.out⟩
 have HM3 := aM (HM.out.later (HB3.out N1) HG.out)
 clear hw3 c4 ct
 go_wp2_with (go_at_call 47; go_loud ((with_reducible refine (add_fork G T0 N1 N2 v p _ HM3.out HG.out H3.out).mono ?_); rintro e w4 ⟨rfl, hx, hf, hb⟩; rw [HS3.out] at hx hf; have HX := aM hx; have HF := aM hf; have HB4 := aM hb; clear hx hf hb))
 first | go_end0 | (simp only [Exit.inBlock, Exit.then]; refine bodyPost_ret (results_none rfl _ _ _) rfl ?_) | refine bodyPost_ret (results_none rfl _ _ _) rfl ?_
 exact ⟨rfl, HX.out, fun j hj hne => (HF.out j hj hne).trans ((HB3.out w.heap.size).block j hj), (HB3.out N1).trans HB4.out⟩
end Go.Proofs.YtdlkmnohmdnogaaDoor.Gnb
end
