/- Several texts in one: what the claim's last text rests on. No conditions. -/
import Derived.Test.YtdlkmnohmdnogaaDoorMDp10
import Derived.Deep.WholeRow
import Derived.Laws.Tables
import Derived.WalkLawsBesides
import Derived.WalkSpells
import Derived.Lib.BufferMore
import Derived.Deep.Light
import Derived.Lib.AppendZeros
import Derived.ArgAppend
section
namespace Go.Proofs.YtdlkmnohmdnogaaDoor.Bld
set_option linter.unusedVariables false
set_option linter.unusedSimpArgs false
open Go.RowKit Go.Lib Go.Proofs.YtdlkmnohmdnogaaDoorW.PrintWords Go.Proofs.YtdlkmnohmdnogaaDoorW.PrintLast Go.Proofs.YtdlkmnohmdnogaaDoorW.PrintMore
/-- The cells of a fresh byteStringReplacer. -/
def zs : Array Value := Array.replicate 257 (.slice none 0 0)
theorem zero_run (w : World) : (zeroValue 74).run Tryd.prog w = .ok (.agg zs) w := (zero_of_info (P := Tryd.prog) (t := 74) (v := .agg zs) (n := 257) (by kernel_rfl)).1 w
theorem zero_size : (Tryd.prog.info? 74).map (·.size) = some 257 := (zero_of_info (P := Tryd.prog) (t := 74) (v := .agg zs) (n := 257) (by kernel_rfl)).2
theorem build_run (a : Option Addr) (n c : Nat) (w : World) : (Instr.build 74 #[(1, .slice a n c)]).run Tryd.prog w = .ok (.agg (zs.setIfInBounds 256 (.slice a n c))) w :=
 run_build w _ _ _ (by kernel_rfl)
theorem zs_one (v : Value) (hv : v.oneCell' = true) (i : Nat) : (zs.setIfInBounds i v).all (·.oneCell') = true := by
 rw [Array.all_eq_true]
 intro j hj
 have hj2 : j < zs.size := by simpa using hj
 rw [Array.getElem_setIfInBounds hj2]
 split
 ·exact hv
 ·have h1 : j < zs.size := by simpa using hj
  have h2 : zs[j]'h1 = .slice none 0 0 := by
   have h3 : zs[j]? = some (.slice none 0 0) := by
    have : j < 257 := by simpa [zs] using h1
    simp [zs, this]
   rw [Array.getElem?_eq_getElem h1] at h3
   exact Option.some.inj h3
  rw [h2]
  rfl
theorem zs_size : zs.size = 257 := by simp [zs]
theorem zs_get (i : Nat) (h : i < 257) : zs[i]? = some (.slice none 0 0) := by simp [zs, h]

theorem store_run (w : World) (o : Obj) (a : Option Addr) (n c : Nat) : (storeCells ⟨w.heap.size + 1, 0, none⟩ (zs.toList.set 256 (.slice a n c))).run Tryd.prog ((w.alloc o).alloc (.cells zs 74)) = .ok () ((w.alloc o).alloc (.cells (zs.setIfInBounds 256 (.slice a n c)) 74)) := by
 have h := run_storeCells_new (P := Tryd.prog) (w.alloc o) 74 zs (zs.setIfInBounds 256 (.slice a n c)) (by rw [zero_size, Array.size_setIfInBounds, zs_size]) (by simp) (zs_one _ rfl _)
 rw [Array.toList_setIfInBounds] at h
 have hs : (w.alloc o).heap.size = w.heap.size + 1 := by simp
 rw [hs] at h
 exact h
/-- A byteStringReplacer of '/' by "~1" and of '~' by "~0". -/
structure IsR (w : World) (R T c1 c2 k1 k2 : Nat) : Prop where
 no : ∀ i, i < 256 → i ≠ 47 → i ≠ 126 → w.cell? ⟨R, i, none⟩ = some (.slice none 0 0)
 sl : w.cell? ⟨R, 47, none⟩ = some (.slice (some ⟨c1, 0, none⟩) 2 k1)
 ti : w.cell? ⟨R, 126, none⟩ = some (.slice (some ⟨c2, 0, none⟩) 2 k2)
 li : w.cell? ⟨R, 256, none⟩ = some (.slice (some ⟨T, 0, none⟩) 2 2)
 t0 : w.cell? ⟨T, 0, none⟩ = some (.string ⟨#[47]⟩)
 t1 : w.cell? ⟨T, 1, none⟩ = some (.string ⟨#[126]⟩)
 a0 : w.cell? ⟨c1, 0, none⟩ = some (.int .u8 126)
 a1 : w.cell? ⟨c1, 1, none⟩ = some (.int .u8 49)
 b0 : w.cell? ⟨c2, 0, none⟩ = some (.int .u8 126)
 b1 : w.cell? ⟨c2, 1, none⟩ = some (.int .u8 48)
theorem IsR.later {w w' : World} {R T c1 c2 k1 k2 : Nat} (h : IsR w R T c1 c2 k1 k2) (hb : Below w.heap.size w w') : IsR w' R T c1 c2 k1 k2 := by
 have k : ∀ {a v}, w.cell? a = some v → w'.cell? a = some v := fun {a v} e => (hb.cell (World.block_lt_of_cell? w _ e)).trans e
 exact ⟨fun i h0 h1 h2 => k (h.no i h0 h1 h2), k h.sl, k h.ti, k h.li, k h.t0, k h.t1, k h.a0, k h.a1, k h.b0, k h.b1⟩
set_option maxRecDepth 100000 in
theorem app_run (W : World) (T g n : Nat) (s : ByteArray) (xs : Array Value) (hxs : xs.size = 2) (hn : n < 2) (hT : W.heap[T]? = some (.cells xs 9 (0, 0))) (hg : W.cell? ⟨g, 0, none⟩ = some (.string s)) :
  (Builtin.append_ #[22, 22] 22 #[.slice (some ⟨T, 0, none⟩) n 2, .slice (some ⟨g, 0, none⟩) 1 1]).run Tryd.prog W = .ok (.slice (some ⟨T, 0, none⟩) (n + 1) 2) (W.setCell ⟨T, n, none⟩ (.string s)) := by
 have hm : (Tryd.prog.info? 9).map (·.size) = some 1 := by kernel_rfl
 obtain ⟨i, hi, hs1⟩ := Option.map_eq_some_iff.1 hm
 have h := run_append_room (P := Tryd.prog) W 22 22 9 i Tryd.underlying22 hi T n 2 xs hT ⟨g, 0, none⟩ 1 1 [.string s] (by simp [hs1]) (by
  intro j u hu
  obtain rfl : j = 0 := by
   have := (List.getElem?_eq_some_iff.1 hu).1
   simpa using this
  injection hu with hu
  subst hu
  exact hg) (by intro u hu; rw [List.mem_singleton.1 hu]; rfl) (by omega) (by simp [hs1]; omega)
 rw [hs1] at h
 rw [h, setCell_eq_setRow W T n xs _ _ _ hT]
 congr 2
 apply Array.ext'
 rcases xs with ⟨l⟩
 match l, hxs with
 | [a, b], _ => rcases (show n = 0 ∨ n = 1 by omega) with rfl | rfl <;> rfl
theorem cell_new2 (w : World) (o : Obj) (s : Value) : ((w.alloc o).alloc (.cells #[s] 9)).cell? ⟨w.heap.size + 1, 0, none⟩ = some s := by
 have h := blk_new (w.alloc o) (.cells #[s] 9)
 have hs : (w.alloc o).heap.size = w.heap.size + 1 := by simp
 rw [hs] at h
 exact (blk_cell h 0).trans rfl
theorem blk_in {w w' : World} {g : Nat} {o : Obj} (e : w' = w) (h : w.heap[g]? = some o) : w'.heap[g]? = some o := e ▸ h
theorem below_in {w0 w w' : World} {B : Nat} (e : w' = w) (h : Below B w0 w) : Below B w0 w' := e ▸ h
theorem put_twice (i : Nat) (u v : Value) : (zs.setIfInBounds i u).setIfInBounds i v = zs.setIfInBounds i v := by
 apply Array.ext_getElem?
 intro j
 rw [Array.getElem?_setIfInBounds, Array.getElem?_setIfInBounds, Array.getElem?_setIfInBounds]
 split <;> simp_all
theorem get_ne (i j : Nat) (v : Value) (h : j ≠ i := by decide) (hi : i < 257 := by decide) : (zs.setIfInBounds j v)[i]? = some (.slice none 0 0) := by
 rw [Array.getElem?_setIfInBounds_ne h]
 exact zs_get i hi
theorem bytesRow_at (s : ByteArray) (k j : Nat) (hj : j < s.size) : (bytesRow s k)[j]? = some (.int .u8 (s.data.toList.getD j 0).toNat) := by
 unfold bytesRow
 simp [Array.getElem?_append, List.getD, hj]
theorem keep_set {w : World} {g : Nat} {o : Obj} (h : w.heap[g]? = some o) {p : Addr} (hne : g ≠ p.block) (v : Value) : (w.setCell p v).heap[g]? = some o := (Below.heap_setCell w p v g hne).trans h
theorem get_at (i : Nat) (v : Value) (h : i < 257 := by decide) : (zs.setIfInBounds i v)[i]? = some v := by
 rw [Array.getElem?_setIfInBounds_self_of_lt (by rw [zs_size]; exact h)]
set_option maxRecDepth 100000 in
set_option maxHeartbeats 2000000 in
theorem build_calls (b k cc : Nat) (w : World) (hb : w.cell? ⟨b, 4, none⟩ = some (.slice (some ⟨k, 0, none⟩) 4 cc))
  (h0 : w.cell? ⟨k, 0, none⟩ = some (.string ⟨#[126]⟩)) (h1 : w.cell? ⟨k, 1, none⟩ = some (.string ⟨#[126, 48]⟩)) (h2 : w.cell? ⟨k, 2, none⟩ = some (.string ⟨#[47]⟩)) (h3 : w.cell? ⟨k, 3, none⟩ = some (.string ⟨#[126, 49]⟩)) :
  Calls Tryd.prog 26 #[.pointer (some ⟨b, 0, none⟩)] w fun e w' => ∃ R T c1 c2 k1 k2, e = .returned (.iface 75 (.pointer (some ⟨R, 0, none⟩))) ∧ IsR w' R T c1 c2 k1 k2 ∧ (w.heap.size ≤ R ∧ w.heap.size ≤ T ∧ w.heap.size ≤ c1 ∧ w.heap.size ≤ c2) ∧ Below w.heap.size w w' := by
 have hz := zero_run
 have hmk : ∀ w : World, (Instr.makeSlice 22 (.int .i64 0) (.int .i64 2)).run Tryd.prog w = .ok (.slice (some ⟨w.heap.size, 0, none⟩) 0 2) (w.alloc (.cells #[.string ⟨#[]⟩, .string ⟨#[]⟩] 9)) := fun _ => by kernel_rfl
 have hbd := build_run
 have hst := store_run
 go_enter Tryd.func26, Tryd.ntmps26
 go_wp2
 refine wp_loop_rounds 3 ?_
 rw [rounds_succ]
 go_wp2
 rw [rounds_succ]
 go_wp2
 rw [rounds_succ]
 go_wp2
 obtain ⟨w2, hw2⟩ : ∃ x, x = (w.alloc (.cells #[.string ⟨#[]⟩, .string ⟨#[]⟩] 9)).alloc (.cells (zs.setIfInBounds 256 (.slice (some ⟨w.heap.size, 0, none⟩) 0 2)) 74) := ⟨_, rfl⟩
 rw [← hw2]
 have HB2 : Aside0 (Below w.heap.size w w2) := ⟨by rw [hw2]; exact below_alloc (below_alloc (Below.refl _ _) _) _⟩
 have HT2 : Aside0 (w2.heap[w.heap.size]? = some (.cells #[.string ⟨#[]⟩, .string ⟨#[]⟩] 9 (0, 0))) := ⟨by rw [hw2]; exact blk_alloc (blk_new w _) _⟩
 have HR2 : Aside0 (w2.heap[w.heap.size + 1]? = some (.cells (zs.setIfInBounds 256 (.slice (some ⟨w.heap.size, 0, none⟩) 0 2)) 74 (0, 0))) := ⟨by
  rw [hw2]
  have h := blk_new (w.alloc (.cells #[.string ⟨#[]⟩, .string ⟨#[]⟩] 9)) (.cells (zs.setIfInBounds 256 (.slice (some ⟨w.heap.size, 0, none⟩) 0 2)) 74)
  have hs : (w.alloc (.cells #[.string ⟨#[]⟩, .string ⟨#[]⟩] 9)).heap.size = w.heap.size + 1 := by simp
  rw [hs] at h
  exact h⟩
 have HS2 : Aside0 (w2.heap.size = w.heap.size + 2) := ⟨by rw [hw2]; simp⟩
 obtain ⟨R, hR⟩ : ∃ R, R = w.heap.size + 1 := ⟨_, rfl⟩
 obtain ⟨T, hT⟩ : ∃ T, T = w.heap.size := ⟨_, rfl⟩
 rw [← hR, ← hT] at HR2
 rw [← hT] at HT2
 rw [← hR]
 have HRR := aM hR
 have HTT := aM hT
 have H0 := aM h0
 have H1 := aM h1
 have H2 := aM h2
 have H3 := aM h3
 have HNE : Aside0 (R ≠ T) := ⟨by omega⟩
 have HTL : Aside0 (w.heap.size ≤ T) := ⟨by omega⟩
 have HRL : Aside0 (w.heap.size ≤ R) := ⟨by omega⟩
 clear hR hT hw2 hb h0 h1 h2 h3
 have hk2 := (HB2.out.cell (World.block_lt_of_cell? w _ H2.out)).trans H2.out
 have hk3 := (HB2.out.cell (World.block_lt_of_cell? w _ H3.out)).trans H3.out
 have hr47 : w2.cell? ⟨R, 47, none⟩ = some (.slice none 0 0) := (blk_cell HR2.out 47).trans (by rw [Array.getElem?_setIfInBounds_ne (by decide)]; exact zs_get 47 (by decide))
 have hr256 : w2.cell? ⟨R, 256, none⟩ = some (.slice (some ⟨T, 0, none⟩) 0 2) := (blk_cell HR2.out 256).trans (by rw [Array.getElem?_setIfInBounds_self_of_lt (by rw [zs_size]; decide)])
 have e47 : ∀ h, ((⟨#[47]⟩ : ByteArray)[0]'h).toNat = 47 := fun _ => rfl
 have e126 : ∀ h, ((⟨#[126]⟩ : ByteArray)[0]'h).toNat = 126 := fun _ => rfl
 have hcb : ∀ W : World, (convert 33 9 (.slice (some ⟨W.heap.size, 0, none⟩) 1 1)).run Tryd.prog (W.alloc (.cells #[.int .u8 47] 5)) = .ok (.string ⟨#[47]⟩) (W.alloc (.cells #[.int .u8 47] 5)) := fun W =>
  run_convert_bytes_back _ _ _ 5 ⟨W.heap.size, 0, none⟩ 1 [47] Tryd.underlying33 Tryd.underlying5 Tryd.underlying9 (by
   intro j hj
   obtain rfl : j = 0 := by simpa using hj
   exact (blk_cell (blk_new W _) 0).trans rfl)
 have hcb2 : ∀ W : World, (convert 33 9 (.slice (some ⟨W.heap.size, 0, none⟩) 1 1)).run Tryd.prog (W.alloc (.cells #[.int .u8 126] 5)) = .ok (.string ⟨#[126]⟩) (W.alloc (.cells #[.int .u8 126] 5)) := fun W =>
  run_convert_bytes_back _ _ _ 5 ⟨W.heap.size, 0, none⟩ 1 [126] Tryd.underlying33 Tryd.underlying5 Tryd.underlying9 (by
   intro j hj
   obtain rfl : j = 0 := by simpa using hj
   exact (blk_cell (blk_new W _) 0).trans rfl)
 have hbs := fun (W : World) (s : ByteArray) => run_bytes_of_string (P := Tryd.prog) W 9 33 5 s Tryd.underlying9 Tryd.underlying33 Tryd.underlying5
 have heq := fun (w : World) => Lib.run_eql_slice_nil w 33 5 none 0 0 0 0 Tryd.underlying33
 refine wp_loop_rounds 3 ?_
 rw [rounds_succ]
 go_upto_region 34 with (((with_reducible refine gate_builtin (b := .append) (xs := #[.tmp 119, .tmp 123]) rfl ?_); at_builtin; go_loud (refine Lib.wpList_append_run _ rfl (.tmp 119) (.tmp 123) 22 22 rfl _ _ rfl rfl _ _ (app_run _ T (w2.heap.size + 1) 0 ⟨#[47]⟩ #[.string ⟨#[]⟩, .string ⟨#[]⟩] rfl (by decide) (blk_alloc (blk_alloc HT2.out _) _) (cell_new2 _ _ _)) ?_; obtain ⟨w3, hw3⟩ : ∃ x, x = ((w2.alloc (.cells #[.int .u8 47] 5)).alloc (.cells #[.string ⟨#[47]⟩] 9)).setCell ⟨T, 0, none⟩ (.string ⟨#[47]⟩) := ⟨_, rfl⟩; rw [← hw3]; have HT3 := aM (blk_in hw3 (blk_put (blk_alloc (blk_alloc HT2.out _) _) 0 _ rfl)); have HR3 := aM (blk_in hw3 (blk_far (blk_alloc (blk_alloc HR2.out _) _) (HNE.out) _)); have HB3 := aM (below_in hw3 (below_set (below_alloc (below_alloc HB2.out _) _) HTL.out)); clear hw3; have cr3 := (blk_cell HR3.out 256).trans (get_at 256 _); have fr3 := blk_frozen HR3.out 256)))
 obtain ⟨w4, hw4⟩ : ∃ x, x = w3.setCell ⟨R, 256, none⟩ (.slice (some ⟨T, 0, none⟩) 1 2) := ⟨_, rfl⟩
 rw [← hw4]
 have HT4 := aM (blk_in hw4 (blk_far HT3.out (Ne.symm HNE.out) _))
 have HR4 := aM (blk_in hw4 (blk_set HR3.out 256 _))
 have HB4 := aM (below_in hw4 (below_set HB3.out HRL.out))
 rw [put_twice] at HR4
 clear hw4 cr3 fr3 hk2 hk3 hr47 hr256
 have cr4 : ∀ o, (w4.alloc o).cell? ⟨R, 47, none⟩ = some (.slice none 0 0) := fun o => (blk_cell (blk_alloc HR4.out o) 47).trans (get_ne 47 256 _)
 have fr4 : ∀ o, (w4.alloc o).frozen? ⟨R, 47, none⟩ = false := fun o => blk_frozen (blk_alloc HR4.out o) 47
 go_wp2
 obtain ⟨k1, hk1⟩ : ∃ x, x = grownCap w4 2 0 5 := ⟨_, rfl⟩
 rw [← hk1]
 obtain ⟨w5, hw5⟩ : ∃ x, x = ((w4.alloc (.cells (bytesRow ⟨#[126, 49]⟩ k1) 5 ((bytesRow ⟨#[126, 49]⟩ k1).size, (bytesRow ⟨#[126, 49]⟩ k1).size + 1))).setCell ⟨R, 47, none⟩ (.slice (some ⟨w4.heap.size, 0, none⟩) 2 k1)).drew := ⟨_, rfl⟩
 rw [← hw5]
 have HT5 := aM (blk_in hw5 (blk_drew (blk_far (blk_alloc HT4.out _) (Ne.symm HNE.out) _)))
 have HR5 := aM (blk_in hw5 (blk_drew (blk_set (blk_alloc HR4.out _) 47 _)))
 have HB5 := aM (below_in hw5 (below_drew (below_set (below_alloc HB4.out _) HRL.out)))
 have hne5 : R ≠ w4.heap.size := Nat.ne_of_lt (blk_lt HR4.out)
 have hnt5 : T ≠ w4.heap.size := Nat.ne_of_lt (blk_lt HT4.out)
 have HC5 := aM (blk_in hw5 (blk_drew (keep_set (blk_new w4 _) (Ne.symm hne5) _)))
 obtain ⟨c1, hc1⟩ : ∃ x, x = w4.heap.size := ⟨_, rfl⟩
 rw [← hc1] at HC5 HR5 hne5 hnt5
 have HN5 := aM hne5
 have HM5 := aM hnt5
 have HC1 : Aside0 (w.heap.size ≤ c1) := ⟨by rw [hc1]; exact HB4.out.size⟩
 clear hw5 cr4 fr4 hk1 hc1 hne5 hnt5
 have hk0 := (HB5.out.cell (World.block_lt_of_cell? w _ H0.out)).trans H0.out
 have hk1 := (HB5.out.cell (World.block_lt_of_cell? w _ H1.out)).trans H1.out
 have hr126 : w5.cell? ⟨R, 126, none⟩ = some (.slice none 0 0) := (blk_cell HR5.out 126).trans ((Array.getElem?_setIfInBounds_ne (by decide)).trans (get_ne 126 256 _))
 have hr256 : w5.cell? ⟨R, 256, none⟩ = some (.slice (some ⟨T, 0, none⟩) 1 2) := (blk_cell HR5.out 256).trans ((Array.getElem?_setIfInBounds_ne (by decide)).trans (get_at 256 _))
 rw [rounds_succ]
 go_upto_region 34 with (((with_reducible refine gate_builtin (b := .append) (xs := #[.tmp 119, .tmp 123]) rfl ?_); at_builtin; go_loud (refine Lib.wpList_append_run _ rfl (.tmp 119) (.tmp 123) 22 22 rfl _ _ rfl rfl _ _ (app_run _ T (w5.heap.size + 1) 1 ⟨#[126]⟩ _ rfl (by decide) (blk_alloc (blk_alloc HT5.out _) _) (cell_new2 _ _ _)) ?_; obtain ⟨w6, hw6⟩ : ∃ x, x = ((w5.alloc (.cells #[.int .u8 126] 5)).alloc (.cells #[.string ⟨#[126]⟩] 9)).setCell ⟨T, 1, none⟩ (.string ⟨#[126]⟩) := ⟨_, rfl⟩; rw [← hw6]; have HT6 := aM (blk_in hw6 (blk_put (blk_alloc (blk_alloc HT5.out _) _) 1 _ rfl)); have HR6 := aM (blk_in hw6 (blk_far (blk_alloc (blk_alloc HR5.out _) _) (HNE.out) _)); have HC6 := aM (blk_in hw6 (keep_set (blk_alloc (blk_alloc HC5.out _) _) (Ne.symm HM5.out) _)); have HB6 := aM (below_in hw6 (below_set (below_alloc (below_alloc HB5.out _) _) HTL.out)); clear hw6; have cr6 := (blk_cell HR6.out 256).trans ((Array.getElem?_setIfInBounds_ne (by decide)).trans (get_at 256 _)); have fr6 := blk_frozen HR6.out 256)))
 obtain ⟨w7, hw7⟩ : ∃ x, x = w6.setCell ⟨R, 256, none⟩ (.slice (some ⟨T, 0, none⟩) 2 2) := ⟨_, rfl⟩
 rw [← hw7]
 have HT7 := aM (blk_in hw7 (blk_far HT6.out (Ne.symm HNE.out) _))
 have HR7 := aM (blk_in hw7 (blk_set HR6.out 256 _))
 have HC7 := aM (blk_in hw7 (keep_set HC6.out (Ne.symm HN5.out) _))
 have HB7 := aM (below_in hw7 (below_set HB6.out HRL.out))
 clear hw7 cr6 fr6 hk0 hk1 hr126 hr256
 have cr7 : ∀ o, (w7.alloc o).cell? ⟨R, 126, none⟩ = some (.slice none 0 0) := fun o => (blk_cell (blk_alloc HR7.out o) 126).trans ((Array.getElem?_setIfInBounds_ne (by decide)).trans ((Array.getElem?_setIfInBounds_ne (by decide)).trans (get_ne 126 256 _)))
 have fr7 : ∀ o, (w7.alloc o).frozen? ⟨R, 126, none⟩ = false := fun o => blk_frozen (blk_alloc HR7.out o) 126
 go_wp2
 obtain ⟨k2, hk2⟩ : ∃ x, x = grownCap w7 2 0 5 := ⟨_, rfl⟩
 rw [← hk2]
 obtain ⟨w8, hw8⟩ : ∃ x, x = ((w7.alloc (.cells (bytesRow ⟨#[126, 48]⟩ k2) 5 ((bytesRow ⟨#[126, 48]⟩ k2).size, (bytesRow ⟨#[126, 48]⟩ k2).size + 1))).setCell ⟨R, 126, none⟩ (.slice (some ⟨w7.heap.size, 0, none⟩) 2 k2)).drew := ⟨_, rfl⟩
 rw [← hw8]
 have hne8 : R ≠ w7.heap.size := Nat.ne_of_lt (blk_lt HR7.out)
 have HT8 := aM (blk_in hw8 (blk_drew (blk_far (blk_alloc HT7.out _) (Ne.symm HNE.out) _)))
 have HR8 := aM (blk_in hw8 (blk_drew (blk_set (blk_alloc HR7.out _) 126 _)))
 have HC8 := aM (blk_in hw8 (blk_drew (keep_set (blk_alloc HC7.out _) (Ne.symm HN5.out) _)))
 have HD8 := aM (blk_in hw8 (blk_drew (keep_set (blk_new w7 _) (Ne.symm hne8) _)))
 have HB8 := aM (below_in hw8 (below_drew (below_set (below_alloc HB7.out _) HRL.out)))
 obtain ⟨c2, hc2⟩ : ∃ x, x = w7.heap.size := ⟨_, rfl⟩
 rw [← hc2] at HD8 HR8
 have HC2 : Aside0 (w.heap.size ≤ c2) := ⟨by rw [hc2]; exact HB7.out.size⟩
 clear hw8 cr7 fr7 hk2 hc2 hne8
 rw [rounds_succ]
 go_wp2
 go_ret
 refine ⟨R, T, c1, c2, k1, k2, rfl, ⟨?_, ?_, ?_, ?_, ?_, ?_, ?_, ?_, ?_, ?_⟩, ⟨HRL.out, HTL.out, HC1.out, HC2.out⟩, HB8.out⟩
 ·intro i h0 h1 h2
  refine (blk_cell HR8.out i).trans ?_
  rw [Array.getElem?_setIfInBounds_ne (by omega), Array.getElem?_setIfInBounds_ne (by omega), Array.getElem?_setIfInBounds_ne (by omega), Array.getElem?_setIfInBounds_ne (by omega)]
  exact zs_get i (by omega)
 ·refine (blk_cell HR8.out 47).trans ?_
  rw [Array.getElem?_setIfInBounds_ne (by decide), Array.getElem?_setIfInBounds_ne (by decide), Array.getElem?_setIfInBounds_self_of_lt (by rw [Array.size_setIfInBounds, zs_size]; decide)]
 ·refine (blk_cell HR8.out 126).trans ?_
  rw [Array.getElem?_setIfInBounds_self_of_lt (by simp only [Array.size_setIfInBounds]; rw [zs_size]; decide)]
 ·refine (blk_cell HR8.out 256).trans ?_
  rw [Array.getElem?_setIfInBounds_ne (by decide), Array.getElem?_setIfInBounds_self_of_lt (by simp only [Array.size_setIfInBounds]; rw [zs_size]; decide)]
 ·exact (blk_cell HT8.out 0).trans rfl
 ·exact (blk_cell HT8.out 1).trans rfl
 ·exact (cell_of_row _ c1 0 _ _ _ HC8.out).trans (bytesRow_at _ _ 0 (by decide))
 ·exact (cell_of_row _ c1 1 _ _ _ HC8.out).trans (bytesRow_at _ _ 1 (by decide))
 ·exact (cell_of_row _ c2 0 _ _ _ HD8.out).trans (bytesRow_at _ _ 0 (by decide))
 ·exact (cell_of_row _ c2 1 _ _ _ HD8.out).trans (bytesRow_at _ _ 1 (by decide))
end Go.Proofs.YtdlkmnohmdnogaaDoor.Bld
end

section
namespace Go.Proofs.YtdlkmnohmdnogaaDoor.Rep
set_option linter.unusedVariables false
set_option linter.unusedSimpArgs false
open Go.RowKit Go.Lib Go.Proofs.YtdlkmnohmdnogaaDoorW.PrintWords Go.Proofs.YtdlkmnohmdnogaaDoorW.PrintLast Go.Proofs.YtdlkmnohmdnogaaDoorW.PrintMore Go.Proofs.YtdlkmnohmdnogaaDoor.Onc Go.Proofs.YtdlkmnohmdnogaaDoor.Bld
theorem IsR.set {w : World} {R T c1 c2 k1 k2 : Nat} (h : IsR w R T c1 c2 k1 k2) {b j : Nat} (hb : b < R ∧ b < T ∧ b < c1 ∧ b < c2) (v : Value) : IsR (w.setCell ⟨b, j, none⟩ v) R T c1 c2 k1 k2 := by
 have k : ∀ {g i u}, b < g → w.cell? ⟨g, i, none⟩ = some u → (w.setCell ⟨b, j, none⟩ v).cell? ⟨g, i, none⟩ = some u := fun {g i u} hlt e =>
  (World.cell?_setCell_other w ⟨b, j, none⟩ ⟨g, i, none⟩ v (fun e => absurd (congrArg Addr.block e) (Nat.ne_of_lt hlt))).trans e
 exact ⟨fun i h0 h1 h2 => k hb.1 (h.no i h0 h1 h2), k hb.1 h.sl, k hb.1 h.ti, k hb.1 h.li, k hb.2.1 h.t0, k hb.2.1 h.t1, k hb.2.2.1 h.a0, k hb.2.2.1 h.a1, k hb.2.2.2 h.b0, k hb.2.2.2 h.b1⟩

/-- The four texts of 'escaped'. -/
structure Four (w : World) (k : Nat) : Prop where
 h0 : w.cell? ⟨k, 0, none⟩ = some (.string ⟨#[126]⟩)
 h1 : w.cell? ⟨k, 1, none⟩ = some (.string ⟨#[126, 48]⟩)
 h2 : w.cell? ⟨k, 2, none⟩ = some (.string ⟨#[47]⟩)
 h3 : w.cell? ⟨k, 3, none⟩ = some (.string ⟨#[126, 49]⟩)
theorem Four.set {w : World} {k : Nat} (h : Four w k) {b j : Nat} (hb : b ≠ k) (v : Value) : Four (w.setCell ⟨b, j, none⟩ v) k := by
 have q : ∀ {i u}, w.cell? ⟨k, i, none⟩ = some u → (w.setCell ⟨b, j, none⟩ v).cell? ⟨k, i, none⟩ = some u := fun {i u} e =>
  (World.cell?_setCell_other w ⟨b, j, none⟩ ⟨k, i, none⟩ v (fun e => absurd (congrArg Addr.block e) hb)).trans e
 exact ⟨q h.h0, q h.h1, q h.h2, q h.h3⟩

set_option maxRecDepth 100000 in
set_option maxHeartbeats 2000000 in
theorem once_calls (b k cc : Nat) (d s m : Value) (w : World) (hb : w.heap[b]? = some (.cells #[d, s, m, .nilIface, .slice (some ⟨k, 0, none⟩) 4 cc] 50 (0, 0))) (hk : Four w k) :
  Calls Tryd.prog 20 #[.pointer (some ⟨b, 0, none⟩)] w fun e w' => e = .returned (.tuple #[]) ∧ ∃ R T c1 c2 k1 k2, IsR w' R T c1 c2 k1 k2 ∧ (b < R ∧ b < T ∧ b < c1 ∧ b < c2) ∧
   w'.heap[b]? = some (.cells #[d, s, m, .iface 75 (.pointer (some ⟨R, 0, none⟩)), .slice none 0 0] 50 (0, 0)) ∧ Below b w w' := by
 have HB := aM hb
 have HK := aM hk
 have HL := aM (blk_lt hb)
 clear hb hk
 go_enter Tryd.func20, Tryd.ntmps20
 go_wp2_with (go_at_call 26; go_loud ((with_reducible refine (build_calls b k cc _ ((blk_cell HB.out 4).trans rfl) HK.out.h0 HK.out.h1 HK.out.h2 HK.out.h3).mono ?_); rintro e w2 ⟨R, T, c1, c2, k1, k2, rfl, hR, hl, hd⟩; have HR2 := aM hR; have HL2 := aM hl; have HB2 := aM (blk_below HB.out hd); have HD2 := aM hd; clear hR hl hd; have c3 := (blk_cell HB2.out 3).trans rfl; have f3 := blk_frozen HB2.out 3; have c4 : ∀ v, (w2.setCell ⟨b, 3, none⟩ v).cell? ⟨b, 4, none⟩ = some (.slice (some ⟨k, 0, none⟩) 4 cc) := fun v => (blk_cell (blk_set HB2.out 3 v) 4).trans rfl; have f4 : ∀ v, (w2.setCell ⟨b, 3, none⟩ v).frozen? ⟨b, 4, none⟩ = false := fun v => blk_frozen (blk_set HB2.out 3 v) 4))
 go_end0
 have hlt := HL.out
 have hl2 := HL2.out
 have hl3 : b < R ∧ b < T ∧ b < c1 ∧ b < c2 := by omega
 exact ⟨rfl, R, T, c1, c2, k1, k2, IsR.set (IsR.set HR2.out hl3 _) hl3 _, hl3, blk_put (blk_put HB2.out 3 _ rfl) 4 _ rfl, ((HD2.out.mono (Nat.le_of_lt hlt)).setCell (p := ⟨b, 3, none⟩) (Nat.le_refl _) _).setCell (p := ⟨b, 4, none⟩) (Nat.le_refl _) _⟩

/-- The Replacer behind its once: done, the lock free, the replacer laid. -/
structure Done (w : World) (b R : Nat) : Prop where
 blk : w.heap[b]? = some (.cells #[.int .u32 1, .int .i32 0, .int .u32 0, .iface 75 (.pointer (some ⟨R, 0, none⟩)), .slice none 0 0] 50 (0, 0))

set_option maxRecDepth 100000 in
set_option maxHeartbeats 2000000 in
theorem slow_calls (b k cc : Nat) (w : World) (hb : w.heap[b]? = some (.cells #[.int .u32 0, .int .i32 0, .int .u32 0, .nilIface, .slice (some ⟨k, 0, none⟩) 4 cc] 50 (0, 0))) (hk : Four w k) (hne : b ≠ k) :
  Calls Tryd.prog 25 #[.pointer (some ⟨b, 0, none⟩), .func (.func 20) #[.pointer (some ⟨b, 0, none⟩)] #[]] w fun e w' => e = .returned (.tuple #[]) ∧ ∃ R T c1 c2 k1 k2, IsR w' R T c1 c2 k1 k2 ∧ Done w' b R ∧ Below b w w' := by
 have HB := aM hb
 have HK := aM hk
 have HN := aM hne
 have HB1 := aM (blk_put (cs' := #[.int .u32 0, .int .i32 1, .int .u32 0, .nilIface, .slice (some ⟨k, 0, none⟩) 4 cc]) hb 1 (.int .i32 1) rfl)
 have hl := run_call_load (P := Tryd.prog) Tryd.func31 (by kernel_rfl) (by kernel_rfl) (by kernel_rfl) .u32 (by kernel_rfl) (w := w.setCell ⟨b, 1, none⟩ (.int .i32 1)) (a := ⟨b, 0, none⟩) (x := 0) ((blk_cell HB1.out 0).trans rfl)
 have hnot : ∀ (x : Bool) (w : World), (Op.unary .not (.bool x)).run Tryd.prog w = .ok (.bool (!x)) w := fun _ _ => rfl
 clear hb hk hne
 go_enter_defers Tryd.func25, Tryd.ntmps25
 go_wp2_with (first | (go_at_call 32; refine (lock_free ⟨b, 1, none⟩ _ ((blk_cell HB.out 1).trans rfl) (blk_frozen HB.out 1)).mono ?_; rintro e w' ⟨rfl, rfl⟩) | (go_at_call 20; go_loud ((with_reducible refine (once_calls b k cc _ _ _ _ HB1.out (Four.set HK.out HN.out _)).mono ?_); rintro e w2 ⟨rfl, R, T, c1, c2, k1, k2, hR, hl3, hb2, hd⟩; have HR2 := aM hR; have HL2 := aM hl3; have HB2 := aM hb2; have HD2 := aM hd; clear hR hl3 hb2 hd)) | (go_at_call 24; go_in))
 have HB3 := aM (blk_put (cs' := #[.int .u32 1, .int .i32 1, .int .u32 0, .iface 75 (.pointer (some ⟨R, 0, none⟩)), .slice none 0 0]) (blk_drew HB2.out) 0 (.int .u32 1) rfl)
 refine leaves_cons (f := 34) (args := #[.pointer (some ⟨b, 0, none⟩), .bool true]) (by simp) (by simp [go_sem]) ?_
 refine (store_deferred ⟨b, 0, none⟩ (.int .u32 0) .returning _ ((blk_cell HB2.out 0).trans rfl) (blk_frozen HB2.out 0)).mono ?_
 rintro e u' w'' ⟨rfl, rfl, rfl⟩
 refine leaves_cons (f := 33) (args := #[.pointer (some ⟨b, 1, none⟩)]) (by simp [settle]) (by simp [go_sem]) ?_
 refine (unlock_deferred ⟨b, 1, none⟩ _ _ ((blk_cell HB3.out 1).trans rfl) (blk_frozen HB3.out 1)).mono ?_
 rintro e u' w'' ⟨rfl, rfl, rfl⟩
 have h1 : IsR w2.drew R T c1 c2 k1 k2 := ⟨HR2.out.no, HR2.out.sl, HR2.out.ti, HR2.out.li, HR2.out.t0, HR2.out.t1, HR2.out.a0, HR2.out.a1, HR2.out.b0, HR2.out.b1⟩
 simp [Leaves, settle, results, Tryd.results25]
 exact ⟨R, ⟨T, c1, c2, k1, k2, IsR.set (IsR.set h1 HL2.out _) HL2.out _⟩, ⟨blk_put HB3.out 1 _ rfl⟩, (((Below.setCell (Below.refl b w) (p := ⟨b, 1, none⟩) (Nat.le_refl _) _).trans HD2.out).drew.setCell (p := ⟨b, 0, none⟩) (Nat.le_refl _) _).setCell (p := ⟨b, 1, none⟩) (Nat.le_refl _) _⟩

set_option maxRecDepth 100000 in
set_option maxHeartbeats 2000000 in
theorem do_calls (b k cc : Nat) (w : World) (hb : w.heap[b]? = some (.cells #[.int .u32 0, .int .i32 0, .int .u32 0, .nilIface, .slice (some ⟨k, 0, none⟩) 4 cc] 50 (0, 0))) (hk : Four w k) (hne : b ≠ k) :
  Calls Tryd.prog 19 #[.pointer (some ⟨b, 0, none⟩), .func (.func 20) #[.pointer (some ⟨b, 0, none⟩)] #[]] w fun e w' => e = .returned (.tuple #[]) ∧ ∃ R T c1 c2 k1 k2, IsR w' R T c1 c2 k1 k2 ∧ Done w' b R ∧ Below b w w' := by
 have hl := run_call_load (P := Tryd.prog) Tryd.func31 (by kernel_rfl) (by kernel_rfl) (by kernel_rfl) .u32 (by kernel_rfl) (w := w) (a := ⟨b, 0, none⟩) (x := 0) ((blk_cell hb 0).trans rfl)
 have hnot : ∀ (x : Bool) (w : World), (Op.unary .not (.bool x)).run Tryd.prog w = .ok (.bool (!x)) w := fun _ _ => rfl
 have HB := aM hb
 have HK := aM hk
 have HN := aM hne
 clear hb hk hne
 go_enter Tryd.func19, Tryd.ntmps19
 go_wp2_with (first | (go_at_call 25; go_loud ((with_reducible refine (slow_calls b k cc _ HB.out HK.out HN.out).mono ?_); rintro e w2 ⟨rfl, H⟩; have HH := aM H; clear H)) | (go_at_call 24; go_in))
 go_end0
 exact ⟨rfl, HH.out⟩

theorem heap_new2 (w : World) (o o' : Obj) : ((w.alloc o).alloc o').heap[w.heap.size + 1]? = some o' := by
 have h := blk_new (w.alloc o) o'
 have hs : (w.alloc o).heap.size = w.heap.size + 1 := by simp
 rw [hs] at h
 exact h
set_option maxRecDepth 100000 in
theorem app4_run (W : World) (g : Nat) (hg : Four W g) :
  (Builtin.append_ #[22, 22] 22 #[.slice none 0 0, .slice (some ⟨g, 0, none⟩) 4 4]).run Tryd.prog W = .ok (.slice (some ⟨W.heap.size, 0, none⟩) 4 (grownCap W 4 0 9)) (W.drew.alloc (.cells (#[.string ⟨#[126]⟩, .string ⟨#[126, 48]⟩, .string ⟨#[47]⟩, .string ⟨#[126, 49]⟩] ++ Builtin.zeroCells #[.string ⟨#[]⟩] (grownCap W 4 0 9 - 4)) 9)) := by
 have hm : (Tryd.prog.info? 9).map (fun i => (i.size, i.zero, i.bytes)) = some (1, some (.string ⟨#[]⟩), 16) := by kernel_rfl
 obtain ⟨i, hi, h1⟩ := Option.map_eq_some_iff.1 hm
 injection h1 with hs h1
 injection h1 with hz hb
 have h := run_append_nil (P := Tryd.prog) W 22 22 9 i (.string ⟨#[]⟩) Tryd.underlying22 hi hz ⟨g, 0, none⟩ 4 4 [.string ⟨#[126]⟩, .string ⟨#[126, 48]⟩, .string ⟨#[47]⟩, .string ⟨#[126, 49]⟩] (by rw [hs]; rfl) (by
  intro j u hu
  have hj := (List.getElem?_eq_some_iff.1 hu).1
  have hj : j < 4 := by simpa using hj
  rcases (show j = 0 ∨ j = 1 ∨ j = 2 ∨ j = 3 by omega) with rfl | rfl | rfl | rfl <;> (injection hu with hu; subst hu)
  ·exact hg.h0
  ·exact hg.h1
  ·exact hg.h2
  ·exact hg.h3) (by decide) (by decide) (by rw [hb]; decide)
 exact h
set_option maxRecDepth 100000 in
set_option maxHeartbeats 2000000 in
theorem new_calls (g : Nat) (w : World) (hg : Four w g) :
  Calls Tryd.prog 14 #[.slice (some ⟨g, 0, none⟩) 4 4] w fun e w' => ∃ b k cc, e = .returned (.pointer (some ⟨b, 0, none⟩)) ∧ w'.heap[b]? = some (.cells #[.int .u32 0, .int .i32 0, .int .u32 0, .nilIface, .slice (some ⟨k, 0, none⟩) 4 cc] 50 (0, 0)) ∧ Four w' k ∧ b ≠ k ∧ w.heap.size ≤ b ∧ Below w.heap.size w w' := by
 have HG := aM hg
 clear hg
 go_enter Tryd.func14, Tryd.ntmps14
 go_wp2_with ((with_reducible refine gate_builtin (b := .append) (xs := #[.const (.slice none 0 0), .tmp 8]) rfl ?_); at_builtin; go_loud (refine Lib.wpList_append_run _ rfl (.const (.slice none 0 0)) (.tmp 8) 22 22 rfl _ _ rfl rfl _ _ (app4_run _ g HG.out) ?_))
 go_ret
 refine ⟨w.heap.size + 1, w.heap.size, grownCap w 4 0 9, rfl, ?_, ⟨?_, ?_, ?_, ?_⟩, by omega, by omega, below_drew (below_alloc (below_alloc (Below.refl _ _) _) _)⟩
 ·exact blk_drew (heap_new2 _ _ _)
 all_goals (refine (cell_of_row _ w.heap.size _ _ _ (0, 0) (blk_drew (blk_alloc (blk_new w _) _))).trans ?_; rw [Array.getElem?_append_left (by decide)]; rfl)
end Go.Proofs.YtdlkmnohmdnogaaDoor.Rep
end
