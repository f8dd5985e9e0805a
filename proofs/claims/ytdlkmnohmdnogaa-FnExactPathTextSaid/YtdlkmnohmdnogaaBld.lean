/- (*strings.Replacer).build at four texts of escaped. No conditions. -/
import Derived.Test.YtdlkmnohmdnogaaOnc
import Derived.Deep.WholeRow
import Derived.Laws.Tables
import Derived.WalkLawsBesides
import Derived.WalkSpells
import Derived.Lib.BufferMore
import Derived.Deep.Light
import Derived.Lib.AppendZeros
import Derived.ArgAppend
namespace Go.Proofs.Ytdlkmnohmdnogaa.Bld
set_option linter.unusedVariables false
set_option linter.unusedSimpArgs false
open Go.RowKit Go.Lib Go.Proofs.YtdlkmnohmdnogaaW.PrintWords Go.Proofs.YtdlkmnohmdnogaaW.PrintLast Go.Proofs.YtdlkmnohmdnogaaW.PrintMore

/-- The cells of a fresh byteStringReplacer. -/
def zs : Array Value := Array.replicate 257 (.slice none 0 0)
theorem zero_run (w : World) : (zeroValue 81).run Try.prog w = .ok (.agg zs) w := (zero_of_info (P := Try.prog) (t := 81) (v := .agg zs) (n := 257) (by kernel_rfl)).1 w
theorem zero_size : (Try.prog.info? 81).map (·.size) = some 257 := (zero_of_info (P := Try.prog) (t := 81) (v := .agg zs) (n := 257) (by kernel_rfl)).2
theorem build_run (a : Option Addr) (n c : Nat) (w : World) : (Instr.build 81 #[(1, .slice a n c)]).run Try.prog w = .ok (.agg (zs.setIfInBounds 256 (.slice a n c))) w :=
  run_build w _ _ _ (by kernel_rfl)
theorem zs_one (v : Value) (hv : v.oneCell' = true) (i : Nat) : (zs.setIfInBounds i v).all (·.oneCell') = true := by
  rw [Array.all_eq_true]
  intro j hj
  have hj2 : j < zs.size := by simpa using hj
  rw [Array.getElem_setIfInBounds hj2]
  split
  · exact hv
  · have h1 : j < zs.size := by simpa using hj
    have h2 : zs[j]'h1 = .slice none 0 0 := by
      have h3 : zs[j]? = some (.slice none 0 0) := by
        have : j < 257 := by simpa [zs] using h1
        simp [zs, this]
      rw [Array.getElem?_eq_getElem h1] at h3
      exact Option.some.inj h3
    rw [h2]
    rfl
theorem zs_size : zs.size = 257 := by simp [zs]
theorem zs_get (i : Nat) (h : i < 257) : zs[i]? = some (.slice none 0 0) := by simp [zs, h]

theorem store_run (w : World) (o : Obj) (a : Option Addr) (n c : Nat) : (storeCells ⟨w.heap.size + 1, 0, none⟩ (zs.toList.set 256 (.slice a n c))).run Try.prog ((w.alloc o).alloc (.cells zs 81)) = .ok () ((w.alloc o).alloc (.cells (zs.setIfInBounds 256 (.slice a n c)) 81)) := by
  have h := run_storeCells_new (P := Try.prog) (w.alloc o) 81 zs (zs.setIfInBounds 256 (.slice a n c)) (by rw [zero_size, Array.size_setIfInBounds, zs_size]) (by simp) (zs_one _ rfl _)
  rw [Array.toList_setIfInBounds] at h
  have hs : (w.alloc o).heap.size = w.heap.size + 1 := by simp
  rw [hs] at h
  exact h
/-- A byteStringReplacer of '/' by "~1" and of '~' by "~0". -/
structure IsR (w : World) (R T c1 c2 k1 k2 : Nat) : Prop where
  no : ∀ i, i < 256 → i ≠ 47 → i ≠ 126 → w.cell? ⟨R, i, none⟩ = some (.slice none 0 0)
  sl : w.cell? ⟨R, 47, none⟩ = some (.slice (some ⟨c1, 0, none⟩) 2 k1)
  ti : w.cell? ⟨R, 126, none⟩ = some (.slice (some ⟨c2, 0, none⟩) 2 k2)
  li : w.cell? ⟨R, 256, none⟩ = some (.slice (some ⟨T, 0, none⟩) 2 2)
  t0 : w.cell? ⟨T, 0, none⟩ = some (.string ⟨#[47]⟩)
  t1 : w.cell? ⟨T, 1, none⟩ = some (.string ⟨#[126]⟩)
  a0 : w.cell? ⟨c1, 0, none⟩ = some (.int .u8 126)
  a1 : w.cell? ⟨c1, 1, none⟩ = some (.int .u8 49)
  b0 : w.cell? ⟨c2, 0, none⟩ = some (.int .u8 126)
  b1 : w.cell? ⟨c2, 1, none⟩ = some (.int .u8 48)
theorem IsR.later {w w' : World} {R T c1 c2 k1 k2 : Nat} (h : IsR w R T c1 c2 k1 k2) (hb : Below w.heap.size w w') : IsR w' R T c1 c2 k1 k2 := by
  have k : ∀ {a v}, w.cell? a = some v → w'.cell? a = some v := fun {a v} e => (hb.cell (World.block_lt_of_cell? w _ e)).trans e
  exact ⟨fun i h0 h1 h2 => k (h.no i h0 h1 h2), k h.sl, k h.ti, k h.li, k h.t0, k h.t1, k h.a0, k h.a1, k h.b0, k h.b1⟩
set_option maxRecDepth 100000 in
theorem app_run (W : World) (T g n : Nat) (s : ByteArray) (xs : Array Value) (hxs : xs.size = 2) (hn : n < 2) (hT : W.heap[T]? = some (.cells xs 9 (0, 0))) (hg : W.cell? ⟨g, 0, none⟩ = some (.string s)) :
    (Builtin.append_ #[22, 22] 22 #[.slice (some ⟨T, 0, none⟩) n 2, .slice (some ⟨g, 0, none⟩) 1 1]).run Try.prog W = .ok (.slice (some ⟨T, 0, none⟩) (n + 1) 2) (W.setCell ⟨T, n, none⟩ (.string s)) := by
  have hm : (Try.prog.info? 9).map (·.size) = some 1 := by kernel_rfl
  obtain ⟨i, hi, hs1⟩ := Option.map_eq_some_iff.1 hm
  have h := run_append_room (P := Try.prog) W 22 22 9 i Try.underlying22 hi T n 2 xs hT ⟨g, 0, none⟩ 1 1 [.string s] (by simp [hs1]) (by
    intro j u hu
    obtain rfl : j = 0 := by
      have := (List.getElem?_eq_some_iff.1 hu).1
      simpa using this
    injection hu with hu
    subst hu
    exact hg) (by intro u hu; rw [List.mem_singleton.1 hu]; rfl) (by omega) (by simp [hs1]; omega)
  rw [hs1] at h
  rw [h, setCell_eq_setRow W T n xs _ _ _ hT]
  congr 2
  apply Array.ext'
  rcases xs with ⟨l⟩
  match l, hxs with
  | [a, b], _ => rcases (show n = 0 ∨ n = 1 by omega) with rfl | rfl <;> rfl
theorem cell_new2 (w : World) (o : Obj) (s : Value) : ((w.alloc o).alloc (.cells #[s] 9)).cell? ⟨w.heap.size + 1, 0, none⟩ = some s := by
  have h := blk_new (w.alloc o) (.cells #[s] 9)
  have hs : (w.alloc o).heap.size = w.heap.size + 1 := by simp
  rw [hs] at h
  exact (blk_cell h 0).trans rfl
theorem blk_in {w w' : World} {g : Nat} {o : Obj} (e : w' = w) (h : w.heap[g]? = some o) : w'.heap[g]? = some o := e ▸ h
theorem below_in {w0 w w' : World} {B : Nat} (e : w' = w) (h : Below B w0 w) : Below B w0 w' := e ▸ h
theorem put_twice (i : Nat) (u v : Value) : (zs.setIfInBounds i u).setIfInBounds i v = zs.setIfInBounds i v := by
  apply Array.ext_getElem?
  intro j
  rw [Array.getElem?_setIfInBounds, Array.getElem?_setIfInBounds, Array.getElem?_setIfInBounds]
  split <;> simp_all
theorem get_ne (i j : Nat) (v : Value) (h : j ≠ i := by decide) (hi : i < 257 := by decide) : (zs.setIfInBounds j v)[i]? = some (.slice none 0 0) := by
  rw [Array.getElem?_setIfInBounds_ne h]
  exact zs_get i hi
theorem bytesRow_at (s : ByteArray) (k j : Nat) (hj : j < s.size) : (bytesRow s k)[j]? = some (.int .u8 (s.data.toList.getD j 0).toNat) := by
  unfold bytesRow
  simp [Array.getElem?_append, List.getD, hj]
theorem keep_set {w : World} {g : Nat} {o : Obj} (h : w.heap[g]? = some o) {p : Addr} (hne : g ≠ p.block) (v : Value) : (w.setCell p v).heap[g]? = some o := (Below.heap_setCell w p v g hne).trans h
theorem get_at (i : Nat) (v : Value) (h : i < 257 := by decide) : (zs.setIfInBounds i v)[i]? = some v := by
  rw [Array.getElem?_setIfInBounds_self_of_lt (by rw [zs_size]; exact h)]
set_option maxRecDepth 100000 in
set_option maxHeartbeats 2000000 in
theorem build_calls (b k cc : Nat) (w : World) (hb : w.cell? ⟨b, 4, none⟩ = some (.slice (some ⟨k, 0, none⟩) 4 cc))
    (h0 : w.cell? ⟨k, 0, none⟩ = some (.string ⟨#[126]⟩)) (h1 : w.cell? ⟨k, 1, none⟩ = some (.string ⟨#[126, 48]⟩)) (h2 : w.cell? ⟨k, 2, none⟩ = some (.string ⟨#[47]⟩)) (h3 : w.cell? ⟨k, 3, none⟩ = some (.string ⟨#[126, 49]⟩)) :
    Calls Try.prog 27 #[.pointer (some ⟨b, 0, none⟩)] w fun e w' => ∃ R T c1 c2 k1 k2, e = .returned (.iface 82 (.pointer (some ⟨R, 0, none⟩))) ∧ IsR w' R T c1 c2 k1 k2 ∧ (w.heap.size ≤ R ∧ w.heap.size ≤ T ∧ w.heap.size ≤ c1 ∧ w.heap.size ≤ c2) ∧ Below w.heap.size w w' := by
  have hz := zero_run
  have hmk : ∀ w : World, (Instr.makeSlice 22 (.int .i64 0) (.int .i64 2)).run Try.prog w = .ok (.slice (some ⟨w.heap.size, 0, none⟩) 0 2) (w.alloc (.cells #[.string ⟨#[]⟩, .string ⟨#[]⟩] 9)) := fun _ => by kernel_rfl
  have hbd := build_run
  have hst := store_run
  go_enter Try.func27, Try.ntmps27
  go_wp2
  refine wp_loop_rounds 3 ?_
  rw [rounds_succ]
  go_wp2
  rw [rounds_succ]
  go_wp2
  rw [rounds_succ]
  go_wp2
  obtain ⟨w2, hw2⟩ : ∃ x, x = (w.alloc (.cells #[.string ⟨#[]⟩, .string ⟨#[]⟩] 9)).alloc (.cells (zs.setIfInBounds 256 (.slice (some ⟨w.heap.size, 0, none⟩) 0 2)) 81) := ⟨_, rfl⟩
  rw [← hw2]
  have HB2 : Aside0 (Below w.heap.size w w2) := ⟨by rw [hw2]; exact below_alloc (below_alloc (Below.refl _ _) _) _⟩
  have HT2 : Aside0 (w2.heap[w.heap.size]? = some (.cells #[.string ⟨#[]⟩, .string ⟨#[]⟩] 9 (0, 0))) := ⟨by rw [hw2]; exact blk_alloc (blk_new w _) _⟩
  have HR2 : Aside0 (w2.heap[w.heap.size + 1]? = some (.cells (zs.setIfInBounds 256 (.slice (some ⟨w.heap.size, 0, none⟩) 0 2)) 81 (0, 0))) := ⟨by
    rw [hw2]
    have h := blk_new (w.alloc (.cells #[.string ⟨#[]⟩, .string ⟨#[]⟩] 9)) (.cells (zs.setIfInBounds 256 (.slice (some ⟨w.heap.size, 0, none⟩) 0 2)) 81)
    have hs : (w.alloc (.cells #[.string ⟨#[]⟩, .string ⟨#[]⟩] 9)).heap.size = w.heap.size + 1 := by simp
    rw [hs] at h
    exact h⟩
  have HS2 : Aside0 (w2.heap.size = w.heap.size + 2) := ⟨by rw [hw2]; simp⟩
  obtain ⟨R, hR⟩ : ∃ R, R = w.heap.size + 1 := ⟨_, rfl⟩
  obtain ⟨T, hT⟩ : ∃ T, T = w.heap.size := ⟨_, rfl⟩
  rw [← hR, ← hT] at HR2
  rw [← hT] at HT2
  rw [← hR]
  have HRR := Aside0.mk hR
  have HTT := Aside0.mk hT
  have H0 := Aside0.mk h0
  have H1 := Aside0.mk h1
  have H2 := Aside0.mk h2
  have H3 := Aside0.mk h3
  have HNE : Aside0 (R ≠ T) := ⟨by omega⟩
  have HTL : Aside0 (w.heap.size ≤ T) := ⟨by omega⟩
  have HRL : Aside0 (w.heap.size ≤ R) := ⟨by omega⟩
  clear hR hT hw2 hb h0 h1 h2 h3
  have hk2 := (HB2.out.cell (World.block_lt_of_cell? w _ H2.out)).trans H2.out
  have hk3 := (HB2.out.cell (World.block_lt_of_cell? w _ H3.out)).trans H3.out
  have hr47 : w2.cell? ⟨R, 47, none⟩ = some (.slice none 0 0) := (blk_cell HR2.out 47).trans (by rw [Array.getElem?_setIfInBounds_ne (by decide)]; exact zs_get 47 (by decide))
  have hr256 : w2.cell? ⟨R, 256, none⟩ = some (.slice (some ⟨T, 0, none⟩) 0 2) := (blk_cell HR2.out 256).trans (by rw [Array.getElem?_setIfInBounds_self_of_lt (by rw [zs_size]; decide)])
  have e47 : ∀ h, ((⟨#[47]⟩ : ByteArray)[0]'h).toNat = 47 := fun _ => rfl
  have e126 : ∀ h, ((⟨#[126]⟩ : ByteArray)[0]'h).toNat = 126 := fun _ => rfl
  have hcb : ∀ W : World, (convert 33 9 (.slice (some ⟨W.heap.size, 0, none⟩) 1 1)).run Try.prog (W.alloc (.cells #[.int .u8 47] 5)) = .ok (.string ⟨#[47]⟩) (W.alloc (.cells #[.int .u8 47] 5)) := fun W =>
    run_convert_bytes_back _ _ _ 5 ⟨W.heap.size, 0, none⟩ 1 [47] Try.underlying33 Try.underlying5 Try.underlying9 (by
      intro j hj
      obtain rfl : j = 0 := by simpa using hj
      exact (blk_cell (blk_new W _) 0).trans rfl)
  have hcb2 : ∀ W : World, (convert 33 9 (.slice (some ⟨W.heap.size, 0, none⟩) 1 1)).run Try.prog (W.alloc (.cells #[.int .u8 126] 5)) = .ok (.string ⟨#[126]⟩) (W.alloc (.cells #[.int .u8 126] 5)) := fun W =>
    run_convert_bytes_back _ _ _ 5 ⟨W.heap.size, 0, none⟩ 1 [126] Try.underlying33 Try.underlying5 Try.underlying9 (by
      intro j hj
      obtain rfl : j = 0 := by simpa using hj
      exact (blk_cell (blk_new W _) 0).trans rfl)
  have hbs := fun (W : World) (s : ByteArray) => run_bytes_of_string (P := Try.prog) W 9 33 5 s Try.underlying9 Try.underlying33 Try.underlying5
  have heq := fun (w : World) => Lib.run_eql_slice_nil w 33 5 none 0 0 0 0 Try.underlying33
  refine wp_loop_rounds 3 ?_
  rw [rounds_succ]
  go_upto_region 34 with (((with_reducible refine gate_builtin (b := .append) (xs := #[.tmp 119, .tmp 123]) rfl ?_); at_builtin; go_loud (refine Lib.wpList_append_run _ rfl (.tmp 119) (.tmp 123) 22 22 rfl _ _ rfl rfl _ _ (app_run _ T (w2.heap.size + 1) 0 ⟨#[47]⟩ #[.string ⟨#[]⟩, .string ⟨#[]⟩] rfl (by decide) (blk_alloc (blk_alloc HT2.out _) _) (cell_new2 _ _ _)) ?_; obtain ⟨w3, hw3⟩ : ∃ x, x = ((w2.alloc (.cells #[.int .u8 47] 5)).alloc (.cells #[.string ⟨#[47]⟩] 9)).setCell ⟨T, 0, none⟩ (.string ⟨#[47]⟩) := ⟨_, rfl⟩; rw [← hw3]; have HT3 := Aside0.mk (blk_in hw3 (blk_put (blk_alloc (blk_alloc HT2.out _) _) 0 _ rfl)); have HR3 := Aside0.mk (blk_in hw3 (blk_far (blk_alloc (blk_alloc HR2.out _) _) (HNE.out) _)); have HB3 := Aside0.mk (below_in hw3 (below_set (below_alloc (below_alloc HB2.out _) _) HTL.out)); clear hw3; have cr3 := (blk_cell HR3.out 256).trans (get_at 256 _); have fr3 := blk_frozen HR3.out 256)))
  obtain ⟨w4, hw4⟩ : ∃ x, x = w3.setCell ⟨R, 256, none⟩ (.slice (some ⟨T, 0, none⟩) 1 2) := ⟨_, rfl⟩
  rw [← hw4]
  have HT4 := Aside0.mk (blk_in hw4 (blk_far HT3.out (Ne.symm HNE.out) _))
  have HR4 := Aside0.mk (blk_in hw4 (blk_set HR3.out 256 _))
  have HB4 := Aside0.mk (below_in hw4 (below_set HB3.out HRL.out))
  rw [put_twice] at HR4
  clear hw4 cr3 fr3 hk2 hk3 hr47 hr256
  have cr4 : ∀ o, (w4.alloc o).cell? ⟨R, 47, none⟩ = some (.slice none 0 0) := fun o => (blk_cell (blk_alloc HR4.out o) 47).trans (get_ne 47 256 _)
  have fr4 : ∀ o, (w4.alloc o).frozen? ⟨R, 47, none⟩ = false := fun o => blk_frozen (blk_alloc HR4.out o) 47
  go_wp2
  obtain ⟨k1, hk1⟩ : ∃ x, x = grownCap w4 2 0 5 := ⟨_, rfl⟩
  rw [← hk1]
  obtain ⟨w5, hw5⟩ : ∃ x, x = ((w4.alloc (.cells (bytesRow ⟨#[126, 49]⟩ k1) 5 ((bytesRow ⟨#[126, 49]⟩ k1).size, (bytesRow ⟨#[126, 49]⟩ k1).size + 1))).setCell ⟨R, 47, none⟩ (.slice (some ⟨w4.heap.size, 0, none⟩) 2 k1)).drew := ⟨_, rfl⟩
  rw [← hw5]
  have HT5 := Aside0.mk (blk_in hw5 (blk_drew (blk_far (blk_alloc HT4.out _) (Ne.symm HNE.out) _)))
  have HR5 := Aside0.mk (blk_in hw5 (blk_drew (blk_set (blk_alloc HR4.out _) 47 _)))
  have HB5 := Aside0.mk (below_in hw5 (below_drew (below_set (below_alloc HB4.out _) HRL.out)))
  have hne5 : R ≠ w4.heap.size := Nat.ne_of_lt (blk_lt HR4.out)
  have hnt5 : T ≠ w4.heap.size := Nat.ne_of_lt (blk_lt HT4.out)
  have HC5 := Aside0.mk (blk_in hw5 (blk_drew (keep_set (blk_new w4 _) (Ne.symm hne5) _)))
  obtain ⟨c1, hc1⟩ : ∃ x, x = w4.heap.size := ⟨_, rfl⟩
  rw [← hc1] at HC5 HR5 hne5 hnt5
  have HN5 := Aside0.mk hne5
  have HM5 := Aside0.mk hnt5
  have HC1 : Aside0 (w.heap.size ≤ c1) := ⟨by rw [hc1]; exact HB4.out.size⟩
  clear hw5 cr4 fr4 hk1 hc1 hne5 hnt5
  have hk0 := (HB5.out.cell (World.block_lt_of_cell? w _ H0.out)).trans H0.out
  have hk1 := (HB5.out.cell (World.block_lt_of_cell? w _ H1.out)).trans H1.out
  have hr126 : w5.cell? ⟨R, 126, none⟩ = some (.slice none 0 0) := (blk_cell HR5.out 126).trans ((Array.getElem?_setIfInBounds_ne (by decide)).trans (get_ne 126 256 _))
  have hr256 : w5.cell? ⟨R, 256, none⟩ = some (.slice (some ⟨T, 0, none⟩) 1 2) := (blk_cell HR5.out 256).trans ((Array.getElem?_setIfInBounds_ne (by decide)).trans (get_at 256 _))
  rw [rounds_succ]
  go_upto_region 34 with (((with_reducible refine gate_builtin (b := .append) (xs := #[.tmp 119, .tmp 123]) rfl ?_); at_builtin; go_loud (refine Lib.wpList_append_run _ rfl (.tmp 119) (.tmp 123) 22 22 rfl _ _ rfl rfl _ _ (app_run _ T (w5.heap.size + 1) 1 ⟨#[126]⟩ _ rfl (by decide) (blk_alloc (blk_alloc HT5.out _) _) (cell_new2 _ _ _)) ?_; obtain ⟨w6, hw6⟩ : ∃ x, x = ((w5.alloc (.cells #[.int .u8 126] 5)).alloc (.cells #[.string ⟨#[126]⟩] 9)).setCell ⟨T, 1, none⟩ (.string ⟨#[126]⟩) := ⟨_, rfl⟩; rw [← hw6]; have HT6 := Aside0.mk (blk_in hw6 (blk_put (blk_alloc (blk_alloc HT5.out _) _) 1 _ rfl)); have HR6 := Aside0.mk (blk_in hw6 (blk_far (blk_alloc (blk_alloc HR5.out _) _) (HNE.out) _)); have HC6 := Aside0.mk (blk_in hw6 (keep_set (blk_alloc (blk_alloc HC5.out _) _) (Ne.symm HM5.out) _)); have HB6 := Aside0.mk (below_in hw6 (below_set (below_alloc (below_alloc HB5.out _) _) HTL.out)); clear hw6; have cr6 := (blk_cell HR6.out 256).trans ((Array.getElem?_setIfInBounds_ne (by decide)).trans (get_at 256 _)); have fr6 := blk_frozen HR6.out 256)))
  obtain ⟨w7, hw7⟩ : ∃ x, x = w6.setCell ⟨R, 256, none⟩ (.slice (some ⟨T, 0, none⟩) 2 2) := ⟨_, rfl⟩
  rw [← hw7]
  have HT7 := Aside0.mk (blk_in hw7 (blk_far HT6.out (Ne.symm HNE.out) _))
  have HR7 := Aside0.mk (blk_in hw7 (blk_set HR6.out 256 _))
  have HC7 := Aside0.mk (blk_in hw7 (keep_set HC6.out (Ne.symm HN5.out) _))
  have HB7 := Aside0.mk (below_in hw7 (below_set HB6.out HRL.out))
  clear hw7 cr6 fr6 hk0 hk1 hr126 hr256
  have cr7 : ∀ o, (w7.alloc o).cell? ⟨R, 126, none⟩ = some (.slice none 0 0) := fun o => (blk_cell (blk_alloc HR7.out o) 126).trans ((Array.getElem?_setIfInBounds_ne (by decide)).trans ((Array.getElem?_setIfInBounds_ne (by decide)).trans (get_ne 126 256 _)))
  have fr7 : ∀ o, (w7.alloc o).frozen? ⟨R, 126, none⟩ = false := fun o => blk_frozen (blk_alloc HR7.out o) 126
  go_wp2
  obtain ⟨k2, hk2⟩ : ∃ x, x = grownCap w7 2 0 5 := ⟨_, rfl⟩
  rw [← hk2]
  obtain ⟨w8, hw8⟩ : ∃ x, x = ((w7.alloc (.cells (bytesRow ⟨#[126, 48]⟩ k2) 5 ((bytesRow ⟨#[126, 48]⟩ k2).size, (bytesRow ⟨#[126, 48]⟩ k2).size + 1))).setCell ⟨R, 126, none⟩ (.slice (some ⟨w7.heap.size, 0, none⟩) 2 k2)).drew := ⟨_, rfl⟩
  rw [← hw8]
  have hne8 : R ≠ w7.heap.size := Nat.ne_of_lt (blk_lt HR7.out)
  have HT8 := Aside0.mk (blk_in hw8 (blk_drew (blk_far (blk_alloc HT7.out _) (Ne.symm HNE.out) _)))
  have HR8 := Aside0.mk (blk_in hw8 (blk_drew (blk_set (blk_alloc HR7.out _) 126 _)))
  have HC8 := Aside0.mk (blk_in hw8 (blk_drew (keep_set (blk_alloc HC7.out _) (Ne.symm HN5.out) _)))
  have HD8 := Aside0.mk (blk_in hw8 (blk_drew (keep_set (blk_new w7 _) (Ne.symm hne8) _)))
  have HB8 := Aside0.mk (below_in hw8 (below_drew (below_set (below_alloc HB7.out _) HRL.out)))
  obtain ⟨c2, hc2⟩ : ∃ x, x = w7.heap.size := ⟨_, rfl⟩
  rw [← hc2] at HD8 HR8
  have HC2 : Aside0 (w.heap.size ≤ c2) := ⟨by rw [hc2]; exact HB7.out.size⟩
  clear hw8 cr7 fr7 hk2 hc2 hne8
  rw [rounds_succ]
  go_wp2
  go_ret
  refine ⟨R, T, c1, c2, k1, k2, rfl, ⟨?_, ?_, ?_, ?_, ?_, ?_, ?_, ?_, ?_, ?_⟩, ⟨HRL.out, HTL.out, HC1.out, HC2.out⟩, HB8.out⟩
  · intro i h0 h1 h2
    refine (blk_cell HR8.out i).trans ?_
    rw [Array.getElem?_setIfInBounds_ne (by omega), Array.getElem?_setIfInBounds_ne (by omega), Array.getElem?_setIfInBounds_ne (by omega), Array.getElem?_setIfInBounds_ne (by omega)]
    exact zs_get i (by omega)
  · refine (blk_cell HR8.out 47).trans ?_
    rw [Array.getElem?_setIfInBounds_ne (by decide), Array.getElem?_setIfInBounds_ne (by decide), Array.getElem?_setIfInBounds_self_of_lt (by rw [Array.size_setIfInBounds, zs_size]; decide)]
  · refine (blk_cell HR8.out 126).trans ?_
    rw [Array.getElem?_setIfInBounds_self_of_lt (by simp only [Array.size_setIfInBounds]; rw [zs_size]; decide)]
  · refine (blk_cell HR8.out 256).trans ?_
    rw [Array.getElem?_setIfInBounds_ne (by decide), Array.getElem?_setIfInBounds_self_of_lt (by simp only [Array.size_setIfInBounds]; rw [zs_size]; decide)]
  · exact (blk_cell HT8.out 0).trans rfl
  · exact (blk_cell HT8.out 1).trans rfl
  · exact (cell_of_row _ c1 0 _ _ _ HC8.out).trans (bytesRow_at _ _ 0 (by decide))
  · exact (cell_of_row _ c1 1 _ _ _ HC8.out).trans (bytesRow_at _ _ 1 (by decide))
  · exact (cell_of_row _ c2 0 _ _ _ HD8.out).trans (bytesRow_at _ _ 0 (by decide))
  · exact (cell_of_row _ c2 1 _ _ _ HD8.out).trans (bytesRow_at _ _ 1 (by decide))
end Go.Proofs.Ytdlkmnohmdnogaa.Bld
