/- strings.NewReplacer and sync.Once.Do at a Replacer. No conditions. -/
import Derived.Test.YtdlkmnohmdnogaaBld
namespace Go.Proofs.Ytdlkmnohmdnogaa.Rep
set_option linter.unusedVariables false
set_option linter.unusedSimpArgs false
open Go.RowKit Go.Lib Go.Proofs.YtdlkmnohmdnogaaW.PrintWords Go.Proofs.YtdlkmnohmdnogaaW.PrintLast Go.Proofs.YtdlkmnohmdnogaaW.PrintMore Go.Proofs.Ytdlkmnohmdnogaa.Onc Go.Proofs.Ytdlkmnohmdnogaa.Bld

theorem IsR.set {w : World} {R T c1 c2 k1 k2 : Nat} (h : IsR w R T c1 c2 k1 k2) {b j : Nat} (hb : b < R ∧ b < T ∧ b < c1 ∧ b < c2) (v : Value) : IsR (w.setCell ⟨b, j, none⟩ v) R T c1 c2 k1 k2 := by
  have k : ∀ {g i u}, b < g → w.cell? ⟨g, i, none⟩ = some u → (w.setCell ⟨b, j, none⟩ v).cell? ⟨g, i, none⟩ = some u := fun {g i u} hlt e =>
    (World.cell?_setCell_other w ⟨b, j, none⟩ ⟨g, i, none⟩ v (fun e => absurd (congrArg Addr.block e) (Nat.ne_of_lt hlt))).trans e
  exact ⟨fun i h0 h1 h2 => k hb.1 (h.no i h0 h1 h2), k hb.1 h.sl, k hb.1 h.ti, k hb.1 h.li, k hb.2.1 h.t0, k hb.2.1 h.t1, k hb.2.2.1 h.a0, k hb.2.2.1 h.a1, k hb.2.2.2 h.b0, k hb.2.2.2 h.b1⟩

/-- The four texts of 'escaped'. -/
structure Four (w : World) (k : Nat) : Prop where
  h0 : w.cell? ⟨k, 0, none⟩ = some (.string ⟨#[126]⟩)
  h1 : w.cell? ⟨k, 1, none⟩ = some (.string ⟨#[126, 48]⟩)
  h2 : w.cell? ⟨k, 2, none⟩ = some (.string ⟨#[47]⟩)
  h3 : w.cell? ⟨k, 3, none⟩ = some (.string ⟨#[126, 49]⟩)
theorem Four.set {w : World} {k : Nat} (h : Four w k) {b j : Nat} (hb : b ≠ k) (v : Value) : Four (w.setCell ⟨b, j, none⟩ v) k := by
  have q : ∀ {i u}, w.cell? ⟨k, i, none⟩ = some u → (w.setCell ⟨b, j, none⟩ v).cell? ⟨k, i, none⟩ = some u := fun {i u} e =>
    (World.cell?_setCell_other w ⟨b, j, none⟩ ⟨k, i, none⟩ v (fun e => absurd (congrArg Addr.block e) hb)).trans e
  exact ⟨q h.h0, q h.h1, q h.h2, q h.h3⟩

set_option maxRecDepth 100000 in
set_option maxHeartbeats 2000000 in
theorem once_calls (b k cc : Nat) (d s m : Value) (w : World) (hb : w.heap[b]? = some (.cells #[d, s, m, .nilIface, .slice (some ⟨k, 0, none⟩) 4 cc] 63 (0, 0))) (hk : Four w k) :
    Calls Try.prog 24 #[.pointer (some ⟨b, 0, none⟩)] w fun e w' => e = .returned (.tuple #[]) ∧ ∃ R T c1 c2 k1 k2, IsR w' R T c1 c2 k1 k2 ∧ (b < R ∧ b < T ∧ b < c1 ∧ b < c2) ∧
      w'.heap[b]? = some (.cells #[d, s, m, .iface 82 (.pointer (some ⟨R, 0, none⟩)), .slice none 0 0] 63 (0, 0)) ∧ Below b w w' := by
  have HB := Aside0.mk hb
  have HK := Aside0.mk hk
  have HL := Aside0.mk (blk_lt hb)
  clear hb hk
  go_enter Try.func24, Try.ntmps24
  go_wp2_with (go_at_call 27; go_loud ((with_reducible refine (build_calls b k cc _ ((blk_cell HB.out 4).trans rfl) HK.out.h0 HK.out.h1 HK.out.h2 HK.out.h3).mono ?_); rintro e w2 ⟨R, T, c1, c2, k1, k2, rfl, hR, hl, hd⟩; have HR2 := Aside0.mk hR; have HL2 := Aside0.mk hl; have HB2 := Aside0.mk (blk_below HB.out hd); have HD2 := Aside0.mk hd; clear hR hl hd; have c3 := (blk_cell HB2.out 3).trans rfl; have f3 := blk_frozen HB2.out 3; have c4 : ∀ v, (w2.setCell ⟨b, 3, none⟩ v).cell? ⟨b, 4, none⟩ = some (.slice (some ⟨k, 0, none⟩) 4 cc) := fun v => (blk_cell (blk_set HB2.out 3 v) 4).trans rfl; have f4 : ∀ v, (w2.setCell ⟨b, 3, none⟩ v).frozen? ⟨b, 4, none⟩ = false := fun v => blk_frozen (blk_set HB2.out 3 v) 4))
  go_end0
  have hlt := HL.out
  have hl2 := HL2.out
  have hl3 : b < R ∧ b < T ∧ b < c1 ∧ b < c2 := by omega
  exact ⟨rfl, R, T, c1, c2, k1, k2, IsR.set (IsR.set HR2.out hl3 _) hl3 _, hl3, blk_put (blk_put HB2.out 3 _ rfl) 4 _ rfl, ((HD2.out.mono (Nat.le_of_lt hlt)).setCell (p := ⟨b, 3, none⟩) (Nat.le_refl _) _).setCell (p := ⟨b, 4, none⟩) (Nat.le_refl _) _⟩

/-- The Replacer behind its once: done, the lock free, the replacer laid. -/
structure Done (w : World) (b R : Nat) : Prop where
  blk : w.heap[b]? = some (.cells #[.int .u32 1, .int .i32 0, .int .u32 0, .iface 82 (.pointer (some ⟨R, 0, none⟩)), .slice none 0 0] 63 (0, 0))

set_option maxRecDepth 100000 in
set_option maxHeartbeats 2000000 in
theorem slow_calls (b k cc : Nat) (w : World) (hb : w.heap[b]? = some (.cells #[.int .u32 0, .int .i32 0, .int .u32 0, .nilIface, .slice (some ⟨k, 0, none⟩) 4 cc] 63 (0, 0))) (hk : Four w k) (hne : b ≠ k) :
    Calls Try.prog 26 #[.pointer (some ⟨b, 0, none⟩), .func (.func 24) #[.pointer (some ⟨b, 0, none⟩)] #[]] w fun e w' => e = .returned (.tuple #[]) ∧ ∃ R T c1 c2 k1 k2, IsR w' R T c1 c2 k1 k2 ∧ Done w' b R ∧ Below b w w' := by
  have HB := Aside0.mk hb
  have HK := Aside0.mk hk
  have HN := Aside0.mk hne
  have HB1 := Aside0.mk (blk_put (cs' := #[.int .u32 0, .int .i32 1, .int .u32 0, .nilIface, .slice (some ⟨k, 0, none⟩) 4 cc]) hb 1 (.int .i32 1) rfl)
  have hl := run_call_load (P := Try.prog) Try.func28 (by kernel_rfl) (by kernel_rfl) (by kernel_rfl) .u32 (by kernel_rfl) (w := w.setCell ⟨b, 1, none⟩ (.int .i32 1)) (a := ⟨b, 0, none⟩) (x := 0) ((blk_cell HB1.out 0).trans rfl)
  have hnot : ∀ (x : Bool) (w : World), (Op.unary .not (.bool x)).run Try.prog w = .ok (.bool (!x)) w := fun _ _ => rfl
  clear hb hk hne
  go_enter_defers Try.func26, Try.ntmps26
  go_wp2_with (first | (go_at_call 29; refine (lock_free ⟨b, 1, none⟩ _ ((blk_cell HB.out 1).trans rfl) (blk_frozen HB.out 1)).mono ?_; rintro e w' ⟨rfl, rfl⟩) | (go_at_call 24; go_loud ((with_reducible refine (once_calls b k cc _ _ _ _ HB1.out (Four.set HK.out HN.out _)).mono ?_); rintro e w2 ⟨rfl, R, T, c1, c2, k1, k2, hR, hl3, hb2, hd⟩; have HR2 := Aside0.mk hR; have HL2 := Aside0.mk hl3; have HB2 := Aside0.mk hb2; have HD2 := Aside0.mk hd; clear hR hl3 hb2 hd)) | (go_at_call 25; go_in))
  have HB3 := Aside0.mk (blk_put (cs' := #[.int .u32 1, .int .i32 1, .int .u32 0, .iface 82 (.pointer (some ⟨R, 0, none⟩)), .slice none 0 0]) (blk_drew HB2.out) 0 (.int .u32 1) rfl)
  refine leaves_cons (f := 31) (args := #[.pointer (some ⟨b, 0, none⟩), .bool true]) (by simp) (by simp [go_sem]) ?_
  refine (store_deferred ⟨b, 0, none⟩ (.int .u32 0) .returning _ ((blk_cell HB2.out 0).trans rfl) (blk_frozen HB2.out 0)).mono ?_
  rintro e u' w'' ⟨rfl, rfl, rfl⟩
  refine leaves_cons (f := 30) (args := #[.pointer (some ⟨b, 1, none⟩)]) (by simp [settle]) (by simp [go_sem]) ?_
  refine (unlock_deferred ⟨b, 1, none⟩ _ _ ((blk_cell HB3.out 1).trans rfl) (blk_frozen HB3.out 1)).mono ?_
  rintro e u' w'' ⟨rfl, rfl, rfl⟩
  have h1 : IsR w2.drew R T c1 c2 k1 k2 := ⟨HR2.out.no, HR2.out.sl, HR2.out.ti, HR2.out.li, HR2.out.t0, HR2.out.t1, HR2.out.a0, HR2.out.a1, HR2.out.b0, HR2.out.b1⟩
  simp [Leaves, settle, results, Try.results26]
  exact ⟨R, ⟨T, c1, c2, k1, k2, IsR.set (IsR.set h1 HL2.out _) HL2.out _⟩, ⟨blk_put HB3.out 1 _ rfl⟩, (((Below.setCell (Below.refl b w) (p := ⟨b, 1, none⟩) (Nat.le_refl _) _).trans HD2.out).drew.setCell (p := ⟨b, 0, none⟩) (Nat.le_refl _) _).setCell (p := ⟨b, 1, none⟩) (Nat.le_refl _) _⟩

set_option maxRecDepth 100000 in
set_option maxHeartbeats 2000000 in
theorem do_calls (b k cc : Nat) (w : World) (hb : w.heap[b]? = some (.cells #[.int .u32 0, .int .i32 0, .int .u32 0, .nilIface, .slice (some ⟨k, 0, none⟩) 4 cc] 63 (0, 0))) (hk : Four w k) (hne : b ≠ k) :
    Calls Try.prog 23 #[.pointer (some ⟨b, 0, none⟩), .func (.func 24) #[.pointer (some ⟨b, 0, none⟩)] #[]] w fun e w' => e = .returned (.tuple #[]) ∧ ∃ R T c1 c2 k1 k2, IsR w' R T c1 c2 k1 k2 ∧ Done w' b R ∧ Below b w w' := by
  have hl := run_call_load (P := Try.prog) Try.func28 (by kernel_rfl) (by kernel_rfl) (by kernel_rfl) .u32 (by kernel_rfl) (w := w) (a := ⟨b, 0, none⟩) (x := 0) ((blk_cell hb 0).trans rfl)
  have hnot : ∀ (x : Bool) (w : World), (Op.unary .not (.bool x)).run Try.prog w = .ok (.bool (!x)) w := fun _ _ => rfl
  have HB := Aside0.mk hb
  have HK := Aside0.mk hk
  have HN := Aside0.mk hne
  clear hb hk hne
  go_enter Try.func23, Try.ntmps23
  go_wp2_with (first | (go_at_call 26; go_loud ((with_reducible refine (slow_calls b k cc _ HB.out HK.out HN.out).mono ?_); rintro e w2 ⟨rfl, H⟩; have HH := Aside0.mk H; clear H)) | (go_at_call 25; go_in))
  go_end0
  exact ⟨rfl, HH.out⟩

theorem heap_new2 (w : World) (o o' : Obj) : ((w.alloc o).alloc o').heap[w.heap.size + 1]? = some o' := by
  have h := blk_new (w.alloc o) o'
  have hs : (w.alloc o).heap.size = w.heap.size + 1 := by simp
  rw [hs] at h
  exact h
set_option maxRecDepth 100000 in
theorem app4_run (W : World) (g : Nat) (hg : Four W g) :
    (Builtin.append_ #[22, 22] 22 #[.slice none 0 0, .slice (some ⟨g, 0, none⟩) 4 4]).run Try.prog W = .ok (.slice (some ⟨W.heap.size, 0, none⟩) 4 (grownCap W 4 0 9)) (W.drew.alloc (.cells (#[.string ⟨#[126]⟩, .string ⟨#[126, 48]⟩, .string ⟨#[47]⟩, .string ⟨#[126, 49]⟩] ++ Builtin.zeroCells #[.string ⟨#[]⟩] (grownCap W 4 0 9 - 4)) 9)) := by
  have hm : (Try.prog.info? 9).map (fun i => (i.size, i.zero, i.bytes)) = some (1, some (.string ⟨#[]⟩), 16) := by kernel_rfl
  obtain ⟨i, hi, h1⟩ := Option.map_eq_some_iff.1 hm
  injection h1 with hs h1
  injection h1 with hz hb
  have h := run_append_nil (P := Try.prog) W 22 22 9 i (.string ⟨#[]⟩) Try.underlying22 hi hz ⟨g, 0, none⟩ 4 4 [.string ⟨#[126]⟩, .string ⟨#[126, 48]⟩, .string ⟨#[47]⟩, .string ⟨#[126, 49]⟩] (by rw [hs]; rfl) (by
    intro j u hu
    have hj := (List.getElem?_eq_some_iff.1 hu).1
    have hj : j < 4 := by simpa using hj
    rcases (show j = 0 ∨ j = 1 ∨ j = 2 ∨ j = 3 by omega) with rfl | rfl | rfl | rfl <;> (injection hu with hu; subst hu)
    · exact hg.h0
    · exact hg.h1
    · exact hg.h2
    · exact hg.h3) (by decide) (by decide) (by rw [hb]; decide)
  exact h
set_option maxRecDepth 100000 in
set_option maxHeartbeats 2000000 in
theorem new_calls (g : Nat) (w : World) (hg : Four w g) :
    Calls Try.prog 20 #[.slice (some ⟨g, 0, none⟩) 4 4] w fun e w' => ∃ b k cc, e = .returned (.pointer (some ⟨b, 0, none⟩)) ∧ w'.heap[b]? = some (.cells #[.int .u32 0, .int .i32 0, .int .u32 0, .nilIface, .slice (some ⟨k, 0, none⟩) 4 cc] 63 (0, 0)) ∧ Four w' k ∧ b ≠ k ∧ w.heap.size ≤ b ∧ Below w.heap.size w w' := by
  have HG := Aside0.mk hg
  clear hg
  go_enter Try.func20, Try.ntmps20
  go_wp2_with ((with_reducible refine gate_builtin (b := .append) (xs := #[.const (.slice none 0 0), .tmp 8]) rfl ?_); at_builtin; go_loud (refine Lib.wpList_append_run _ rfl (.const (.slice none 0 0)) (.tmp 8) 22 22 rfl _ _ rfl rfl _ _ (app4_run _ g HG.out) ?_))
  go_ret
  refine ⟨w.heap.size + 1, w.heap.size, grownCap w 4 0 9, rfl, ?_, ⟨?_, ?_, ?_, ?_⟩, by omega, by omega, below_drew (below_alloc (below_alloc (Below.refl _ _) _) _)⟩
  · exact blk_drew (heap_new2 _ _ _)
  all_goals (refine (cell_of_row _ w.heap.size _ _ _ (0, 0) (blk_drew (blk_alloc (blk_new w _) _))).trans ?_; rw [Array.getElem?_append_left (by decide)]; rfl)
end Go.Proofs.Ytdlkmnohmdnogaa.Rep
