/- Several texts in one: what the claim's last text rests on. No conditions. -/
import Derived.Test.YtdlkmnohmdnogaaDoorMDp14
import Derived.Test.YtdlkmnohmdnogaaDoorMDp10
import Derived.Test.YtdlkmnohmdnogaaDoorMDp15
section
namespace Go.Proofs.YtdlkmnohmdnogaaDoor.Reg
set_option linter.unusedVariables false
set_option linter.unusedSimpArgs false
open Go.RowKit Go.Lib Go.Proofs.YtdlkmnohmdnogaaDoorW.PrintWords Go.Proofs.YtdlkmnohmdnogaaDoorW.PrintLast Go.Proofs.YtdlkmnohmdnogaaDoorW.PrintMore Go.Proofs.YtdlkmnohmdnogaaDoor.Onc Go.Proofs.YtdlkmnohmdnogaaDoor.Pre Go.Proofs.YtdlkmnohmdnogaaDoor.Gna Go.Proofs.YtdlkmnohmdnogaaDoor.Gnc Go.Proofs.YtdlkmnohmdnogaaDoor.Gnl Go.Proofs.YtdlkmnohmdnogaaDoor.Uns Go.Proofs.YtdlkmnohmdnogaaDoor.Rep
theorem IsG.set {w : World} {G T0 N1 T1 N2 N3 : Nat} (h : IsG w G T0 N1 T1 N2 N3) {b j : Nat} (hb : b < G ∧ b < T0 ∧ b < N1 ∧ b < T1 ∧ b < N2 ∧ b < N3) (v : Value) : IsG (w.setCell ⟨b, j, none⟩ v) G T0 N1 T1 N2 N3 := by
 have k : ∀ {i u}, w.cell? ⟨G, i, none⟩ = some u → (w.setCell ⟨b, j, none⟩ v).cell? ⟨G, i, none⟩ = some u := fun {i u} e =>
  (World.cell?_setCell_other w ⟨b, j, none⟩ ⟨G, i, none⟩ v (fun e => absurd (congrArg Addr.block e) (Nat.ne_of_lt hb.1))).trans e
 exact ⟨⟨k h.m.c0, k h.m.c1, k h.m.c2, k h.m.c3, k h.m.c4, k h.m.c5, fun i hi => k (h.m.map i hi)⟩, blk_far h.t0 (Ne.symm (Nat.ne_of_lt hb.2.1)) _, h.n1.ft (Ne.symm (Nat.ne_of_lt hb.2.2.1)) _, blk_far h.t1 (Ne.symm (Nat.ne_of_lt hb.2.2.2.1)) _, h.n2.ft (Ne.symm (Nat.ne_of_lt hb.2.2.2.2.1)) _, h.n3.ft (Ne.symm (Nat.ne_of_lt hb.2.2.2.2.2)) _⟩

/-- The four texts of 'escaped'. -/
structure FourG (w : World) (k : Nat) : Prop where
 h0 : w.cell? ⟨k, 0, none⟩ = some (.string ⟨#[126, 48]⟩)
 h1 : w.cell? ⟨k, 1, none⟩ = some (.string ⟨#[126]⟩)
 h2 : w.cell? ⟨k, 2, none⟩ = some (.string ⟨#[126, 49]⟩)
 h3 : w.cell? ⟨k, 3, none⟩ = some (.string ⟨#[47]⟩)
theorem FourG.set {w : World} {k : Nat} (h : FourG w k) {b j : Nat} (hb : b ≠ k) (v : Value) : FourG (w.setCell ⟨b, j, none⟩ v) k := by
 have q : ∀ {i u}, w.cell? ⟨k, i, none⟩ = some u → (w.setCell ⟨b, j, none⟩ v).cell? ⟨k, i, none⟩ = some u := fun {i u} e =>
  (World.cell?_setCell_other w ⟨b, j, none⟩ ⟨k, i, none⟩ v (fun e => absurd (congrArg Addr.block e) hb)).trans e
 exact ⟨q h.h0, q h.h1, q h.h2, q h.h3⟩

set_option maxRecDepth 100000 in
set_option maxHeartbeats 2000000 in
theorem build_calls (b k cc : Nat) (w : World) (hb : w.cell? ⟨b, 4, none⟩ = some (.slice (some ⟨k, 0, none⟩) 4 cc)) (hk : FourG w k) :
  Calls Tryd.prog 26 #[.pointer (some ⟨b, 0, none⟩)] w fun e w' => ∃ G T0 N1 T1 N2 N3, e = .returned (.iface 67 (.pointer (some ⟨G, 0, none⟩))) ∧ IsG w' G T0 N1 T1 N2 N3 ∧ (w.heap.size ≤ G ∧ w.heap.size ≤ T0 ∧ w.heap.size ≤ N1 ∧ w.heap.size ≤ T1 ∧ w.heap.size ≤ N2 ∧ w.heap.size ≤ N3) ∧ Below w.heap.size w w' := by
 have HK := aM hk
 have k0 := hk.h0
 clear hk
 go_enter Tryd.func26, Tryd.ntmps26
 go_wp2
 refine wp_loop_rounds 1 ?_
 rw [rounds_succ]
 go_wp2_with (go_at_call 36; go_loud ((with_reducible refine (make_calls k _ HK.out.h0 HK.out.h1 HK.out.h2 HK.out.h3 cc).mono ?_); rintro e w2 ⟨G, T0, N1, T1, N2, N3, rfl, hR, hl, hd⟩; have HR2 := aM hR; have HL2 := aM hl; have HD2 := aM hd; clear hR hl hd))
 go_ret
 exact ⟨G, T0, N1, T1, N2, N3, rfl, HR2.out, HL2.out, HD2.out⟩
set_option maxRecDepth 100000 in
set_option maxHeartbeats 2000000 in
theorem once_calls (b k cc : Nat) (d s m : Value) (w : World) (hb : w.heap[b]? = some (.cells #[d, s, m, .nilIface, .slice (some ⟨k, 0, none⟩) 4 cc] 50 (0, 0))) (hk : FourG w k) :
  Calls Tryd.prog 20 #[.pointer (some ⟨b, 0, none⟩)] w fun e w' => e = .returned (.tuple #[]) ∧ ∃ G T0 N1 T1 N2 N3, IsG w' G T0 N1 T1 N2 N3 ∧ (b < G ∧ b < T0 ∧ b < N1 ∧ b < T1 ∧ b < N2 ∧ b < N3) ∧
   w'.heap[b]? = some (.cells #[d, s, m, .iface 67 (.pointer (some ⟨G, 0, none⟩)), .slice none 0 0] 50 (0, 0)) ∧ Below b w w' := by
 have HB := aM hb
 have HK := aM hk
 have HL := aM (blk_lt hb)
 clear hb hk
 go_enter Tryd.func20, Tryd.ntmps20
 go_wp2_with (go_at_call 26; go_loud ((with_reducible refine (build_calls b k cc _ ((blk_cell HB.out 4).trans rfl) HK.out).mono ?_); rintro e w2 ⟨G, T0, N1, T1, N2, N3, rfl, hR, hl, hd⟩; have HR2 := aM hR; have HL2 := aM hl; have HB2 := aM (blk_below HB.out hd); have HD2 := aM hd; clear hR hl hd; have c3 := (blk_cell HB2.out 3).trans rfl; have f3 := blk_frozen HB2.out 3; have c4 : ∀ v, (w2.setCell ⟨b, 3, none⟩ v).cell? ⟨b, 4, none⟩ = some (.slice (some ⟨k, 0, none⟩) 4 cc) := fun v => (blk_cell (blk_set HB2.out 3 v) 4).trans rfl; have f4 : ∀ v, (w2.setCell ⟨b, 3, none⟩ v).frozen? ⟨b, 4, none⟩ = false := fun v => blk_frozen (blk_set HB2.out 3 v) 4))
 go_end0
 have hlt := HL.out
 have hl2 := HL2.out
 have hl3 : b < G ∧ b < T0 ∧ b < N1 ∧ b < T1 ∧ b < N2 ∧ b < N3 := by omega
 exact ⟨rfl, G, T0, N1, T1, N2, N3, IsG.set (IsG.set HR2.out hl3 _) hl3 _, hl3, blk_put (blk_put HB2.out 3 _ rfl) 4 _ rfl, ((HD2.out.mono (Nat.le_of_lt hlt)).setCell (p := ⟨b, 3, none⟩) (Nat.le_refl _) _).setCell (p := ⟨b, 4, none⟩) (Nat.le_refl _) _⟩

/-- The Replacer behind its once: done, the lock free, the replacer laid. -/
structure Done (w : World) (b G : Nat) : Prop where
 blk : w.heap[b]? = some (.cells #[.int .u32 1, .int .i32 0, .int .u32 0, .iface 67 (.pointer (some ⟨G, 0, none⟩)), .slice none 0 0] 50 (0, 0))

set_option maxRecDepth 100000 in
set_option maxHeartbeats 2000000 in
theorem slow_calls (b k cc : Nat) (w : World) (hb : w.heap[b]? = some (.cells #[.int .u32 0, .int .i32 0, .int .u32 0, .nilIface, .slice (some ⟨k, 0, none⟩) 4 cc] 50 (0, 0))) (hk : FourG w k) (hne : b ≠ k) :
  Calls Tryd.prog 25 #[.pointer (some ⟨b, 0, none⟩), .func (.func 20) #[.pointer (some ⟨b, 0, none⟩)] #[]] w fun e w' => e = .returned (.tuple #[]) ∧ ∃ G T0 N1 T1 N2 N3, IsG w' G T0 N1 T1 N2 N3 ∧ Done w' b G ∧ Below b w w' := by
 have HB := aM hb
 have HK := aM hk
 have HN := aM hne
 have HB1 := aM (blk_put (cs' := #[.int .u32 0, .int .i32 1, .int .u32 0, .nilIface, .slice (some ⟨k, 0, none⟩) 4 cc]) hb 1 (.int .i32 1) rfl)
 have hl := run_call_load (P := Tryd.prog) Tryd.func31 (by kernel_rfl) (by kernel_rfl) (by kernel_rfl) .u32 (by kernel_rfl) (w := w.setCell ⟨b, 1, none⟩ (.int .i32 1)) (a := ⟨b, 0, none⟩) (x := 0) ((blk_cell HB1.out 0).trans rfl)
 have hnot : ∀ (x : Bool) (w : World), (Op.unary .not (.bool x)).run Tryd.prog w = .ok (.bool (!x)) w := fun _ _ => rfl
 clear hb hk hne
 go_enter_defers Tryd.func25, Tryd.ntmps25
 go_wp2_with (first | (go_at_call 32; refine (lock_free ⟨b, 1, none⟩ _ ((blk_cell HB.out 1).trans rfl) (blk_frozen HB.out 1)).mono ?_; rintro e w' ⟨rfl, rfl⟩) | (go_at_call 20; go_loud ((with_reducible refine (once_calls b k cc _ _ _ _ HB1.out (FourG.set HK.out HN.out _)).mono ?_); rintro e w2 ⟨rfl, G, T0, N1, T1, N2, N3, hR, hl3, hb2, hd⟩; have HR2 := aM hR; have HL2 := aM hl3; have HB2 := aM hb2; have HD2 := aM hd; clear hR hl3 hb2 hd)) | (go_at_call 24; go_in))
 have HB3 := aM (blk_put (cs' := #[.int .u32 1, .int .i32 1, .int .u32 0, .iface 67 (.pointer (some ⟨G, 0, none⟩)), .slice none 0 0]) (blk_drew HB2.out) 0 (.int .u32 1) rfl)
 refine leaves_cons (f := 34) (args := #[.pointer (some ⟨b, 0, none⟩), .bool true]) (by simp) (by simp [go_sem]) ?_
 refine (store_deferred ⟨b, 0, none⟩ (.int .u32 0) .returning _ ((blk_cell HB2.out 0).trans rfl) (blk_frozen HB2.out 0)).mono ?_
 rintro e u' w'' ⟨rfl, rfl, rfl⟩
 refine leaves_cons (f := 33) (args := #[.pointer (some ⟨b, 1, none⟩)]) (by simp [settle]) (by simp [go_sem]) ?_
 refine (unlock_deferred ⟨b, 1, none⟩ _ _ ((blk_cell HB3.out 1).trans rfl) (blk_frozen HB3.out 1)).mono ?_
 rintro e u' w'' ⟨rfl, rfl, rfl⟩
 have h1 : IsG w2.drew G T0 N1 T1 N2 N3 := IsG.drewN HR2.out 1
 simp [Leaves, settle, results, Tryd.results25]
 exact ⟨G, ⟨T0, N1, T1, N2, N3, IsG.set (IsG.set h1 HL2.out _) HL2.out _⟩, ⟨blk_put HB3.out 1 _ rfl⟩, (((Below.setCell (Below.refl b w) (p := ⟨b, 1, none⟩) (Nat.le_refl _) _).trans HD2.out).drew.setCell (p := ⟨b, 0, none⟩) (Nat.le_refl _) _).setCell (p := ⟨b, 1, none⟩) (Nat.le_refl _) _⟩

set_option maxRecDepth 100000 in
set_option maxHeartbeats 2000000 in
theorem do_calls (b k cc : Nat) (w : World) (hb : w.heap[b]? = some (.cells #[.int .u32 0, .int .i32 0, .int .u32 0, .nilIface, .slice (some ⟨k, 0, none⟩) 4 cc] 50 (0, 0))) (hk : FourG w k) (hne : b ≠ k) :
  Calls Tryd.prog 19 #[.pointer (some ⟨b, 0, none⟩), .func (.func 20) #[.pointer (some ⟨b, 0, none⟩)] #[]] w fun e w' => e = .returned (.tuple #[]) ∧ ∃ G T0 N1 T1 N2 N3, IsG w' G T0 N1 T1 N2 N3 ∧ Done w' b G ∧ Below b w w' := by
 have hl := run_call_load (P := Tryd.prog) Tryd.func31 (by kernel_rfl) (by kernel_rfl) (by kernel_rfl) .u32 (by kernel_rfl) (w := w) (a := ⟨b, 0, none⟩) (x := 0) ((blk_cell hb 0).trans rfl)
 have hnot : ∀ (x : Bool) (w : World), (Op.unary .not (.bool x)).run Tryd.prog w = .ok (.bool (!x)) w := fun _ _ => rfl
 have HB := aM hb
 have HK := aM hk
 have HN := aM hne
 clear hb hk hne
 go_enter Tryd.func19, Tryd.ntmps19
 go_wp2_with (first | (go_at_call 25; go_loud ((with_reducible refine (slow_calls b k cc _ HB.out HK.out HN.out).mono ?_); rintro e w2 ⟨rfl, H⟩; have HH := aM H; clear H)) | (go_at_call 24; go_in))
 go_end0
 exact ⟨rfl, HH.out⟩

set_option maxRecDepth 100000 in
theorem app4_run (W : World) (g : Nat) (hg : FourG W g) :
  (Builtin.append_ #[22, 22] 22 #[.slice none 0 0, .slice (some ⟨g, 0, none⟩) 4 4]).run Tryd.prog W = .ok (.slice (some ⟨W.heap.size, 0, none⟩) 4 (grownCap W 4 0 9)) (W.drew.alloc (.cells (#[.string ⟨#[126, 48]⟩, .string ⟨#[126]⟩, .string ⟨#[126, 49]⟩, .string ⟨#[47]⟩] ++ Builtin.zeroCells #[.string ⟨#[]⟩] (grownCap W 4 0 9 - 4)) 9)) := by
 have hm : (Tryd.prog.info? 9).map (fun i => (i.size, i.zero, i.bytes)) = some (1, some (.string ⟨#[]⟩), 16) := by kernel_rfl
 obtain ⟨i, hi, h1⟩ := Option.map_eq_some_iff.1 hm
 injection h1 with hs h1
 injection h1 with hz hb
 have h := run_append_nil (P := Tryd.prog) W 22 22 9 i (.string ⟨#[]⟩) Tryd.underlying22 hi hz ⟨g, 0, none⟩ 4 4 [.string ⟨#[126, 48]⟩, .string ⟨#[126]⟩, .string ⟨#[126, 49]⟩, .string ⟨#[47]⟩] (by rw [hs]; rfl) (by
  intro j u hu
  have hj := (List.getElem?_eq_some_iff.1 hu).1
  have hj : j < 4 := by simpa using hj
  rcases (show j = 0 ∨ j = 1 ∨ j = 2 ∨ j = 3 by omega) with rfl | rfl | rfl | rfl <;> (injection hu with hu; subst hu)
  ·exact hg.h0
  ·exact hg.h1
  ·exact hg.h2
  ·exact hg.h3) (by decide) (by decide) (by rw [hb]; decide)
 exact h
set_option maxRecDepth 100000 in
set_option maxHeartbeats 2000000 in
theorem new_calls (g : Nat) (w : World) (hg : FourG w g) :
  Calls Tryd.prog 14 #[.slice (some ⟨g, 0, none⟩) 4 4] w fun e w' => ∃ b k cc, e = .returned (.pointer (some ⟨b, 0, none⟩)) ∧ w'.heap[b]? = some (.cells #[.int .u32 0, .int .i32 0, .int .u32 0, .nilIface, .slice (some ⟨k, 0, none⟩) 4 cc] 50 (0, 0)) ∧ FourG w' k ∧ b ≠ k ∧ w.heap.size ≤ b ∧ Below w.heap.size w w' := by
 have HG := aM hg
 clear hg
 go_enter Tryd.func14, Tryd.ntmps14
 go_wp2_with ((with_reducible refine gate_builtin (b := .append) (xs := #[.const (.slice none 0 0), .tmp 8]) rfl ?_); at_builtin; go_loud (refine Lib.wpList_append_run _ rfl (.const (.slice none 0 0)) (.tmp 8) 22 22 rfl _ _ rfl rfl _ _ (app4_run _ g HG.out) ?_))
 go_ret
 refine ⟨w.heap.size + 1, w.heap.size, grownCap w 4 0 9, rfl, ?_, ⟨?_, ?_, ?_, ?_⟩, by omega, by omega, below_drew (below_alloc (below_alloc (Below.refl _ _) _) _)⟩
 ·exact blk_drew (Go.Proofs.YtdlkmnohmdnogaaDoor.Rep.heap_new2 _ _ _)
 all_goals (refine (cell_of_row _ w.heap.size _ _ _ (0, 0) (blk_drew (blk_alloc (blk_new w _) _))).trans ?_; rw [Array.getElem?_append_left (by decide)]; rfl)

theorem lows {w : World} {G T0 N1 T1 N2 N3 : Nat} (h : IsG w G T0 N1 T1 N2 N3) : G < w.heap.size ∧ T0 < w.heap.size ∧ N1 < w.heap.size ∧ T1 < w.heap.size ∧ N2 < w.heap.size ∧ N3 < w.heap.size :=
 ⟨World.block_lt_of_cell? w _ h.m.c0, blk_lt h.t0, h.n1.lt, blk_lt h.t1, h.n2.lt, h.n3.lt⟩
theorem nil_ahead (a : Addr) (w : World) : (nilAhead 252 67 (.pointer (some a)) "Replace").run Tryd.prog w = .ok (some false) w := by kernel_rfl
theorem method_rep (a : Addr) (w : World) : (method 252 67 (.pointer (some a)) "Replace").run Tryd.prog w = .ok (93, .pointer (some a)) w := by kernel_rfl

set_option maxRecDepth 100000 in
set_option maxHeartbeats 2000000 in
theorem replace_calls (b k cc : Nat) (s : ByteArray) (w : World) (hb : w.heap[b]? = some (.cells #[.int .u32 0, .int .i32 0, .int .u32 0, .nilIface, .slice (some ⟨k, 0, none⟩) 4 cc] 50 (0, 0))) (hk : FourG w k) (hne : b ≠ k) (hs : s.size ≤ 1048576) :
  Calls Tryd.prog 15 #[.pointer (some ⟨b, 0, none⟩), .string s] w fun e w' => e = .returned (.string (Go.Proofs.YtdlkmnohmdnogaaDoor.Gnr.mk (un s.data.toList))) ∧ Below b w w' := by
 have HB := aM hb
 have HK := aM hk
 have HN := aM hne
 have HS := aM hs
 have hmf : ∀ (fn : Fn) (first cap : Array Value) (w : World), (Instr.makeFunc fn first cap).run Tryd.prog w = .ok (.func fn first cap) w := fun _ _ _ _ => rfl
 have hna := nil_ahead
 have hme := method_rep
 clear hb hk hne hs
 go_enter Tryd.func15, Tryd.ntmps15
 go_wp2_with (first | (go_at_call 19; go_loud ((with_reducible refine (do_calls b k cc _ HB.out HK.out HN.out).mono ?_); rintro e w2 ⟨rfl, G, T0, N1, T1, N2, N3, hR, hD, hd⟩; have HR2 := aM hR; have HD2 := aM hd; have HB2 := aM hD.blk; clear hR hD hd; have c3 := (blk_cell HB2.out 3).trans rfl)) | (go_at_call 93; go_loud ((with_reducible refine (Go.Proofs.YtdlkmnohmdnogaaDoor.Gnr.rep_calls G T0 N1 T1 N2 N3 s _ HR2.out (lows HR2.out) HS.out).mono ?_); rintro e w3 ⟨rfl, hd⟩; have HD3 := aM hd; clear hd)))
 go_ret
 exact ⟨rfl, HD2.out.trans (HD3.out.mono (Nat.le_of_lt (blk_lt HB2.out)))⟩
set_option maxRecDepth 100000 in
set_option maxHeartbeats 2000000 in
/-- The two calls by which a path's part is read. -/
theorem lit_four (w : World) : FourG (w.alloc (.cells #[.string ⟨#[126, 48]⟩, .string ⟨#[126]⟩, .string ⟨#[126, 49]⟩, .string ⟨#[47]⟩] 9)) w.heap.size := ⟨(blk_cell (blk_new w _) 0).trans rfl, (blk_cell (blk_new w _) 1).trans rfl, (blk_cell (blk_new w _) 2).trans rfl, (blk_cell (blk_new w _) 3).trans rfl⟩
end Go.Proofs.YtdlkmnohmdnogaaDoor.Reg
end
