/- Several texts in one: what the claim's last text rests on. No conditions. -/
import Derived.Test.YtdlkmnohmdnogaaDoorMDp13
import Derived.Test.YtdlkmnohmdnogaaDoorMDp0
import Derived.Laws.BytesArg
import Derived.Laws.IdiomStrings
section
namespace Go.Proofs.YtdlkmnohmdnogaaDoor.Gnr
set_option linter.unusedVariables false
set_option linter.unusedSimpArgs false
open Go.RowKit Go.Lib Go.Proofs.YtdlkmnohmdnogaaDoorW.PrintWords Go.Proofs.YtdlkmnohmdnogaaDoorW.PrintLast Go.Proofs.YtdlkmnohmdnogaaDoorW.PrintMore Go.Proofs.YtdlkmnohmdnogaaDoor.Pre Go.Proofs.YtdlkmnohmdnogaaDoor.Gna Go.Proofs.YtdlkmnohmdnogaaDoor.Gnc Go.Proofs.YtdlkmnohmdnogaaDoor.Gnw Go.Proofs.YtdlkmnohmdnogaaDoor.Gns Go.Proofs.YtdlkmnohmdnogaaDoor.Uns Go.Proofs.YtdlkmnohmdnogaaDoor.Bdr
/-- A text of these bytes. -/
def mk (l : List UInt8) : ByteArray := ⟨l.toArray⟩
theorem buf_read {w : World} {B b : Nat} {bs : List UInt8} (h : Buf w B b bs) : ∃ ao n c, w.cell? ⟨b, 0, none⟩ = some (.slice ao n c) ∧ (convert 139 9 (.slice ao n c)).run Tryd.prog w = .ok (.string (mk bs)) w := by
 obtain ⟨hB, v, hbk, hown, hne⟩ := h
 have hc : w.cell? ⟨b, 0, none⟩ = some v := (blk_cell hbk 0).trans rfl
 rcases hown.2 with ⟨rfl, h0⟩ | ⟨g, cap, cur, rfl, hg, hgk, hr⟩
 ·obtain rfl : bs = [] := List.eq_nil_of_length_eq_zero h0
  exact ⟨none, 0, 0, hc, run_convert_bytes_nil (P := Tryd.prog) w _ 5 Tryd.underlying139 Tryd.underlying5 0 0 _ Tryd.underlying9⟩
 ·refine ⟨_, _, _, hc, run_convert_bytes_back (P := Tryd.prog) w _ _ 5 ⟨g, 0, none⟩ cap bs Tryd.underlying139 Tryd.underlying5 Tryd.underlying9 ?_⟩
  intro j hj
  exact hown.cells (g := g) rfl j (.int .u8 ((bs[j]).toNat : Int)) (by simp [byteCells, hj])
theorem buf_new (w0 w : World) (g b n : Nat) (cur : Array Value) (hg : w.heap[g]? = some (.cells cur 5 (0, 0))) (hb : w.heap[b]? = some (.cells #[.slice (some ⟨g, 0, none⟩) 0 n] 139 (0, 0))) (hn : n ≤ maxLen) (hc : cur.size = n) (hgb : g ≠ b) (h1 : w0.heap.size ≤ g) (h2 : w0.heap.size ≤ b) : Buf w w0.heap.size b [] :=
 ⟨h2, _, hb, ⟨rfl, .inr ⟨g, n, cur, rfl, h1, hg, Nat.zero_le _, hn, by rw [hc, Nat.mul_one], rfl⟩⟩, fun e => hgb (Option.some.inj e)⟩

set_option maxHeartbeats 2000000 in
set_option maxRecDepth 100000 in
theorem rep_calls (G T0 N1 T1 N2 N3 : Nat) (s : ByteArray) (w : World) (hG : IsG w G T0 N1 T1 N2 N3) (hlt : G < w.heap.size ∧ T0 < w.heap.size ∧ N1 < w.heap.size ∧ T1 < w.heap.size ∧ N2 < w.heap.size ∧ N3 < w.heap.size) (hs : s.size ≤ 1048576) :
  Calls Tryd.prog 93 #[.pointer (some ⟨G, 0, none⟩), .string s] w fun e w' => e = .returned (.string (mk (un s.data.toList))) ∧ Below w.heap.size w w' := by
 have HG := aM hG
 have HT := aM hlt
 have HS := aM hs
 have hmk : ∀ W : World, (Instr.makeSlice 139 (.int .i64 0) (.int .i64 (s.size : Int))).run Tryd.prog W = .ok (.slice (some ⟨W.heap.size, 0, none⟩) 0 s.size) (W.alloc (.cells (madeCells #[.int .u8 0] s.size) 5)) := fun W => by
  obtain ⟨i0, hi, hz0, hz1, hz2⟩ := info_u8
  have h := run_make (P := Tryd.prog) W 139 5 i0 (.int .u8 0) Tryd.underlying139 hi hz0 .i64 .i64 0 (s.size : Int) (Int.le_refl _) (by omega) (by rw [hz2]; omega) (by omega)
  rw [hz1, Nat.mul_one, Int.toNat_natCast] at h
  exact h
 obtain ⟨w1, hw1⟩ : ∃ x, x = (w.alloc (.cells (madeCells #[.int .u8 0] s.size) 5)).alloc (.cells #[.slice (some ⟨w.heap.size, 0, none⟩) 0 s.size] 139) := ⟨_, rfl⟩
 have hsz : (w.alloc (.cells (madeCells #[.int .u8 0] s.size) 5)).heap.size = w.heap.size + 1 := by simp
 have HB1 : Aside0 (Buf w1 w.heap.size (w.heap.size + 1) []) := ⟨by
  rw [hw1]
  have hb := blk_new (w.alloc (.cells (madeCells #[.int .u8 0] s.size) 5)) (.cells #[.slice (some ⟨w.heap.size, 0, none⟩) 0 s.size] 139)
  rw [hsz] at hb
  exact buf_new w _ w.heap.size (w.heap.size + 1) s.size _ (blk_alloc (blk_new w _) _) hb (by unfold maxLen; omega) (size_madeCells _ _) (by omega) (Nat.le_refl _) (Nat.le_succ _)⟩
 have HBL1 : Aside0 (Below w.heap.size w w1) := ⟨by rw [hw1]; exact below_alloc (below_alloc (Below.refl _ _) _) _⟩
 have HG1 := aM (IsG.later HG.out HBL1.out HT.out)
 have HW1 := aM hw1
 clear hG hlt hs hw1 hsz
 go_enter Tryd.func93, Tryd.ntmps93
 go_upto_region 2 with (fail)
 rw [← HW1.out]
 go_wp2_with (go_at_call 94; go_loud ((with_reducible refine (write_calls G T0 N1 T1 N2 N3 s w.heap.size (w.heap.size + 1) _ HG1.out HT.out HB1.out HS.out HBL1.out.size).mono ?_); rintro e w2 ⟨n, rfl, hbu, hbl⟩; obtain ⟨ao, m, cc, hcell, hcv⟩ := buf_read hbu; have HB2 := aM (HBL1.out.trans hbl); clear hbu hbl))
 go_ret
 exact ⟨rfl, HB2.out⟩
end Go.Proofs.YtdlkmnohmdnogaaDoor.Gnr
end
