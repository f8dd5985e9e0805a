/- Several texts in one: what the claim's last text rests on. No conditions. -/
import Derived.Test.YtdlkmnohmdnogaaDoorProg
import Derived.Test.YtdlkmnohmdnogaaDoorMDp7
import Derived.Lib.Builder
import Derived.Lib.AppendStr
import Derived.Lib.UnsafeStr
import Derived.Laws.Externs
import Derived.RegionTactic
import Derived.RegionCalls
import Derived.ChangeAlike
section
namespace Go.Proofs.YtdlkmnohmdnogaaDoor.Bdr
set_option linter.unusedVariables false
set_option linter.unusedSimpArgs false
open Go.RowKit Go.Lib Go.Proofs.YtdlkmnohmdnogaaDoorW.PrintWords Go.Proofs.YtdlkmnohmdnogaaDoorW.PrintLast Go.Proofs.YtdlkmnohmdnogaaDoorW.PrintMore Go.Proofs.YtdlkmnohmdnogaaDoor.Pre
theorem info_b : ∃ j, Tryd.prog.info? 131 = some j ∧ j.size ≠ 0 := by
 have h : (Tryd.prog.info? 131).map (·.size) = some 2 := by kernel_rfl
 obtain ⟨j, hj, h2⟩ := Option.map_eq_some_iff.1 h
 exact ⟨j, hj, by rw [h2]; decide⟩
theorem info_u8 : ∃ i, Tryd.prog.info? 5 = some i ∧ i.zero = some (.int .u8 0) ∧ i.size = 1 ∧ i.bytes = 1 := by
 have h : (Tryd.prog.info? 5).map (fun i => (i.zero, i.size, i.bytes)) = some (some (.int .u8 0), 1, 1) := by kernel_rfl
 obtain ⟨j, hj, h2⟩ := Option.map_eq_some_iff.1 h
 injection h2 with h3 h4
 injection h4 with h4 h5
 exact ⟨j, hj, h3, h4, h5⟩
theorem lies : liesAt Tryd.prog Tryd.prog.depth 131 (2 / Tryd.prog.cellsOf 131) 0 131 1 = true := by kernel_rfl
theorem no_escape (x : Value) (w : World) : (callFunc 91 #[x]).run Tryd.prog w = .ok (.value x) w := by
 rw [run_callFunc_extern Tryd.func91 (by kernel_rfl) (by kernel_rfl) (by kernel_rfl) (e := Extern.AbiNoEscape.same) (by kernel_rfl)]
 rw [run_noEscape]
 rfl

theorem own_slice {w : World} {B n : Nat} {e : TypeId} {v : Value} {xs : List Value} (h : w.ownsRow B e 1 v n xs) : ∃ ao m cap, v = .slice ao m cap := by
 rcases h.2 with ⟨hv, _⟩ | ⟨g, cap, cur, hv, _⟩
 ·exact ⟨_, _, _, hv⟩
 ·exact ⟨_, _, _, hv⟩
/-- The walk of copyCheck: behind it the builder is used. -/
theorem check_calls (B b : Nat) (bs : List Value) (w : World) (h : IsBuilder 131 5 B b bs w) :
  Calls Tryd.prog 89 #[.pointer (some ⟨b, 0, none⟩)] w fun e w' => e = .returned (.tuple #[]) ∧ BuilderAt 131 5 B b (.pointer (some ⟨b, 0, none⟩)) bs w' ∧ Below B w w' := by
 obtain ⟨j, hj, hj0⟩ := info_b
 rcases h with h | h
 ·have H := aM h
  have h0 := h.cell0
  have hf := h.frozen0
  have e1 := run_to_unsafe (P := Tryd.prog) w ⟨b, 0, none⟩ Tryd.underlying129 Tryd.underlying101 hj hj0 h.shape (Nat.zero_lt_succ 1)
  have e2 := no_escape
  have e3 := run_from_unsafe (P := Tryd.prog) w ⟨b, 0, none⟩ Tryd.underlying101 Tryd.underlying129 hj h.shape lies
  clear h hj hj0
  go_enter Tryd.func89, Tryd.ntmps89
  go_wp2
  go_end0
  exact ⟨rfl, H.out.used _, (Below.refl B w).setCell (p := ⟨b, 0, none⟩) H.out.1 _⟩
 ·have H := aM h
  have h0 := h.cell0
  have hn := run_neq_ptr_same (P := Tryd.prog) w (⟨b, 0, none⟩ : Addr) Tryd.underlying129 hj
  clear h hj hj0
  go_enter Tryd.func89, Tryd.ntmps89
  go_wp2
  go_end0
  exact ⟨rfl, H.out, Below.refl B _⟩

set_option maxHeartbeats 2000000 in
set_option maxRecDepth 100000 in
theorem write_calls (B b : Nat) (bs : List Value) (s : ByteArray) (w : World) (h : IsBuilder 131 5 B b bs w) (hlen : bs.length + s.size ≤ 140737488355328) (hBw : B ≤ w.heap.size) :
  Calls Tryd.prog 87 #[.pointer (some ⟨b, 0, none⟩), .string s] w fun e w' => e = .returned (.tuple #[.int .i64 s.size, .nilIface]) ∧ BuilderAt 131 5 B b (.pointer (some ⟨b, 0, none⟩)) (bs ++ strCells s) w' ∧ Below B w w' := by
 obtain ⟨i0, hi, hz0, hz1, hz2⟩ := info_u8
 have HI := aM (And.intro hi (And.intro hz0 (And.intro hz1 hz2)))
 have HH := aM h
 have HL := aM hlen
 have HW := aM hBw
 clear h hlen hBw hi hz0 hz1 hz2
 go_enter Tryd.func87, Tryd.ntmps87
 go_wp2_with (first | (go_at_call 89; go_loud ((with_reducible refine (check_calls B b bs _ HH.out).mono ?_); rintro e w1 ⟨rfl, h1, hb1⟩; have HB1 := aM hb1; have HA1 := aM h1; obtain ⟨hB, v, hbk, hown, hne⟩ := h1; have c1 : w1.cell? ⟨b, 1, none⟩ = some v := (blk_cell hbk 1).trans rfl; have HBK := aM hbk; have HOW := aM hown; have HNE := aM hne; have HBB := aM hB; clear hbk hown hne hB hb1)) | ((with_reducible refine gate_builtin (b := .append) (xs := #[.tmp 12, .tmp 13]) rfl ?_); at_builtin; go_loud (refine wpList_append_own_string _ rfl _ _ 33 9 rfl B 5 i0 Tryd.underlying33 Tryd.underlying9 HI.out.1 HI.out.2.1 HI.out.2.2.1 HI.out.2.2.2 _ _ _ rfl HOW.out s rfl ?c3 ?c4 ?c5 ?_; (case c3 => (have := HL.out; unfold maxLen; omega)); (case c4 => exact HL.out); (case c5 => exact Nat.le_trans HW.out HB1.out.size); intro v' w2 hown' hgrow _; have HO2 := aM hown'; have HG2 := aM hgrow; have hb2 := blk_grown HBK.out hgrow (fun e => HNE.out e.symm); have HB2 := aM hb2; have d1 := (blk_cell hb2 1).trans rfl; have f1 := blk_frozen hb2 1; obtain ⟨ao, n', cap, rfl⟩ := own_slice hown'; clear hown' hgrow hb2)))
 go_ret2
 refine ⟨rfl, ?_, ?_⟩
 ·exact BuilderAt.put (T := 131) (e := 5) HBB.out HB2.out (bs' := bs ++ strCells s) (by simpa [strCells_length] using HO2.out) (by decide)
 ·exact (HB1.out.grown HG2.out (Nat.le_trans HW.out HB1.out.size) (fun k hk => (HOW.out.lt k hk).1)).setCell (p := ⟨b, 1, none⟩) HBB.out _

end Go.Proofs.YtdlkmnohmdnogaaDoor.Bdr
end
