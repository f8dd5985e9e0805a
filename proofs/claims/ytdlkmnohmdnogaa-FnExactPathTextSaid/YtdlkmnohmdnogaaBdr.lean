/- strings.Builder: WriteString and String. No conditions. -/
import Derived.Test.YtdlkmnohmdnogaaProg
import Derived.Test.YtdlkmnohmdnogaaBytes
import Derived.Lib.Builder
import Derived.Lib.AppendStr
import Derived.Lib.UnsafeStr
import Derived.Laws.Externs
import Derived.RegionTactic
import Derived.RegionCalls
import Derived.ChangeAlike
namespace Go.Proofs.Ytdlkmnohmdnogaa.Bdr
set_option linter.unusedVariables false
set_option linter.unusedSimpArgs false
open Go.RowKit Go.Lib Go.Proofs.YtdlkmnohmdnogaaW.PrintWords Go.Proofs.YtdlkmnohmdnogaaW.PrintLast Go.Proofs.YtdlkmnohmdnogaaW.PrintMore Go.Proofs.Ytdlkmnohmdnogaa.Pre

theorem info_b : ∃ j, Try.prog.info? 35 = some j ∧ j.size ≠ 0 := by
  have h : (Try.prog.info? 35).map (·.size) = some 2 := by kernel_rfl
  obtain ⟨j, hj, h2⟩ := Option.map_eq_some_iff.1 h
  exact ⟨j, hj, by rw [h2]; decide⟩
theorem info_u8 : ∃ i, Try.prog.info? 5 = some i ∧ i.zero = some (.int .u8 0) ∧ i.size = 1 ∧ i.bytes = 1 := by
  have h : (Try.prog.info? 5).map (fun i => (i.zero, i.size, i.bytes)) = some (some (.int .u8 0), 1, 1) := by kernel_rfl
  obtain ⟨j, hj, h2⟩ := Option.map_eq_some_iff.1 h
  injection h2 with h3 h4
  injection h4 with h4 h5
  exact ⟨j, hj, h3, h4, h5⟩
theorem lies : liesAt Try.prog Try.prog.depth 35 (2 / Try.prog.cellsOf 35) 0 35 1 = true := by kernel_rfl
theorem no_escape (x : Value) (w : World) : (callFunc 22 #[x]).run Try.prog w = .ok (.value x) w := by
  rw [run_callFunc_extern Try.func22 (by kernel_rfl) (by kernel_rfl) (by kernel_rfl) (e := Extern.AbiNoEscape.same) (by kernel_rfl)]
  rw [run_noEscape]
  rfl

theorem own_slice {w : World} {B n : Nat} {e : TypeId} {v : Value} {xs : List Value} (h : w.ownsRow B e 1 v n xs) : ∃ ao m cap, v = .slice ao m cap := by
  rcases h.2 with ⟨hv, _⟩ | ⟨g, cap, cur, hv, _⟩
  · exact ⟨_, _, _, hv⟩
  · exact ⟨_, _, _, hv⟩
/-- The walk of copyCheck: behind it the builder is used. -/
theorem check_calls (B b : Nat) (bs : List Value) (w : World) (h : IsBuilder 35 5 B b bs w) :
    Calls Try.prog 19 #[.pointer (some ⟨b, 0, none⟩)] w fun e w' => e = .returned (.tuple #[]) ∧ BuilderAt 35 5 B b (.pointer (some ⟨b, 0, none⟩)) bs w' ∧ Below B w w' := by
  obtain ⟨j, hj, hj0⟩ := info_b
  rcases h with h | h
  · have H := Aside0.mk h
    have h0 := h.cell0
    have hf := h.frozen0
    have e1 := run_to_unsafe (P := Try.prog) w ⟨b, 0, none⟩ Try.underlying32 Try.underlying46 hj hj0 h.shape (Nat.zero_lt_succ 1)
    have e2 := no_escape
    have e3 := run_from_unsafe (P := Try.prog) w ⟨b, 0, none⟩ Try.underlying46 Try.underlying32 hj h.shape lies
    clear h hj hj0
    go_enter Try.func19, Try.ntmps19
    go_wp2
    go_end0
    exact ⟨rfl, H.out.used _, (Below.refl B w).setCell (p := ⟨b, 0, none⟩) H.out.1 _⟩
  · have H := Aside0.mk h
    have h0 := h.cell0
    have hn := run_neq_ptr_same (P := Try.prog) w (⟨b, 0, none⟩ : Addr) Try.underlying32 hj
    clear h hj hj0
    go_enter Try.func19, Try.ntmps19
    go_wp2
    go_end0
    exact ⟨rfl, H.out, Below.refl B _⟩

set_option maxHeartbeats 2000000 in
set_option maxRecDepth 100000 in
theorem write_calls (B b : Nat) (bs : List Value) (s : ByteArray) (w : World) (h : IsBuilder 35 5 B b bs w) (hlen : bs.length + s.size ≤ 140737488355328) (hBw : B ≤ w.heap.size) :
    Calls Try.prog 15 #[.pointer (some ⟨b, 0, none⟩), .string s] w fun e w' => e = .returned (.tuple #[.int .i64 s.size, .nilIface]) ∧ BuilderAt 35 5 B b (.pointer (some ⟨b, 0, none⟩)) (bs ++ strCells s) w' ∧ Below B w w' := by
  obtain ⟨i0, hi, hz0, hz1, hz2⟩ := info_u8
  have HI := Aside0.mk (And.intro hi (And.intro hz0 (And.intro hz1 hz2)))
  have HH := Aside0.mk h
  have HL := Aside0.mk hlen
  have HW := Aside0.mk hBw
  clear h hlen hBw hi hz0 hz1 hz2
  go_enter Try.func15, Try.ntmps15
  go_wp2_with (first | (go_at_call 19; go_loud ((with_reducible refine (check_calls B b bs _ HH.out).mono ?_); rintro e w1 ⟨rfl, h1, hb1⟩; have HB1 := Aside0.mk hb1; have HA1 := Aside0.mk h1; obtain ⟨hB, v, hbk, hown, hne⟩ := h1; have c1 : w1.cell? ⟨b, 1, none⟩ = some v := (blk_cell hbk 1).trans rfl; have HBK := Aside0.mk hbk; have HOW := Aside0.mk hown; have HNE := Aside0.mk hne; have HBB := Aside0.mk hB; clear hbk hown hne hB hb1)) | ((with_reducible refine gate_builtin (b := .append) (xs := #[.tmp 12, .tmp 13]) rfl ?_); at_builtin; go_loud (refine wpList_append_own_string _ rfl _ _ 33 9 rfl B 5 i0 Try.underlying33 Try.underlying9 HI.out.1 HI.out.2.1 HI.out.2.2.1 HI.out.2.2.2 _ _ _ rfl HOW.out s rfl ?c3 ?c4 ?c5 ?_; (case c3 => (have := HL.out; unfold maxLen; omega)); (case c4 => exact HL.out); (case c5 => exact Nat.le_trans HW.out HB1.out.size); intro v' w2 hown' hgrow _; have HO2 := Aside0.mk hown'; have HG2 := Aside0.mk hgrow; have hb2 := blk_grown HBK.out hgrow (fun e => HNE.out e.symm); have HB2 := Aside0.mk hb2; have d1 := (blk_cell hb2 1).trans rfl; have f1 := blk_frozen hb2 1; obtain ⟨ao, n', cap, rfl⟩ := own_slice hown'; clear hown' hgrow hb2)))
  go_ret2
  refine ⟨rfl, ?_, ?_⟩
  · exact BuilderAt.put (T := 35) (e := 5) HBB.out HB2.out (bs' := bs ++ strCells s) (by simpa [strCells_length] using HO2.out) (by decide)
  · exact (HB1.out.grown HG2.out (Nat.le_trans HW.out HB1.out.size) (fun k hk => (HOW.out.lt k hk).1)).setCell (p := ⟨b, 1, none⟩) HBB.out _

set_option maxHeartbeats 2000000 in
set_option maxRecDepth 100000 in
/-- What String answers of a builder that holds at least one byte. -/
theorem string_calls (B b : Nat) (p : Value) (l : List UInt8) (w : World) (h : BuilderAt 35 5 B b p (byteCells l) w) (h0 : l ≠ []) :
    Calls Try.prog 17 #[.pointer (some ⟨b, 0, none⟩)] w fun e w' => e = .returned (.string ⟨l.toArray⟩) ∧ Below B w w' := by
  obtain ⟨hB, v, hbk, hown, hne⟩ := h
  have hl0 : l.length ≠ 0 := by simpa using h0
  rw [byteCells_length] at hown
  obtain ⟨g, cap, cur, rfl, hbg, hg, hnc, hcm, hcs, htake⟩ : ∃ g cap cur, v = .slice (some ⟨g, 0, none⟩) l.length cap ∧ B ≤ g ∧ w.heap[g]? = some (.cells cur 5 (0, 0)) ∧ l.length ≤ cap ∧ cap ≤ maxLen ∧ cur.size = cap * 1 ∧ cur.toList.take (l.length * 1) = byteCells l := by
    rcases hown.2 with ⟨_, hz⟩ | ⟨g, cap, cur, hv, r⟩
    · exact absurd hz hl0
    · exact ⟨g, cap, cur, hv, r⟩
  have c1 : w.drew.cell? ⟨b, 1, none⟩ = some (.slice (some ⟨g, 0, none⟩) l.length cap) := (blk_cell (blk_drew hbk) 1).trans rfl
  have hSD : (Builtin.unsafeSliceData_ #[33] 45 #[.slice (some ⟨g, 0, none⟩) l.length cap]).run Try.prog w.drew = .ok (.pointer (some ⟨g, 0, none⟩)) w.drew :=
    run_unsafeSliceData_row _ _ _ _ _ _ (by omega)
  have hUS : (Builtin.unsafeString_ #[45, 3] 9 #[.pointer (some ⟨g, 0, none⟩), .int .i64 l.length]).run Try.prog w.drew = .ok (.string ⟨l.toArray⟩) (w.drew.freeze ⟨g, 0, none⟩ l.length) := by
    refine run_unsafeString_row w.drew 45 3 9 5 Try.underlying45 (by kernel_rfl) g cur.size (by have hg' : w.drew.heap[g]? = some (.cells cur 5 (0, 0)) := hg; simp [World.shape?, hg']) l h0 (by omega) (by unfold maxLen at hcm; omega) ?_
    intro j x hx
    exact hown.cells (g := g) rfl j (.int .u8 x.toNat) (by simp [byteCells, hx])
  have HBG := Aside0.mk hbg
  obtain ⟨n, hn⟩ : ∃ n, n = l.length := ⟨_, rfl⟩
  rw [← hn] at c1 hSD hUS
  clear hB hbk hown hne hl0 hbg hg hnc hcm hcs htake h0 hn
  go_enter Try.func17, Try.ntmps17
  go_wp2
  go_region
  all_goals (go_wp2; go_ret; exact ⟨rfl, below_freeze (Below.drew (Below.refl B w)) (p := ⟨g, 0, none⟩) HBG.out _⟩)

set_option maxHeartbeats 2000000 in
set_option maxRecDepth 100000 in
/-- .. of one that was never written. -/
theorem string_nil (B b : Nat) (p : Value) (w : World) (hbk : w.heap[b]? = some (.cells #[p, .slice none 0 0] 35 (0, 0))) :
    Calls Try.prog 17 #[.pointer (some ⟨b, 0, none⟩)] w fun e w' => e = .returned (.string ⟨#[]⟩) ∧ Below B w w' := by
  have hUS : ∀ (W : World) (q : Option Addr), (Builtin.unsafeString_ #[45, 3] 9 #[.pointer q, .int .i64 0]).run Try.prog W = .ok (.string .empty) W := fun W q => run_unsafeString_none W _ _ _ q
  have c1 : w.drew.cell? ⟨b, 1, none⟩ = some (.slice none 0 0) := (blk_cell (blk_drew hbk) 1).trans rfl
  have hSD : (Builtin.unsafeSliceData_ #[33] 45 #[.slice none 0 0]).run Try.prog w.drew = .ok (.pointer none) w.drew := rfl
  clear hbk
  go_enter Try.func17, Try.ntmps17
  go_wp2
  go_region
  all_goals (go_wp2; go_ret; exact ⟨rfl, Below.drew (Below.refl B w)⟩)
end Go.Proofs.Ytdlkmnohmdnogaa.Bdr
