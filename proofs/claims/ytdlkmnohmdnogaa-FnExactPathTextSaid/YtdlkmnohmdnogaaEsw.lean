/- impl.escaped. No conditions. -/
import Derived.Test.YtdlkmnohmdnogaaBsr
namespace Go.Proofs.Ytdlkmnohmdnogaa.Esw
set_option linter.unusedVariables false
set_option linter.unusedSimpArgs false
open Go.RowKit Go.Lib Go.Proofs.YtdlkmnohmdnogaaW.PrintWords Go.Proofs.YtdlkmnohmdnogaaW.PrintLast Go.Proofs.YtdlkmnohmdnogaaW.PrintMore Go.Proofs.Ytdlkmnohmdnogaa.Bld Go.Proofs.Ytdlkmnohmdnogaa.Rep Go.Proofs.Ytdlkmnohmdnogaa.Esc Go.Proofs.Ytdlkmnohmdnogaa.Bsr

theorem nil_ahead (a : Addr) (w : World) : (nilAhead 248 82 (.pointer (some a)) "Replace").run Try.prog w = .ok (some false) w := by kernel_rfl
theorem method_rep (a : Addr) (w : World) : (method 248 82 (.pointer (some a)) "Replace").run Try.prog w = .ok (86, .pointer (some a)) w := by kernel_rfl

set_option maxRecDepth 100000 in
set_option maxHeartbeats 2000000 in
theorem replace_calls (b k cc : Nat) (s : ByteArray) (w : World) (hb : w.heap[b]? = some (.cells #[.int .u32 0, .int .i32 0, .int .u32 0, .nilIface, .slice (some ⟨k, 0, none⟩) 4 cc] 63 (0, 0))) (hk : Four w k) (hne : b ≠ k) (hs : s.size ≤ 1048576) :
    Calls Try.prog 21 #[.pointer (some ⟨b, 0, none⟩), .string s] w fun e w' => e = .returned (.string (esc s)) ∧ Below b w w' := by
  have HB := Aside0.mk hb
  have HK := Aside0.mk hk
  have HN := Aside0.mk hne
  have HS := Aside0.mk hs
  have hmf : ∀ (fn : Fn) (first cap : Array Value) (w : World), (Instr.makeFunc fn first cap).run Try.prog w = .ok (.func fn first cap) w := fun _ _ _ _ => rfl
  have hna := nil_ahead
  have hme := method_rep
  clear hb hk hne hs
  go_enter Try.func21, Try.ntmps21
  go_wp2_with (first | (go_at_call 23; go_loud ((with_reducible refine (do_calls b k cc _ HB.out HK.out HN.out).mono ?_); rintro e w2 ⟨rfl, R, T, c1, c2, k1, k2, hR, hD, hd⟩; have HR2 := Aside0.mk hR; have HD2 := Aside0.mk hd; have HB2 := Aside0.mk hD.blk; clear hR hD hd; have c3 := (blk_cell HB2.out 3).trans rfl)) | (go_at_call 86; go_loud ((with_reducible refine (rep_calls R T c1 c2 k1 k2 s _ HR2.out HS.out).mono ?_); rintro e w3 ⟨rfl, hd⟩; have HD3 := Aside0.mk hd; clear hd)))
  go_ret
  exact ⟨rfl, HD2.out.trans (HD3.out.mono (Nat.le_of_lt (blk_lt HB2.out)))⟩
set_option maxRecDepth 100000 in
set_option maxHeartbeats 2000000 in
theorem escaped_calls (s : ByteArray) (w : World) (hs : s.size ≤ 1048576) :
    Calls Try.prog 16 #[.string s] w fun e w' => e = .returned (.string (esc s)) ∧ Below w.heap.size w w' := by
  have HS := Aside0.mk hs
  have H4 : Aside0 (Four (w.alloc (.cells #[.string ⟨#[126]⟩, .string ⟨#[126, 48]⟩, .string ⟨#[47]⟩, .string ⟨#[126, 49]⟩] 9)) w.heap.size) := ⟨⟨(blk_cell (blk_new w _) 0).trans rfl, (blk_cell (blk_new w _) 1).trans rfl, (blk_cell (blk_new w _) 2).trans rfl, (blk_cell (blk_new w _) 3).trans rfl⟩⟩
  have H1 : Aside0 (Below w.heap.size w (w.alloc (.cells #[.string ⟨#[126]⟩, .string ⟨#[126, 48]⟩, .string ⟨#[47]⟩, .string ⟨#[126, 49]⟩] 9))) := ⟨below_alloc (Below.refl _ _) _⟩
  clear hs
  go_enter Try.func16, Try.ntmps16
  go_wp2_with (first | (go_at_call 20; go_loud ((with_reducible refine (new_calls w.heap.size _ H4.out).mono ?_); rintro e w2 ⟨b, k, cc, rfl, hb, hk, hne, hle, hd⟩; have HB2 := Aside0.mk hb; have HK2 := Aside0.mk hk; have HN2 := Aside0.mk hne; have HD2 := Aside0.mk (below_step H1.out hd); have HL2 := Aside0.mk (Nat.le_trans H1.out.size hle); clear hb hk hne hle hd)) | (go_at_call 21; go_loud ((with_reducible refine (replace_calls b k cc s _ HB2.out HK2.out HN2.out HS.out).mono ?_); rintro e w3 ⟨rfl, hd⟩; have HD3 := Aside0.mk hd; clear hd)))
  go_ret
  exact ⟨rfl, HD2.out.trans (HD3.out.mono HL2.out)⟩
end Go.Proofs.Ytdlkmnohmdnogaa.Esw
