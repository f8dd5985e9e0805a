/- Several texts in one: what the claim's last text rests on. No conditions. -/
import Derived.Test.YtaomjndfjmfelaaMWo14
import Derived.Test.YtaomjndfjmfelaaMWo5
import Derived.Test.YtaomjndfjmfelaaMWo6
import Derived.Test.YtaomjndfjmfelaaMWo3
section
namespace Go.Proofs.Ytaomjndfjmfelaa.ByAll
set_option linter.unusedVariables false
set_option linter.unusedSimpArgs false
open Go.RowKit Go.Proofs.Ytaomjndfjmfelaa.PQ Go.Proofs.YtaomjndfjmfelaaW.PrintWords Go.Proofs.YtaomjndfjmfelaaW.PrintLast Go.Proofs.YtaomjndfjmfelaaW.PrintMore Go.Proofs.Ytaomjndfjmfelaa.Pre Go.Proofs.Ytaomjndfjmfelaa.Posts Go.Proofs.Ytaomjndfjmfelaa.GoodW Go.Proofs.Ytaomjndfjmfelaa.PostW Go.Proofs.Ytaomjndfjmfelaa.Ask
set_option maxRecDepth 100000 in
theorem calls (x : Int) (A : Option Addr) (c : Nat) (l : List En) (B : Option Addr) (d : Nat) (ws : List ByteArray) (w : World) (hr : Kd.C k102 w A l.length l) (hc : l.length ≤ c) (hl : Small l) (hs : Kd.C Kd.string w B ws.length ws) (hsl : SmallS ws) :
  Calls Try.prog 20 #[.agg #[.int .i64 x, .slice A l.length c], .slice B ws.length d] w fun e w' => ∃ v0_ : Value, e = .returned (.tuple #[v0_, .bool (ans x l ws).2]) ∧ Kd.R (Kd.int .i64) 3 w' w.heap.size (fun _ => True) v0_ (ans x l ws).1 ∧ Below w.heap.size w w' := by
 have HR := aM hr
 have HC := aM hc
 have HL := aM hl
 have HS := aM hs
 have HSL := aM hsl
 obtain ⟨W0, hW0⟩ : ∃ W0, W0 = ((w.alloc (.cells #[.int .i64 x, .slice A l.length c] 33)).alloc (.cells #[.slice B ws.length d] 25)) := ⟨_, rfl⟩
 have HB0 : Aside0 (Below w.heap.size w W0) := ⟨by subst hW0; exact below_alloc (below_alloc (Below.refl w.heap.size w) _) _⟩
 have HSZ : Aside0 (w.heap.size ≤ W0.heap.size) := ⟨HB0.out.size⟩
 have HCL : Aside0 (∀ w', Below W0.heap.size W0 w' → w'.cell? ⟨w.heap.size + 1, 0, none⟩ = some (.slice B ws.length d)) := ⟨fun w' hb => by subst hW0; exact (hb.cell (by simp)).trans (by simp)⟩
 clear hr hc hl hs hsl
 go_enter Try.func20, Try.ntmps20
 go_wp2_with (first | (go_at_call 72; go_loud (rw [← hW0]; (with_reducible refine (by_calls x A c l B d ws (w.heap.size + 1) _ HCL.out (Kd.C_below HR.out HB0.out) HC.out HL.out (Kd.C_below HS.out HB0.out) HSL.out).mono ?_); rintro e w1 ⟨v0, rfl, ho, hb⟩; have HO1 := aM (Kd.R_lower ho HSZ.out); have HB1 := aM (below_then HB0.out HSZ.out hb); clear ho hb)))
 go_ret2
 exact ⟨v0, rfl, HO1.out, HB1.out⟩
end Go.Proofs.Ytaomjndfjmfelaa.ByAll
end

section
namespace Go.Proofs.Ytaomjndfjmfelaa.ByAny
set_option linter.unusedVariables false
set_option linter.unusedSimpArgs false
open Go.RowKit Go.Proofs.Ytaomjndfjmfelaa.PQ Go.Proofs.YtaomjndfjmfelaaW.PrintWords Go.Proofs.YtaomjndfjmfelaaW.PrintLast Go.Proofs.YtaomjndfjmfelaaW.PrintMore Go.Proofs.Ytaomjndfjmfelaa.Pre Go.Proofs.Ytaomjndfjmfelaa.Posts Go.Proofs.Ytaomjndfjmfelaa.GoodW Go.Proofs.Ytaomjndfjmfelaa.PostW Go.Proofs.Ytaomjndfjmfelaa.Ask
set_option maxRecDepth 100000 in
theorem calls (x : Int) (A : Option Addr) (c : Nat) (l : List En) (B : Option Addr) (d : Nat) (ws : List ByteArray) (w : World) (hr : Kd.C k102 w A l.length l) (hc : l.length ≤ c) (hl : Small l) (hs : Kd.C Kd.string w B ws.length ws) (hsl : SmallS ws) :
  Calls Try.prog 29 #[.agg #[.int .i64 x, .slice A l.length c], .slice B ws.length d] w fun e w' => ∃ v0_ : Value, e = .returned (.tuple #[v0_, .bool (ans x l ws).2]) ∧ Kd.R (Kd.int .i64) 3 w' w.heap.size (fun _ => True) v0_ (ans x l ws).1 ∧ Below w.heap.size w w' := by
 have HR := aM hr
 have HC := aM hc
 have HL := aM hl
 have HS := aM hs
 have HSL := aM hsl
 obtain ⟨W0, hW0⟩ : ∃ W0, W0 = (w.alloc (.cells #[.int .i64 x, .slice A l.length c] 33)) := ⟨_, rfl⟩
 have HB0 : Aside0 (Below w.heap.size w W0) := ⟨by subst hW0; exact below_alloc (Below.refl w.heap.size w) _⟩
 have HSZ : Aside0 (w.heap.size ≤ W0.heap.size) := ⟨HB0.out.size⟩
 clear hr hc hl hs hsl
 go_enter Try.func29, Try.ntmps29
 go_wp2_with (first | (go_at_call 72; go_loud (rw [← hW0]; (with_reducible refine (by_calls x A c l B d ws _ (Kd.C_below HR.out HB0.out) HC.out HL.out (Kd.C_below HS.out HB0.out) HSL.out).mono ?_); rintro e w1 ⟨v0, rfl, ho, hb⟩; have HO1 := aM (Kd.R_lower ho HSZ.out); have HB1 := aM (below_then HB0.out HSZ.out hb); clear ho hb)))
 go_ret2
 exact ⟨v0, rfl, HO1.out, HB1.out⟩
end Go.Proofs.Ytaomjndfjmfelaa.ByAny
end

section
namespace Go.Proofs.Ytaomjndfjmfelaa.ByNot
set_option linter.unusedVariables false
set_option linter.unusedSimpArgs false
open Go.RowKit Go.Proofs.Ytaomjndfjmfelaa.PQ Go.Proofs.YtaomjndfjmfelaaW.PrintWords Go.Proofs.YtaomjndfjmfelaaW.PrintLast Go.Proofs.YtaomjndfjmfelaaW.PrintMore Go.Proofs.Ytaomjndfjmfelaa.Pre Go.Proofs.Ytaomjndfjmfelaa.Posts Go.Proofs.Ytaomjndfjmfelaa.GoodW Go.Proofs.Ytaomjndfjmfelaa.PostW Go.Proofs.Ytaomjndfjmfelaa.Ask
set_option maxRecDepth 100000 in
theorem calls (x : Int) (A : Option Addr) (c : Nat) (l : List En) (B : Option Addr) (d : Nat) (ws : List ByteArray) (w : World) (hr : Kd.C k102 w A l.length l) (hc : l.length ≤ c) (hl : Small l) (hs : Kd.C Kd.string w B ws.length ws) (hsl : SmallS ws) :
  Calls Try.prog 31 #[.agg #[.int .i64 x, .slice A l.length c], .slice B ws.length d] w fun e w' => ∃ v0_ : Value, e = .returned (.tuple #[v0_, .bool (ans x l ws).2]) ∧ Kd.R (Kd.int .i64) 3 w' w.heap.size (fun _ => True) v0_ (ans x l ws).1 ∧ Below w.heap.size w w' := by
 have HR := aM hr
 have HC := aM hc
 have HL := aM hl
 have HS := aM hs
 have HSL := aM hsl
 obtain ⟨W0, hW0⟩ : ∃ W0, W0 = (w.alloc (.cells #[.int .i64 x, .slice A l.length c] 33)) := ⟨_, rfl⟩
 have HB0 : Aside0 (Below w.heap.size w W0) := ⟨by subst hW0; exact below_alloc (Below.refl w.heap.size w) _⟩
 have HSZ : Aside0 (w.heap.size ≤ W0.heap.size) := ⟨HB0.out.size⟩
 clear hr hc hl hs hsl
 go_enter Try.func31, Try.ntmps31
 go_wp2_with (first | (go_at_call 72; go_loud (rw [← hW0]; (with_reducible refine (by_calls x A c l B d ws _ (Kd.C_below HR.out HB0.out) HC.out HL.out (Kd.C_below HS.out HB0.out) HSL.out).mono ?_); rintro e w1 ⟨v0, rfl, ho, hb⟩; have HO1 := aM (Kd.R_lower ho HSZ.out); have HB1 := aM (below_then HB0.out HSZ.out hb); clear ho hb)))
 go_ret2
 exact ⟨v0, rfl, HO1.out, HB1.out⟩
end Go.Proofs.Ytaomjndfjmfelaa.ByNot
end

section
namespace Go.Proofs.Ytaomjndfjmfelaa.PQ
open Go.RowKit Go.Proofs.YtaomjndfjmfelaaW.PrintWords Go.Proofs.YtaomjndfjmfelaaW.PrintLast Go.Proofs.YtaomjndfjmfelaaW.PrintMore
attribute [local go_sem] max2_int min2_int max_two min_two max_three min_three max_four min_four
set_option linter.unusedVariables false
set_option linter.unusedSimpArgs false
def spec_DrawWithAll.f (k : Nat) (l0 : List Int) : Option (Int × List (S102) × List ByteArray) := (spec_l1Cur_words.f k l0 0 0).bind fun bt1 => (spec_l1Cur_asked.f k l0 bt1.2.2.1 bt1.2.2.2).bind fun bt2 => some (bt1.1, bt1.2.1, bt2.1)
set_option maxHeartbeats 2000000 in
set_option maxRecDepth 100000 in
theorem spec_DrawWithAll.calls (k : Nat) (A0 : Option Addr) (c0 : Nat) (l0 : List Int) (r1 : Int) (r2 : List (S102)) (r3 : List ByteArray) (w : World) (hr0 : Kd.C (Kd.int .u8) w A0 l0.length l0) (hc0 : l0.length ≤ c0) (h : spec_DrawWithAll.f k l0 = some (r1, r2, r3)) :
  Calls Try.prog 37 #[.slice A0 l0.length c0] w fun e w' => ∃ v1_ v2_ : Value, e = .returned (.tuple #[.agg #[.int .i64 r1, v1_], v2_]) ∧ Kd.S k102 102 w' w.heap.size (fun _ => True) v1_ r2 ∧ Kd.R Kd.string 9 w' w.heap.size (fun _ => True) v2_ r3 ∧ Below w.heap.size w w' := by
 unfold spec_DrawWithAll.f at h
 obtain ⟨⟨t1, t2, t3, t4⟩, h1, h⟩ := Option.bind_eq_some_iff.mp h
 obtain ⟨⟨t5, t6, t7⟩, h2, h⟩ := Option.bind_eq_some_iff.mp h
 have h4 := Option.some.inj h
 simp only [Prod.mk.injEq] at h4
 obtain ⟨e1, e2, e3⟩ := h4
 subst e1 e2 e3
 have A1 := aM h1
 have A2 := aM h2
 obtain ⟨wa, hwa⟩ : ∃ W_, W_ = w.alloc (.cells #[.int .i64 0, .slice none 0 0] 33) := ⟨_, rfl⟩
 have hba : Below w.heap.size w wa := by rw [hwa]; exact below_alloc (Below.refl _ _) _
 have hbx : wa.heap[w.heap.size]? = some (.cells #[.int .i64 0, .slice none 0 0] 33 (0, 0)) := by rw [hwa]; show (w.heap.push _)[w.heap.size]? = _; simp
 have hsz : wa.heap.size = w.heap.size + 1 := by rw [hwa]; show (w.heap.push _).size = _; simp
 have HN := aM (IsS107.new w wa A0 c0 l0 0 0 hba hr0)
 have HA := aM (below_alloc hba (.cells #[.slice A0 l0.length c0, .int .i64 0, .int .u64 0] 107))
 have HBX := aM (blk_alloc hbx (.cells #[.slice A0 l0.length c0, .int .i64 0, .int .u64 0] 107))
 obtain ⟨wb, hwb⟩ : ∃ W_, W_ = wa.alloc (.cells #[.slice A0 l0.length c0, .int .i64 0, .int .u64 0] 107) := ⟨_, rfl⟩
 have HSZ : Aside0 (wa.heap.size = w.heap.size + 1 ∧ wb.heap.size = w.heap.size + 2) := ⟨⟨hsz, by rw [hwb]; show (wa.heap.push _).size = _; simp; omega⟩⟩
 rw [← hwb] at HN HA HBX
 rw [hsz] at HN
 rw [hwa] at hwb
 clear h h1 h2 hr0 hc0 hba hbx hwa
 go_enter Try.func37, Try.ntmps37
 go_upto_region 2 with (fail)
 rw [← hwb]
 clear hwb
 go_wp2_with (first | (go_at_call 86; go_loud ((with_reducible refine (spec_l1Cur_words.calls k (w.heap.size + 1) l0 0 0 t1 t2 t3 t4 w _ HN.out HA.out A1.out).mono ?_); rintro e w1 ⟨v1, rfl, ho, hi, hb, hk⟩; have HI1 := aM hi; have HB1 := aM hb; have HO1 := aM (Kd.S_mono (Kd.S_bound ho) (ok' := fun k => k ≠ w.heap.size + 1) (fun k hk => by have h1 := hk.2.1; have h2 := HSZ.out; omega)); have HBX1 := aM (KeepBut.blk hk HBX.out (by have h2 := HSZ.out; omega) (by simp)); clear hi hb ho hk)) | (go_at_call 87; go_loud ((with_reducible refine (spec_l1Cur_asked.calls k (w.heap.size + 1) l0 t3 t4 t5 t6 t7 w _ HI1.out HB1.out A2.out).mono ?_); rintro e w2 ⟨v2, rfl, ho, hi, hb, hk⟩; have HI2 := aM hi; have HB2 := aM hb; have HO2 := aM (Kd.S_keep HO1.out hk (fun k hk => hk)); have HP2 := aM (Kd.R_mono (Kd.R_bound ho) (ok' := fun k => k ≠ w.heap.size + 1) (fun k hk => by have h1 := hk.2.1; have h2 := HI1.out; have h3 := IsS107.lt h2; omega)); have HBX2 := aM (KeepBut.blk hk HBX1.out (by have h2 := HSZ.out; omega) (by simp)); clear hi hb ho hk; obtain ⟨Av, cv, ev⟩ := Kd.S_slice HO2.out; subst ev; have hc0 := blk_cell HBX2.out 0; have hc1 := blk_cell HBX2.out 1; have hf0 := blk_frozen HBX2.out 0; have hf1 := blk_frozen HBX2.out 1)))
 have HZ1 := aM (show w.heap.size ≤ w1.heap.size from HB1.out.size)
 have HZb := aM (show w.heap.size ≤ wb.heap.size by rw [HSZ.out.2]; omega)
 have HBX9 := aM (blk_put (cs' := #[.int .i64 t1, .slice none 0 0]) HBX2.out 0 (.int .i64 t1) rfl)
 refine bodyPost_ret (results_ct rfl _ _ w.heap.size 33 #[.int .i64 t1, .slice Av t2.length cv] (0, 0) _ rfl (blk_put HBX9.out 1 _ rfl) Try.underlying33 rfl (by kernel_rfl)) rfl ?_
 refine ⟨_, _, rfl, ?_, ?_, ?_⟩
 ·exact Kd.S_mono (Kd.S_lower (Kd.S_set (Kd.S_set HO2.out HBX2.out (by decide) 0 _) HBX9.out (by decide) 1 _) HZb.out) (fun _ _ => trivial)
 ·exact Kd.R_mono (Kd.R_lower (Kd.R_set (Kd.R_set HP2.out HBX2.out (by decide) 0 _) HBX9.out (by decide) 1 _) HZ1.out) (fun _ _ => trivial)
 ·exact (HB2.out.setCell (p := ⟨w.heap.size, 0, none⟩) (Nat.le_refl _) _).setCell (p := ⟨w.heap.size, 1, none⟩) (Nat.le_refl _) _

def spec_DrawWithout.f (k : Nat) (l0 : List Int) : Option (Int × (List (S102)) × List ByteArray) := (spec_DrawWithAll.f k l0).bind fun bt546 => (some (bt546.1, bt546.2.1, bt546.2.2))
set_option maxHeartbeats 8000000 in
set_option maxRecDepth 100000 in
theorem spec_DrawWithout.calls (k : Nat) (A0 : Option Addr) (c0 : Nat) (l0 : List Int) (r1 : Int) (r2 : List (S102)) (r3 : List ByteArray) (w : World) (hr0 : Kd.C (Kd.int .u8) w A0 l0.length l0) (hc0 : l0.length ≤ c0) (h : spec_DrawWithout.f k l0 = some (r1, r2, r3)) :
  Calls Try.prog 42 #[.slice A0 l0.length c0] w fun e w' => ∃ v1_ v2_ : Value, e = .returned (.tuple #[.agg #[.int .i64 r1, v1_], v2_]) ∧ Kd.S k102 102 w' w.heap.size (fun _ => True) v1_ r2 ∧ Kd.R Kd.string 9 w' w.heap.size (fun _ => True) v2_ r3 ∧ Below w.heap.size w w' := by
 have hu33 := Try.underlying33
 have HR0 := aM hr0
 have HC0 := aM hc0
 clear hr0 hc0
 have HB := aM (Below.refl w.heap.size w)
 have H : ((spec_DrawWithAll.f k l0).bind fun bt546 => (some (bt546.1, bt546.2.1, bt546.2.2))) = some (r1, r2, r3) := h
 clear h
 replace H := Option.bind_eq_some_iff.mp H
 obtain ⟨⟨t546, t547, t550⟩, A20, H⟩ := H
 replace H : (some (t546, t547, t550)) = some (r1, r2, r3) := H
 have A2 := aM A20
 clear A20
 simp only [Option.some.injEq, Prod.mk.injEq] at H
 obtain ⟨rfl, rfl, rfl⟩ := H
 go_enter Try.func42, Try.ntmps42
 go_wp2_with (first | ((with_reducible refine gate_dst (N := 2) rfl ?_); refine box_event ?hg (N := 2) ?hd (cs := #[.int .i64 0, .slice none 0 0]) (t := 33) ?hr ?_; (case hd => rfl); (case hg => rfl); (case hr => first | (go_simp; done) | (go_simp; rfl)); intro gb545 hg w3 hbox hb; have n0_ := aM (below_step (by repeat (first | (with_reducible first | exact HB.out | apply below_alloc | apply pw_below_drewN | apply below_drew1) | exact HB.out)) hb); have n1_ := aM (hbox); have n2_ := aM ((by rw [hg]; exact (below_size (by repeat (first | (with_reducible first | exact HB.out | apply below_alloc | apply pw_below_drewN | apply below_drew1) | exact HB.out))) : w.heap.size ≤ gb545)); have n3_ := aM ((by rw [hg]; exact (below_size (by repeat (first | (with_reducible first | exact HB.out | apply below_alloc | apply pw_below_drewN | apply below_drew1) | exact HB.out))) : w.heap.size ≤ gb545)); clear HB; have HB := n0_; have BK545 := n1_; have GW545 := n2_; have GE545 := n3_; clear n0_ n1_ n2_ n3_; clear hb hbox hg) | ((with_reducible refine gate_callee (f := 37) rfl ?_); refine gL 5 Try.func37 #[.slice A0 l0.length c0] ?_; (with_reducible refine (spec_DrawWithAll.calls k _ _ l0 t546 t547 t550 _ ?side1 ?side2 A2.out).mono ?_); (case side1 => repeat (first | exact (Kd.C_below HR0.out HB.out) | (with_reducible refine Kd.C_alloc ?_ _) | (with_reducible refine Kd.C_drewN ?_ _) | (with_reducible refine Kd.C_drew ?_))); (case side2 => exact HC0.out); rintro e w4 ⟨v548, v551, rfl, ho0, ho1, hb⟩; refine ⟨_, rfl, ?_⟩; have n0_ := aM (Kd.S_lower ho0 (below_size (by repeat (first | (with_reducible first | exact HB.out | apply below_alloc | apply pw_below_drewN | apply below_drew1 | refine below_set ?_ GE545.out) | exact HB.out)))); have n1_ := aM (Kd.R_lower ho1 (below_size (by repeat (first | (with_reducible first | exact HB.out | apply below_alloc | apply pw_below_drewN | apply below_drew1 | refine below_set ?_ GE545.out) | exact HB.out)))); have n2_ := aM (blk_below (g := gb545) (o := .cells #[.int .i64 0, .slice none 0 0] 33 (0, 0)) (by (with_reducible repeat (first | refine blk_drewN ?_ _ | refine blk_drew ?_ | refine blk_alloc ?_ _)); exact BK545.out) hb); have n3_ := aM (below_step (by repeat (first | (with_reducible first | exact HB.out | apply below_alloc | apply pw_below_drewN | apply below_drew1 | refine below_set ?_ GE545.out) | exact HB.out)) hb); clear BK545; clear HB; have HO549 := n0_; have HO552 := n1_; have BK545 := n2_; have HB := n3_; clear n0_ n1_ n2_ n3_; (try clear hb); (try clear hb2); (try clear hk); (try clear hi); (try clear ho0); (try clear ho1); have hcz5_0 : w4.cell? ⟨gb545, 0, none⟩ = some (.int .i64 0) := (blk_cell BK545.out 0).trans rfl; have hcz5_1 : w4.cell? ⟨gb545, 1, none⟩ = some (.slice none 0 0) := (blk_cell BK545.out 1).trans rfl; have hfz5_0 := blk_frozen BK545.out 0; have hfz5_1 := blk_frozen BK545.out 1; obtain ⟨Ao6, co6, eo6⟩ := Kd.S_slice HO549.out; subst eo6))
 refine bodyPost_ret (results_ct rfl _ _ gb545 33 #[.int .i64 t546, .slice Ao6 t547.length co6] (0, 0) _ rfl (by (with_reducible repeat (first | refine blk_drewN ?_ _ | refine blk_drew ?_ | refine blk_alloc ?_ _)); refine blk_put (cs := #[.int .i64 t546, .slice none 0 0]) ?_ 1 _ rfl; (with_reducible repeat (first | refine blk_drewN ?_ _ | refine blk_drew ?_ | refine blk_alloc ?_ _)); refine blk_put (cs := #[.int .i64 0, .slice none 0 0]) ?_ 0 _ rfl; (with_reducible repeat (first | refine blk_drewN ?_ _ | refine blk_drew ?_ | refine blk_alloc ?_ _)); exact BK545.out) Try.underlying33 rfl (by kernel_rfl)) rfl ?_
 exact ⟨_, _, eR, by (with_reducible repeat (first | apply Kd.S_alloc | apply Kd.S_drewN | apply Kd.S_drew)); exact Kd.S_mono (Kd.S_far (p := ⟨gb545, 1, none⟩) (Kd.S_far (p := ⟨gb545, 0, none⟩) (Kd.S_types HO549.out BK545.out (by decide)) (fun _ hk => hk.2) (.int .i64 t546)) (fun _ hk => hk.2) (.slice Ao6 t547.length co6)) (fun _ hk => trivial), by (with_reducible repeat (first | apply Kd.R_alloc | apply Kd.R_drewN | apply Kd.R_drew)); exact Kd.R_mono (Kd.R_far (p := ⟨gb545, 1, none⟩) (Kd.R_far (p := ⟨gb545, 0, none⟩) (Kd.R_types HO552.out BK545.out (by decide)) (fun _ hk => hk.2) (.int .i64 t546)) (fun _ hk => hk.2) (.slice Ao6 t547.length co6)) (fun _ hk => trivial), by repeat (first | (with_reducible first | exact HB.out | apply below_alloc | apply pw_below_drewN | apply below_drew1 | refine below_set ?_ GE545.out) | exact HB.out)⟩

end Go.Proofs.Ytaomjndfjmfelaa.PQ
end
