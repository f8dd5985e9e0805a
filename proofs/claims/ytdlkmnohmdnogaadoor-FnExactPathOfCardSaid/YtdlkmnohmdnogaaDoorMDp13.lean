/- Several texts in one: what the claim's last text rests on. No conditions. -/
import Derived.Test.YtdlkmnohmdnogaaDoorMDp12
import Derived.Test.YtdlkmnohmdnogaaDoorMDp9
import Derived.Test.YtdlkmnohmdnogaaDoorMDp7
section
namespace Go.Proofs.YtdlkmnohmdnogaaDoor.Gnw
set_option linter.unusedVariables false
set_option linter.unusedSimpArgs false
open Go.RowKit Go.Lib Go.Proofs.YtdlkmnohmdnogaaDoorW.PrintWords Go.Proofs.YtdlkmnohmdnogaaDoorW.PrintLast Go.Proofs.YtdlkmnohmdnogaaDoorW.PrintMore Go.Proofs.YtdlkmnohmdnogaaDoor.Pre Go.Proofs.YtdlkmnohmdnogaaDoor.Gna Go.Proofs.YtdlkmnohmdnogaaDoor.Gnc Go.Proofs.YtdlkmnohmdnogaaDoor.Gnl Go.Proofs.YtdlkmnohmdnogaaDoor.Bdr
/-- The buffer: a slice in a block of its own. -/
def Buf (w : World) (B b : Nat) (bs : List UInt8) : Prop :=
 B ≤ b ∧ ∃ v, w.heap[b]? = some (.cells #[v] 139 (0, 0)) ∧ w.ownsRow B 5 1 v bs.length (byteCells bs) ∧ v.ownBlock ≠ some b
theorem Buf.later {w w' : World} {B b : Nat} {bs : List UInt8} (h : Buf w B b bs) (hb : Below w.heap.size w w') : Buf w' B b bs := by
 obtain ⟨hB, v, hbk, hown, hne⟩ := h
 refine ⟨hB, v, blk_below hbk hb, ⟨hown.1, ?_⟩, hne⟩
 rcases hown.2 with h0 | ⟨g, cap, cur, hv, hg, hgk, hr⟩
 ·exact .inl h0
 ·exact .inr ⟨g, cap, cur, hv, hg, blk_below hgk hb, hr⟩
theorem Buf.drewN {w : World} {B b : Nat} {bs : List UInt8} (h : Buf w B b bs) (m : Nat) : Buf (w.drewN m) B b bs := h.later (drewN_below _ _ _)

set_option maxHeartbeats 2000000 in
set_option maxRecDepth 100000 in
theorem put_calls (B b : Nat) (bs : List UInt8) (s : ByteArray) (w : World) (h : Buf w B b bs) (hlen : bs.length + s.size ≤ 140737488355328) (hBw : B ≤ w.heap.size) :
  Calls Tryd.prog 105 #[.pointer (some ⟨b, 0, none⟩), .string s] w fun e w' => e = .returned (.tuple #[.int .i64 s.size, .nilIface]) ∧ Buf w' B b (bs ++ s.data.toList) ∧ Below B w w' := by
 obtain ⟨i0, hi, hz0, hz1, hz2⟩ := info_u8
 have HI := aM (And.intro hi (And.intro hz0 (And.intro hz1 hz2)))
 obtain ⟨hB, v, hbk, hown, hne⟩ := h
 have c1 : w.cell? ⟨b, 0, none⟩ = some v := (blk_cell hbk 0).trans rfl
 have HBK := aM hbk
 have HOW := aM hown
 have HNE := aM hne
 have HBB := aM hB
 have HL := aM hlen
 have HW := aM hBw
 clear hB hbk hown hne hlen hBw hi hz0 hz1 hz2
 go_enter Tryd.func105, Tryd.ntmps105
 go_wp2_with (((with_reducible refine gate_builtin (b := .append) (xs := #[.tmp 9, .tmp 10]) rfl ?_); at_builtin; go_loud (refine wpList_append_own_string _ rfl _ _ 139 9 rfl B 5 i0 Tryd.underlying139 Tryd.underlying9 HI.out.1 HI.out.2.1 HI.out.2.2.1 HI.out.2.2.2 _ _ _ rfl HOW.out s rfl ?c3 ?c4 ?c5 ?_; (case c3 => (have := HL.out; unfold maxLen; omega)); (case c4 => exact HL.out); (case c5 => exact HW.out); intro v' w2 hown' hgrow _; have HO2 := aM hown'; have HG2 := aM hgrow; have hb2 := blk_grown HBK.out hgrow (fun e => HNE.out e.symm); have HB2 := aM hb2; have d1 := (blk_cell hb2 0).trans rfl; have f1 := blk_frozen hb2 0; obtain ⟨ao, n', cap, rfl⟩ := Go.Proofs.YtdlkmnohmdnogaaDoor.Bdr.own_slice hown'; clear hown' hgrow hb2)))
 go_ret2
 have hb3 := blk_put HB2.out 0 (.slice ao n' cap) rfl
 have hne : (Value.slice ao n' cap).ownBlock ≠ some b := ownBlock_ne HO2.out HB2.out (by decide)
 refine ⟨rfl, ⟨HBB.out, _, hb3, ?_, hne⟩, ((Below.refl B w).grown HG2.out HW.out (fun k hk => (HOW.out.lt k hk).1)).setCell (p := ⟨b, 0, none⟩) HBB.out _⟩
 have h2 : w2.ownsRow B 5 1 (.slice ao n' cap) (bs ++ s.data.toList).length (byteCells (bs ++ s.data.toList)) := by
  rw [List.length_append, byteCells_append]
  exact HO2.out
 exact h2.kept (row := some b) ⟨rfl, rfl, rfl, by simp [World.setCell], fun k _ hk => Below.heap_setCell _ _ _ _ (fun e => hk (by simp [e]))⟩ (Or.inr hne)

set_option maxHeartbeats 2000000 in
set_option maxRecDepth 100000 in
theorem writer_calls (b : Nat) (w : World) :
  Calls Tryd.prog 95 #[.iface 140 (.pointer (some ⟨b, 0, none⟩))] w fun e w' => e = .returned (.iface 140 (.pointer (some ⟨b, 0, none⟩))) ∧ w = w' := by
 have hta : ∀ W : World, (Instr.typeAssert (.iface 140 (.pointer (some ⟨b, 0, none⟩))) 142 144 true).run Tryd.prog W = .ok (.tuple #[.iface 140 (.pointer (some ⟨b, 0, none⟩)), .bool true]) W := fun _ => by kernel_rfl
 go_enter Tryd.func95, Tryd.ntmps95
 go_wp2
 go_ret
 exact ⟨rfl, rfl⟩
end Go.Proofs.YtdlkmnohmdnogaaDoor.Gnw
end

section
namespace Go.Proofs.YtdlkmnohmdnogaaDoor.Gns
set_option linter.unusedVariables false
set_option linter.unusedSimpArgs false
open Go.RowKit Go.Lib Go.Proofs.YtdlkmnohmdnogaaDoorW.PrintWords Go.Proofs.YtdlkmnohmdnogaaDoorW.PrintLast Go.Proofs.YtdlkmnohmdnogaaDoorW.PrintMore Go.Proofs.YtdlkmnohmdnogaaDoor.Pre Go.Proofs.YtdlkmnohmdnogaaDoor.Gna Go.Proofs.YtdlkmnohmdnogaaDoor.Gnc Go.Proofs.YtdlkmnohmdnogaaDoor.Gnl Go.Proofs.YtdlkmnohmdnogaaDoor.Gnw Go.Proofs.YtdlkmnohmdnogaaDoor.Uns
theorem IsG.later {w w' : World} {G T0 N1 T1 N2 N3 B : Nat} (h : IsG w G T0 N1 T1 N2 N3) (hb : Below B w w') (hl : G < B ∧ T0 < B ∧ N1 < B ∧ T1 < B ∧ N2 < B ∧ N3 < B) : IsG w' G T0 N1 T1 N2 N3 :=
 ⟨h.m.later hb hl.1, (hb.block T0 hl.2.1).trans h.t0, h.n1.bl hb hl.2.2.1, (hb.block T1 hl.2.2.2.1).trans h.t1, h.n2.bl hb hl.2.2.2.2.1, h.n3.bl hb hl.2.2.2.2.2⟩
theorem nil_ahead (a : Addr) (w : World) : (nilAhead 252 140 (.pointer (some a)) "WriteString").run Tryd.prog w = .ok (some false) w := by kernel_rfl
theorem method_put (a : Addr) (w : World) : (method 252 140 (.pointer (some a)) "WriteString").run Tryd.prog w = .ok (105, .pointer (some a)) w := by kernel_rfl
theorem mp_cases (b : UInt8) : b = 48 ∨ b = 49 ∨ b = 126 ∨ (mp b.toNat = 3 ∧ b ≠ 48 ∧ b ≠ 49 ∧ b ≠ 126) := by
 by_cases h1 : b = 48
 ·exact .inl h1
 ·by_cases h2 : b = 49
  ·exact .inr (.inl h2)
  ·by_cases h3 : b = 126
   ·exact .inr (.inr (.inl h3))
   ·refine .inr (.inr (.inr ⟨?_, h1, h2, h3⟩))
    unfold mp
    rw [if_neg (show ¬ b.toNat = 48 from fun e => h1 (UInt8.toNat_inj.1 e)), if_neg (show ¬ b.toNat = 49 from fun e => h2 (UInt8.toNat_inj.1 e)), if_neg (show ¬ b.toNat = 126 from fun e => h3 (UInt8.toNat_inj.1 e))]

set_option maxHeartbeats 4000000 in
set_option maxRecDepth 100000 in
theorem write_calls (G T0 N1 T1 N2 N3 : Nat) (s : ByteArray) (B b : Nat) (w : World) (hG : IsG w G T0 N1 T1 N2 N3) (hlt : G < B ∧ T0 < B ∧ N1 < B ∧ T1 < B ∧ N2 < B ∧ N3 < B) (hb : Buf w B b []) (hs : s.size ≤ 1048576) (hBw : B ≤ w.heap.size) :
  Calls Tryd.prog 94 #[.pointer (some ⟨G, 0, none⟩), .iface 140 (.pointer (some ⟨b, 0, none⟩)), .string s] w fun e w' => ∃ n : Int, e = .returned (.tuple #[.int .i64 n, .nilIface]) ∧ Buf w' B b (un s.data.toList) ∧ Below B w w' := by
 have HG := aM hG
 have HT := aM hlt
 have HB := aM hb
 have HS := aM hs
 have HW := aM hBw
 have hmf : ∀ (fn : Fn) (first cap : Array Value) (w : World), (Instr.makeFunc fn first cap).run Tryd.prog w = .ok (.func fn first cap) w := fun _ _ _ _ => rfl
 have hna := nil_ahead
 have hme := method_put
 clear hG hlt hb hs hBw
 go_enter Tryd.func94, Tryd.ntmps94
 go_wp2_with (go_at_call 95; go_loud ((with_reducible refine (writer_calls b _).mono ?_); rintro e w2 ⟨rfl, rfl⟩))
 go_loopg [6, 7, 9, 11, 12] (s.size + 1) (fun kq v6 v7 v9 v11 v12 w' => ∃ (i last : Nat) (n : Int) (cont : List UInt8), v6 = .int .i64 n ∧ v7 = .nilIface ∧ v9 = .int .i64 (last : Int) ∧ v11 = .bool false ∧ v12 = .int .i64 (i : Int) ∧ i ≤ s.size + 1 ∧ kq = s.size + 1 - i ∧ last ≤ i ∧ last ≤ s.size ∧
  Aside0 (un s.data.toList = cont ++ (s.data.toList.drop last).take (i - last) ++ un (s.data.toList.drop i)) ∧ Aside0 (cont.length ≤ 2097152 ∧ cont.length ≤ last) ∧ Aside0 (Buf w' B b cont) ∧ Aside0 (Below B w w'))
 case atStart => exact ⟨0, 0, 0, [], rfl, rfl, rfl, rfl, rfl, by omega, by omega, by omega, by omega, ⟨by simp⟩, ⟨by simp, by simp⟩, HB, ⟨Below.refl _ _⟩⟩
 case round =>
  obtain ⟨i, last, n, cont, rfl, rfl, rfl, rfl, rfl, hi, hk, hli, hls, HU, HC, HBU, HBL⟩ := hrel
  have HK := aM hk
  have HLI := aM hli
  have HLS := aM hls
  have HGR := aM (IsG.later HG.out HBL.out HT.out)
  have HWR : Aside0 (B ≤ wr.heap.size) := ⟨Nat.le_trans HW.out HBL.out.size⟩
  have HW1 : Aside0 (wrap64 ((i : Int) + 1) = (i : Int) + 1) := ⟨w64 (by omega) (by have := HS.out; omega)⟩
  by_cases hgt : i = s.size + 1
  ·subst hgt
   have HUF : Aside0 (un s.data.toList = cont ++ s.data.toList.drop last) := ⟨by
    have h := HU.out
    rw [List.take_of_length_le (by rw [List.length_drop]; show s.data.size - last ≤ _; have : s.data.size = s.size := rfl; omega), List.drop_eq_nil_of_le (show s.data.size ≤ s.size + 1 from Nat.le_succ _)] at h
    rw [h]
    show _ ++ [] = _
    rw [List.append_nil]⟩
   clear hi hk hli hls
   by_cases hend : last = s.size
   ·subst hend
    have HUE : Aside0 (un s.data.toList = cont) := ⟨by
     have h := HUF.out
     rw [show s.data.toList.drop s.size = [] from List.drop_eq_nil_of_le (Nat.le_refl _), List.append_nil] at h
     exact h⟩
    go_wp2
    go_ret2
    exact ⟨_, rfl, by rw [HUE.out]; exact HBU.out, HBL.out⟩
   ·have hl2 : (last : Int) ≤ (s.size : Int) := by have := HLS.out; omega
    have hl0 : (0 : Int) ≤ (last : Int) := by omega
    have hne : ((last : Int) != (s.size : Int)) = true := bne_iff_ne.2 (by omega)
    obtain ⟨S0, hS0⟩ : ∃ S, s.extract last s.size = S := ⟨_, rfl⟩
    have HS0 : Aside0 (S0.data.toList = s.data.toList.drop last) := ⟨by rw [← hS0, ext_end]⟩
    have HSZ : Aside0 (cont.length + S0.size ≤ 140737488355328) := ⟨by
     have h1 : S0.size = S0.data.toList.length := rfl
     rw [h1, HS0.out, List.length_drop]
     have h2 : s.data.toList.length = s.size := rfl
     have := HC.out.1
     have := HS.out
     omega⟩
    clear hend
    go_upto_region 23 with (fail)
    go_region_with (first | (go_at_call 105; refine (put_calls B b cont S0 _ (HBU.out.drewN 1) HSZ.out HWR.out).mono ?_; rintro e w2 ⟨rfl, hbu, hbl⟩; have HBU2 := aM hbu; have HBL2 : Aside0 (Below B w w2) := ⟨HBL.out.trans ((drewN_below wr 1 B).trans hbl)⟩; clear hbu hbl))
    go_wp2
    go_ret2
    exact ⟨_, rfl, by rw [HUF.out, ← HS0.out]; exact HBU2.out, HBL2.out⟩
  ·by_cases heq : i = s.size
   ·subst heq
    have HE : Aside0 (ByteArray.empty.toList.isEmpty = true) := ⟨str_nil _ rfl⟩
    have HUN := aM (un_end s.data.toList cont last HLS.out HU.out)
    clear hgt hi hk hli hls
    go_wp2_with (go_at_call 96; go_loud ((with_reducible refine (look_end G T0 N1 T1 N2 N3 ByteArray.empty _ HGR.out HE.out).mono ?_); rintro e w2 ⟨rfl, m, hm⟩; have HBU2 : Aside0 (Buf w2 B b cont) := ⟨by rw [hm]; exact HBU.out.drewN m⟩; have HBL2 : Aside0 (Below B w w2) := ⟨by rw [hm]; exact HBL.out.trans (drewN_below _ _ _)⟩; clear hm))
    go_roundg 0
    case measure => have := HK.out; omega
    case rel => exact ⟨s.size + 1, last, n, cont, rfl, rfl, rfl, rfl, by rw [HW1.out]; rfl, by omega, by omega, by have := HLS.out; omega, HLS.out, HUN, HC, HBU2, HBL2⟩
   ·have hilt : i < s.size := by omega
    have HI := aM hilt
    have hneq : ((i : Int) != (s.size : Int)) = true := bne_iff_ne.2 (by omega)
    have hi0 : (0 : Int) ≤ (i : Int) := by omega
    have hi1 : (i : Int) < (s.size : Int) := by omega
    have hi2 : (i : Int) ≤ (s.size : Int) := by omega
    obtain ⟨c, hc⟩ : ∃ c, s[i] = c := ⟨_, rfl⟩
    have HCC : Aside0 (s.data.toList[i]'hilt = c) := ⟨hc⟩
    have HD : Aside0 (s.data.toList.drop i = s.data.toList[i]'hilt :: s.data.toList.drop (i + 1)) := ⟨List.drop_eq_getElem_cons hilt⟩
    have g1 := HGR.out.m.c1
    have g4 := HGR.out.m.c4
    have g5 := HGR.out.m.c5
    clear hgt heq hi hk hli hls
    rcases mp_cases c with rfl | rfl | rfl | ⟨h3, n48, n49, n126⟩
    ·have eb : (48 : UInt8).toNat = 48 := rfl
     have gm : wr.cell? ⟨G, 54, none⟩ = some (.int .u8 0) := HGR.out.m.map 48 (by decide)
     go_upto_region 7 with (fail)
     go_quiet (fail)
     obtain ⟨w1, hw1⟩ : ∃ x, x = wr.drewN nq := ⟨_, rfl⟩
     rw [← hw1]
     have HG1 : Aside0 (IsG w1 G T0 N1 T1 N2 N3) := ⟨by rw [hw1]; exact IsG.drewN HGR.out _⟩
     have HBU1 : Aside0 (Buf w1 B b cont) := ⟨by rw [hw1]; exact HBU.out.drewN _⟩
     have HBL1 : Aside0 (Below B w w1) := ⟨by rw [hw1]; exact HBL.out.trans (drewN_below _ _ _)⟩
     have HWR1 : Aside0 (B ≤ w1.heap.size) := ⟨by rw [hw1]; exact HWR.out⟩
     clear hw1 g1 g4 g5 gm
     have g1 := HG1.out.m.c1
     have g4 := HG1.out.m.c4
     have g5 := HG1.out.m.c5
     have gt : w1.cell? ⟨T0, 0, none⟩ = some (.pointer none) := (blk_cell HG1.out.t0 0).trans rfl
     go_wp2
     go_roundg (s.size + 1 - (i + 1))
     case measure => have := HK.out; have := HI.out; omega
     case rel => exact ⟨i + 1, last, n, cont, rfl, rfl, rfl, rfl, by first | rfl | (rw [HW1.out]; rfl), by have := HI.out; omega, rfl, by have := HLI.out; omega, HLS.out, ⟨un_step _ _ _ _ HLI.out HI.out HU.out (by rw [HD.out, HCC.out]; exact un_one _ _ (by decide))⟩, HC, HBU1, HBL1⟩
    ·have eb : (49 : UInt8).toNat = 49 := rfl
     have gm : wr.cell? ⟨G, 55, none⟩ = some (.int .u8 1) := HGR.out.m.map 49 (by decide)
     go_upto_region 7 with (fail)
     go_quiet (fail)
     obtain ⟨w1, hw1⟩ : ∃ x, x = wr.drewN nq := ⟨_, rfl⟩
     rw [← hw1]
     have HG1 : Aside0 (IsG w1 G T0 N1 T1 N2 N3) := ⟨by rw [hw1]; exact IsG.drewN HGR.out _⟩
     have HBU1 : Aside0 (Buf w1 B b cont) := ⟨by rw [hw1]; exact HBU.out.drewN _⟩
     have HBL1 : Aside0 (Below B w w1) := ⟨by rw [hw1]; exact HBL.out.trans (drewN_below _ _ _)⟩
     have HWR1 : Aside0 (B ≤ w1.heap.size) := ⟨by rw [hw1]; exact HWR.out⟩
     clear hw1 g1 g4 g5 gm
     have g1 := HG1.out.m.c1
     have g4 := HG1.out.m.c4
     have g5 := HG1.out.m.c5
     have gt : w1.cell? ⟨T0, 1, none⟩ = some (.pointer none) := (blk_cell HG1.out.t0 1).trans rfl
     go_wp2
     go_roundg (s.size + 1 - (i + 1))
     case measure => have := HK.out; have := HI.out; omega
     case rel => exact ⟨i + 1, last, n, cont, rfl, rfl, rfl, rfl, by first | rfl | (rw [HW1.out]; rfl), by have := HI.out; omega, rfl, by have := HLI.out; omega, HLS.out, ⟨un_step _ _ _ _ HLI.out HI.out HU.out (by rw [HD.out, HCC.out]; exact un_one _ _ (by decide))⟩, HC, HBU1, HBL1⟩
    ·have eb : (126 : UInt8).toNat = 126 := rfl
     have gm : wr.cell? ⟨G, 132, none⟩ = some (.int .u8 2) := HGR.out.m.map 126 (by decide)
     obtain ⟨S0, hS0⟩ : ∃ S, s.extract i s.size = S := ⟨_, rfl⟩
     have HL0 : Aside0 (S0.data.toList = 126 :: s.data.toList.drop (i + 1)) := ⟨by rw [← hS0, ext_end, HD.out, HCC.out]⟩
     obtain ⟨q1, q2, q3, q4⟩ := str_cons S0 126 _ HL0.out
     have Q1 := aM q1
     have Q2 := aM q2
     have Q3 := aM q3
     obtain ⟨S1, hS1⟩ : ∃ S, S0.extract 1 S0.size = S := ⟨_, rfl⟩
     have HS1 := aM hS1
     rw [hS1] at q4
     have Q4 := aM q4
     clear q1 q2 q3 q4 hS1
     go_upto_region 7 with (fail)
     go_quiet (fail)
     obtain ⟨w1, hw1⟩ : ∃ x, x = wr.drewN nq := ⟨_, rfl⟩
     rw [← hw1]
     have HG1 : Aside0 (IsG w1 G T0 N1 T1 N2 N3) := ⟨by rw [hw1]; exact IsG.drewN HGR.out _⟩
     have HBU1 : Aside0 (Buf w1 B b cont) := ⟨by rw [hw1]; exact HBU.out.drewN _⟩
     have HBL1 : Aside0 (Below B w w1) := ⟨by rw [hw1]; exact HBL.out.trans (drewN_below _ _ _)⟩
     have HWR1 : Aside0 (B ≤ w1.heap.size) := ⟨by rw [hw1]; exact HWR.out⟩
     clear hw1 g1 g4 g5 gm
     have g1 := HG1.out.m.c1
     have g4 := HG1.out.m.c4
     have g5 := HG1.out.m.c5
     have gt : w1.cell? ⟨T0, 2, none⟩ = some (.pointer (some ⟨N1, 0, none⟩)) := (blk_cell HG1.out.t0 2).trans rfl
     go_upto_region 10 with (fail)
     obtain ⟨rs, hrs⟩ : ∃ r, r = s.data.toList.drop (i + 1) := ⟨_, rfl⟩
     rw [← hrs] at Q4
     have HRS0 := aM hrs
     clear hrs
     rcases rs with _ | ⟨d, rest⟩
     ·have HE1 := aM (str_nil S1 Q4.out)
      go_wp2_with (go_at_call 96; go_loud ((with_reducible refine (look_one G T0 N1 T1 N2 N3 S0 S1 _ HG1.out Q1.out Q2.out Q3.out HS1.out HE1.out).mono ?_); rintro e w2 ⟨rfl, m, hm⟩; have HBU2 : Aside0 (Buf w2 B b cont) := ⟨by rw [hm]; exact HBU1.out.drewN m⟩; have HBL2 : Aside0 (Below B w w2) := ⟨by rw [hm]; exact HBL1.out.trans (drewN_below _ _ _)⟩; have HWR2 : Aside0 (B ≤ w2.heap.size) := ⟨by rw [hm]; exact HWR1.out⟩; clear hm))
      go_roundg (s.size + 1 - (i + 1))
      case measure => have := HK.out; have := HI.out; omega
      case rel => exact ⟨i + 1, last, n, cont, rfl, rfl, rfl, rfl, by first | rfl | (rw [HW1.out]; rfl), by have := HI.out; omega, rfl, by have := HLI.out; omega, HLS.out, ⟨un_step _ _ _ _ HLI.out HI.out HU.out (by rw [HD.out, HCC.out]; rw [← HRS0.out]; rfl)⟩, HC, HBU2, HBL2⟩
     ·have HRS : Aside0 (s.data.toList.drop (i + 1) = d :: rest) := ⟨HRS0.out.symm⟩
      obtain ⟨q1, q2, q3, q4⟩ := str_cons S1 d rest Q4.out
      have P1 := aM q1
      have P2 := aM q2
      have P3 := aM q3
      obtain ⟨S2, hS2⟩ : ∃ S, S1.extract 1 S1.size = S := ⟨_, rfl⟩
      have HS2 := aM hS2
      clear q1 q2 q3 q4 hS2
      rcases mp_cases d with rfl | rfl | rfl | ⟨h3, n48, n49, n126⟩
      ·skip
       have HDR : Aside0 (s.data.toList.drop (i + 2) = rest) := ⟨by
        have h := congrArg (List.drop 1) HRS.out
        rw [List.drop_drop] at h
        exact h⟩
       have HI2 : Aside0 (i + 2 ≤ s.size) := ⟨by
        have h := congrArg List.length HRS.out
        rw [List.length_drop, List.length_cons] at h
        have h2 : s.data.toList.length = s.size := rfl
        omega⟩
       have HUH : Aside0 (un (s.data.toList.drop i) = 126 :: un (s.data.toList.drop (i + 2))) := ⟨by rw [HD.out, HCC.out, HRS.out, HDR.out]; exact un_til rest⟩
       have HNU := aM (un_hit s.data.toList cont last i 126 HU.out HUH.out)
       obtain ⟨S3, hS3⟩ : ∃ S, s.extract last i = S := ⟨_, rfl⟩
       have HS3 : Aside0 (S3.data.toList = (s.data.toList.drop last).take (i - last)) := ⟨by rw [← hS3, ext_list]⟩
       have HZ3 : Aside0 (S3.size ≤ i - last) := ⟨by
        have h1 : S3.size = S3.data.toList.length := rfl
        rw [h1, HS3.out]
        exact List.length_take_le _ _⟩
       have hla : (0 : Int) ≤ (last : Int) := by omega
       have hlb : (last : Int) ≤ (i : Int) := by have := HLI.out; omega
       have HP1 : Aside0 (cont.length + S3.size ≤ 140737488355328) := ⟨by have := HZ3.out; have := HC.out.1; have := HI.out; have := HS.out; omega⟩
       have HP2 : Aside0 ((cont ++ S3.data.toList).length + (⟨#[126]⟩ : ByteArray).size ≤ 140737488355328) := ⟨by
        rw [List.length_append]
        have h1 : S3.data.toList.length = S3.size := rfl
        have h2 : (⟨#[126]⟩ : ByteArray).size = 1 := rfl
        have := HZ3.out
        have := HC.out.1
        have := HI.out
        have := HS.out
        omega⟩
       have HW2 : Aside0 (wrap64 ((i : Int) + 2) = (i : Int) + 2) := ⟨w64 (by omega) (by have := HI.out; have := HS.out; omega)⟩
       have hen : ((2 : Int) == 0) = false := rfl
       go_upto_region 13 with (go_at_call 96; go_loud ((with_reducible refine (look_til G T0 N1 T1 N2 N3 S0 S1 S2 _ HG1.out Q1.out Q2.out Q3.out HS1.out P1.out P2.out P3.out HS2.out).mono ?_); rintro e w2 ⟨rfl, m, hm⟩; have HBU2 : Aside0 (Buf w2 B b cont) := ⟨by rw [hm]; exact HBU1.out.drewN m⟩; have HBL2 : Aside0 (Below B w w2) := ⟨by rw [hm]; exact HBL1.out.trans (drewN_below _ _ _)⟩; have HWR2 : Aside0 (B ≤ w2.heap.size) := ⟨by rw [hm]; exact HWR1.out⟩; clear hm))
       go_region_with (first | (go_at_call 105; refine (put_calls B b cont S3 _ (HBU2.out.drewN 1) HP1.out HWR2.out).mono ?_; rintro e w4 ⟨rfl, hbu, hbl⟩; have HBU4 := aM hbu; have HBL4 : Aside0 (Below B w w4) := ⟨HBL2.out.trans ((drewN_below w2 1 B).trans hbl)⟩; have HWR4 : Aside0 (B ≤ w4.heap.size) := ⟨Nat.le_trans HWR2.out hbl.size⟩; clear hbu hbl))
       go_wp2_with (go_at_call 105; go_loud ((with_reducible refine (put_calls B b (cont ++ S3.data.toList) ⟨#[126]⟩ _ HBU4.out HP2.out HWR4.out).mono ?_); rintro e w5 ⟨rfl, hbu, hbl⟩; have HBU5 := aM hbu; have HBL5 := aM (HBL4.out.trans hbl); clear hbu hbl))
       go_roundg (s.size + 1 - (i + 2))
       case measure => have := HK.out; have := HI.out; omega
       case rel =>
        refine ⟨i + 2, i + 2, _, cont ++ (s.data.toList.drop last).take (i - last) ++ [126], rfl, rfl, by first | rfl | (rw [HW2.out]; rfl), rfl, by first | rfl | (rw [HW2.out]; rfl), by have := HI2.out; omega, rfl, by omega, HI2.out, HNU, ⟨?_⟩, ⟨by rw [← HS3.out]; exact HBU5.out⟩, HBL5⟩
        have h1 : ((s.data.toList.drop last).take (i - last)).length ≤ i - last := List.length_take_le _ _
        have h2 := HC.out.2
        have h3 := HLI.out
        have h4 := HI.out
        have h5 := HS.out
        rw [List.length_append, List.length_append, List.length_singleton]
        omega
      ·skip
       have HDR : Aside0 (s.data.toList.drop (i + 2) = rest) := ⟨by
        have h := congrArg (List.drop 1) HRS.out
        rw [List.drop_drop] at h
        exact h⟩
       have HI2 : Aside0 (i + 2 ≤ s.size) := ⟨by
        have h := congrArg List.length HRS.out
        rw [List.length_drop, List.length_cons] at h
        have h2 : s.data.toList.length = s.size := rfl
        omega⟩
       have HUH : Aside0 (un (s.data.toList.drop i) = 47 :: un (s.data.toList.drop (i + 2))) := ⟨by rw [HD.out, HCC.out, HRS.out, HDR.out]; exact un_sla rest⟩
       have HNU := aM (un_hit s.data.toList cont last i 47 HU.out HUH.out)
       obtain ⟨S3, hS3⟩ : ∃ S, s.extract last i = S := ⟨_, rfl⟩
       have HS3 : Aside0 (S3.data.toList = (s.data.toList.drop last).take (i - last)) := ⟨by rw [← hS3, ext_list]⟩
       have HZ3 : Aside0 (S3.size ≤ i - last) := ⟨by
        have h1 : S3.size = S3.data.toList.length := rfl
        rw [h1, HS3.out]
        exact List.length_take_le _ _⟩
       have hla : (0 : Int) ≤ (last : Int) := by omega
       have hlb : (last : Int) ≤ (i : Int) := by have := HLI.out; omega
       have HP1 : Aside0 (cont.length + S3.size ≤ 140737488355328) := ⟨by have := HZ3.out; have := HC.out.1; have := HI.out; have := HS.out; omega⟩
       have HP2 : Aside0 ((cont ++ S3.data.toList).length + (⟨#[47]⟩ : ByteArray).size ≤ 140737488355328) := ⟨by
        rw [List.length_append]
        have h1 : S3.data.toList.length = S3.size := rfl
        have h2 : (⟨#[47]⟩ : ByteArray).size = 1 := rfl
        have := HZ3.out
        have := HC.out.1
        have := HI.out
        have := HS.out
        omega⟩
       have HW2 : Aside0 (wrap64 ((i : Int) + 2) = (i : Int) + 2) := ⟨w64 (by omega) (by have := HI.out; have := HS.out; omega)⟩
       have hen : ((2 : Int) == 0) = false := rfl
       go_upto_region 13 with (go_at_call 96; go_loud ((with_reducible refine (look_sla G T0 N1 T1 N2 N3 S0 S1 S2 _ HG1.out Q1.out Q2.out Q3.out HS1.out P1.out P2.out P3.out HS2.out).mono ?_); rintro e w2 ⟨rfl, m, hm⟩; have HBU2 : Aside0 (Buf w2 B b cont) := ⟨by rw [hm]; exact HBU1.out.drewN m⟩; have HBL2 : Aside0 (Below B w w2) := ⟨by rw [hm]; exact HBL1.out.trans (drewN_below _ _ _)⟩; have HWR2 : Aside0 (B ≤ w2.heap.size) := ⟨by rw [hm]; exact HWR1.out⟩; clear hm))
       go_region_with (first | (go_at_call 105; refine (put_calls B b cont S3 _ (HBU2.out.drewN 1) HP1.out HWR2.out).mono ?_; rintro e w4 ⟨rfl, hbu, hbl⟩; have HBU4 := aM hbu; have HBL4 : Aside0 (Below B w w4) := ⟨HBL2.out.trans ((drewN_below w2 1 B).trans hbl)⟩; have HWR4 : Aside0 (B ≤ w4.heap.size) := ⟨Nat.le_trans HWR2.out hbl.size⟩; clear hbu hbl))
       go_wp2_with (go_at_call 105; go_loud ((with_reducible refine (put_calls B b (cont ++ S3.data.toList) ⟨#[47]⟩ _ HBU4.out HP2.out HWR4.out).mono ?_); rintro e w5 ⟨rfl, hbu, hbl⟩; have HBU5 := aM hbu; have HBL5 := aM (HBL4.out.trans hbl); clear hbu hbl))
       go_roundg (s.size + 1 - (i + 2))
       case measure => have := HK.out; have := HI.out; omega
       case rel =>
        refine ⟨i + 2, i + 2, _, cont ++ (s.data.toList.drop last).take (i - last) ++ [47], rfl, rfl, by first | rfl | (rw [HW2.out]; rfl), rfl, by first | rfl | (rw [HW2.out]; rfl), by have := HI2.out; omega, rfl, by omega, HI2.out, HNU, ⟨?_⟩, ⟨by rw [← HS3.out]; exact HBU5.out⟩, HBL5⟩
        have h1 : ((s.data.toList.drop last).take (i - last)).length ≤ i - last := List.length_take_le _ _
        have h2 := HC.out.2
        have h3 := HLI.out
        have h4 := HI.out
        have h5 := HS.out
        rw [List.length_append, List.length_append, List.length_singleton]
        omega
      ·skip
       go_wp2_with (go_at_call 96; go_loud ((with_reducible refine (look_two G T0 N1 T1 N2 N3 S0 S1 S2 _ HG1.out Q1.out Q2.out Q3.out HS1.out P1.out P2.out P3.out HS2.out).mono ?_); rintro e w2 ⟨rfl, m, hm⟩; have HBU2 : Aside0 (Buf w2 B b cont) := ⟨by rw [hm]; exact HBU1.out.drewN m⟩; have HBL2 : Aside0 (Below B w w2) := ⟨by rw [hm]; exact HBL1.out.trans (drewN_below _ _ _)⟩; have HWR2 : Aside0 (B ≤ w2.heap.size) := ⟨by rw [hm]; exact HWR1.out⟩; clear hm))
       go_roundg (s.size + 1 - (i + 1))
       case measure => have := HK.out; have := HI.out; omega
       case rel => exact ⟨i + 1, last, n, cont, rfl, rfl, rfl, rfl, by first | rfl | (rw [HW1.out]; rfl), by have := HI.out; omega, rfl, by have := HLI.out; omega, HLS.out, ⟨un_step _ _ _ _ HLI.out HI.out HU.out (by rw [HD.out, HCC.out]; rw [HRS.out]; exact un_two _ _ _ (by decide) (by decide))⟩, HC, HBU2, HBL2⟩
      ·have HBAD := aM h3
       have HN48 := aM n48
       have HN49 := aM n49
       clear h3 n48 n49 n126
       go_wp2_with (go_at_call 96; go_loud ((with_reducible refine (look_bad G T0 N1 T1 N2 N3 S0 S1 d _ HG1.out Q1.out Q2.out Q3.out HS1.out P1.out P2.out P3.out HBAD.out).mono ?_); rintro e w2 ⟨rfl, m, hm⟩; have HBU2 : Aside0 (Buf w2 B b cont) := ⟨by rw [hm]; exact HBU1.out.drewN m⟩; have HBL2 : Aside0 (Below B w w2) := ⟨by rw [hm]; exact HBL1.out.trans (drewN_below _ _ _)⟩; have HWR2 : Aside0 (B ≤ w2.heap.size) := ⟨by rw [hm]; exact HWR1.out⟩; clear hm))
       go_roundg (s.size + 1 - (i + 1))
       case measure => have := HK.out; have := HI.out; omega
       case rel => exact ⟨i + 1, last, n, cont, rfl, rfl, rfl, rfl, by first | rfl | (rw [HW1.out]; rfl), by have := HI.out; omega, rfl, by have := HLI.out; omega, HLS.out, ⟨un_step _ _ _ _ HLI.out HI.out HU.out (by rw [HD.out, HCC.out]; rw [HRS.out]; exact un_two _ _ _ HN48.out HN49.out)⟩, HC, HBU2, HBL2⟩
    ·have gm : wr.cell? ⟨G, 6 + c.toNat, none⟩ = some (.int .u8 3) := (HGR.out.m.map c.toNat c.toNat_lt).trans (by rw [h3]; rfl)
     have h256 : ((c.toNat : Nat) : Int) < 256 := by have := c.toNat_lt; omega
     have HN := aM n126
     clear h3 n48 n49 n126
     go_upto_region 7 with (fail)
     go_quiet (fail)
     obtain ⟨w1, hw1⟩ : ∃ x, x = wr.drewN nq := ⟨_, rfl⟩
     rw [← hw1]
     have HG1 : Aside0 (IsG w1 G T0 N1 T1 N2 N3) := ⟨by rw [hw1]; exact IsG.drewN HGR.out _⟩
     have HBU1 : Aside0 (Buf w1 B b cont) := ⟨by rw [hw1]; exact HBU.out.drewN _⟩
     have HBL1 : Aside0 (Below B w w1) := ⟨by rw [hw1]; exact HBL.out.trans (drewN_below _ _ _)⟩
     have HWR1 : Aside0 (B ≤ w1.heap.size) := ⟨by rw [hw1]; exact HWR.out⟩
     clear hw1 g1 g4 g5 gm
     have g1 := HG1.out.m.c1
     have g4 := HG1.out.m.c4
     have g5 := HG1.out.m.c5
     go_wp2
     go_roundg (s.size + 1 - (i + 1))
     case measure => have := HK.out; have := HI.out; omega
     case rel => exact ⟨i + 1, last, n, cont, rfl, rfl, rfl, rfl, by first | rfl | (rw [HW1.out]; rfl), by have := HI.out; omega, rfl, by have := HLI.out; omega, HLS.out, ⟨un_step _ _ _ _ HLI.out HI.out HU.out (by rw [HD.out, HCC.out]; exact un_one _ _ HN.out)⟩, HC, HBU1, HBL1⟩
end Go.Proofs.YtdlkmnohmdnogaaDoor.Gns
end
