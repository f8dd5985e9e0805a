/- Several texts in one: what the claim's last text rests on. No conditions. -/
import Derived.Test.YtdlkmnohmdnogaaDoorMDp17
import Derived.Test.YtdlkmnohmdnogaaDoorMDp18
import Derived.Test.YtdlkmnohmdnogaaDoorMDp16
import Derived.Test.YtdlkmnohmdnogaaDoorMDp6
import Derived.Test.YtdlkmnohmdnogaaDoorMDp5
import Derived.Test.YtdlkmnohmdnogaaDoorMDp8
section
namespace Go.Proofs.YtdlkmnohmdnogaaDoor.Pof
set_option linter.unusedVariables false
set_option linter.unusedSimpArgs false
open Go.RowKit Go.Lib Go.Proofs.YtdlkmnohmdnogaaDoor.PQ Go.Proofs.YtdlkmnohmdnogaaDoorW.PrintWords Go.Proofs.YtdlkmnohmdnogaaDoorW.PrintLast Go.Proofs.YtdlkmnohmdnogaaDoorW.PrintMore Go.Proofs.YtdlkmnohmdnogaaDoor.Pre Go.Proofs.YtdlkmnohmdnogaaDoor.Esc Go.Proofs.YtdlkmnohmdnogaaDoor.Uns Go.Proofs.YtdlkmnohmdnogaaDoor.PtS Go.Proofs.YtdlkmnohmdnogaaDoor.Seg Go.Proofs.YtdlkmnohmdnogaaDoor.Spl
theorem R_hollow {W : World} {base g : Nat} {ok : Nat → Prop} (hg : W.heap[g]? = some (.cells #[] 9 (0, 0))) (hb : base ≤ g) (hk : ok g) : Kd.string.R 9 W base ok (.slice (some ⟨g, 0, none⟩) 0 0) [] :=
 ⟨fun k h => by
  have e : g = k := Option.some.inj h
  rw [← e]
  exact hk, [], ⟨rfl, .inr ⟨g, 0, #[], rfl, hb, hg, Nat.le_refl _, by unfold maxLen; omega, rfl, rfl⟩⟩, Reps.none _ _⟩
theorem fld_short (l : List UInt8) : ∀ f ∈ fld l, f.length ≤ l.length := by
 induction l with
 | nil =>
  intro f hf
  rw [List.mem_singleton.1 hf]
  exact Nat.le_refl _
 | cons c l ih =>
  intro f hf
  by_cases hc : c = 47
  ·subst hc
   rw [fld_sep] at hf
   rcases List.mem_cons.1 hf with rfl | hf
   ·exact Nat.zero_le _
   ·exact Nat.le_succ_of_le (ih f hf)
  ·obtain ⟨g, gs, h1, h2⟩ := fld_char c l hc
   rw [h2] at hf
   rcases List.mem_cons.1 hf with rfl | hf
   ·have := ih g (by rw [h1]; exact List.mem_cons_self ..)
    simp only [List.length_cons]
    omega
   ·exact Nat.le_succ_of_le (ih f (by rw [h1]; exact List.mem_cons_of_mem _ hf))
theorem esc_cmp (p : List UInt8) (h : 47 ∉ p) : ((esc (mk (un p))).toList != (mk p).toList) = !val p := by
 rw [ByteArray.toList_eq, ByteArray.toList_eq, val_eq p.length p (Nat.le_refl _) h]
 show (eL (un p) != p) = _
 by_cases e : eL (un p) = p
 ·rw [decide_eq_true e, e]
  simp
 ·rw [decide_eq_false e]
  simpa using e
theorem row_part (fs : List (List UInt8)) (n i : Nat) (h : i < fs.length) (hn : n = fs.length) : (row ([] :: fs) (n + 1))[1 + i]? = some (.string (mk (fs[i]))) := by
 subst hn
 rw [Nat.add_comm 1 i]
 exact row_get ([] :: fs) (i + 1) (Nat.succ_lt_succ h)
theorem pth_ok (f : List UInt8) (fs : List (List UInt8)) (out : List ByteArray) (h1 : val f = true) (h2 : okS (mk (un f)) = true) : pth (f :: fs) out = pth fs (out ++ [mk (un f)]) := if_pos ⟨h1, h2⟩
theorem pth_no (f : List UInt8) (fs : List (List UInt8)) (out : List ByteArray) (h : ¬ (val f = true ∧ okS (mk (un f)) = true)) : pth (f :: fs) out = ([], false) := if_neg h

set_option maxHeartbeats 4000000 in
set_option maxRecDepth 100000 in
theorem parts_calls (s : ByteArray) (fs : List (List UInt8)) (hf : fld s.data.toList = [] :: fs) (hfs : 1 ≤ fs.length) (hne : s.toList.isEmpty = false) (hs : s.size ≤ 60) (w : World) :
  Calls Tryd.prog 10 #[.string s] w fun e w' => ∃ v0_ : Value, e = .returned (.tuple #[v0_, .bool (pth fs []).2]) ∧ Kd.R Kd.string 9 w' w.heap.size (fun _ => True) v0_ (pth fs []).1 ∧ Below w.heap.size w w' := by
 have HF := aM hf
 have HS := aM hs
 have HD : Aside0 (∀ p ∈ fs, 47 ∉ p ∧ p.length ≤ 60) := ⟨fun p hp => by
  have hm : p ∈ fld s.data.toList := by rw [hf]; exact List.mem_cons_of_mem _ hp
  exact ⟨fld_no _ p hm, Nat.le_trans (fld_short _ p hm) hs⟩⟩
 have HN : Aside0 (fs.length ≤ 60) := ⟨by
  have h1 := fld_len s.data.toList
  have h2 : s.data.toList.count 47 ≤ s.data.toList.length := List.count_le_length
  rw [hf, List.length_cons] at h1
  have h3 : s.data.toList.length = s.size := rfl
  omega⟩
 have hgt : decide ((60 : Int) < (s.size : Int)) = false := decide_eq_false (by omega)
 obtain ⟨n, hn⟩ : ∃ n, n = fs.length := ⟨_, rfl⟩
 have HNN := aM hn
 have HSP : Aside0 (∀ W : World, Calls Tryd.prog 13 #[.string s, .string ⟨#[47]⟩] W fun e w' => ∃ g, e = .returned (.slice (some ⟨g, 0, none⟩) (n + 1) (n + 1)) ∧ w'.heap[g]? = some (.cells (row ([] :: fs) (n + 1)) 9 (0, 0)) ∧ W.heap.size ≤ g ∧ Below W.heap.size W w') := ⟨fun W => by
  have h := split_calls s W (by omega)
  rw [hf, List.length_cons, ← hn] at h
  exact h⟩
 have hbs0 : ∀ W : World, (Instr.buildSlice 22 0 #[]).run Tryd.prog W = .ok (.slice (some ⟨W.heap.size, 0, none⟩) 0 0) (W.alloc (.cells #[] 9)) := fun _ => by kernel_rfl
 have p0 : (0 : Int) < (n : Int) + 1 := by omega
 have p1 : (1 : Int) ≤ (n : Int) + 1 := by omega
 have hn0 : (n = 0) = False := eq_false (by rw [hn]; omega)
 clear hf hs hn hfs
 go_enter Tryd.func10, Tryd.ntmps10
 go_upto_region 8 with (go_at_call 13; go_loud ((with_reducible refine (HSP.out _).mono ?_); rintro e w2 ⟨g, rfl, h1, h2, h3⟩; have H1 := aM h1; have H2 := aM h2; have H3 := aM h3; clear h1 h2 h3; have cg0 : w2.cell? ⟨g, 0, none⟩ = some (.string ⟨#[]⟩) := (blk_cell H1.out 0).trans rfl))
 go_upto_region 9 with (fail)
 obtain ⟨w3, hw3⟩ : ∃ x, x = w2.alloc (.cells #[] 9) := ⟨_, rfl⟩
 rw [← hw3]
 have HG3 : Aside0 (w3.heap[g]? = some (.cells (row ([] :: fs) (n + 1)) 9 (0, 0))) := ⟨by rw [hw3]; exact blk_alloc H1.out _⟩
 have HB3 : Aside0 (Below w.heap.size w w3) := ⟨by rw [hw3]; exact below_alloc H3.out _⟩
 have HO3 : Aside0 (Kd.string.R 9 w3 w.heap.size (fun k => k ≠ g) (.slice (some ⟨w2.heap.size, 0, none⟩) 0 0) []) := ⟨by
  rw [hw3]
  exact R_hollow (blk_new w2 _) H3.out.size (Nat.ne_of_gt (blk_lt H1.out))⟩
 obtain ⟨V3, hV3⟩ : ∃ x, x = Value.slice (some ⟨w2.heap.size, 0, none⟩) 0 0 := ⟨_, rfl⟩
 rw [← hV3] at HO3 ⊢
 clear hw3 hV3 cg0 hbs0 p0
 go_wp2
 clear hn0
 go_loopg [5, 25] n (fun kq v5 v25 w' => ∃ (i : Nat) (out : List ByteArray), v25 = .int .i64 (i : Int) ∧ i ≤ n ∧ kq = n - i ∧ Aside0 (pth fs [] = pth (fs.drop i) out) ∧ Aside0 (out.length ≤ i) ∧ Aside0 (Kd.string.R 9 w' w.heap.size (fun k => k ≠ g) v5 out) ∧ Aside0 (w'.heap[g]? = some (.cells (row ([] :: fs) (n + 1)) 9 (0, 0))) ∧ Aside0 (Below w.heap.size w w'))
 case atStart => exact ⟨0, [], rfl, by omega, by omega, ⟨rfl⟩, ⟨Nat.le_refl _⟩, HO3, HG3, HB3⟩
 case round =>
  obtain ⟨i, out, rfl, hi, hk, HP, HOL, HOR, HGR, HBR⟩ := hrel
  have HK := aM hk
  by_cases hlt : i < n
  ·have HLT := aM hlt
   have hlf : i < fs.length := by rw [← HNN.out]; exact hlt
   obtain ⟨p, hp⟩ : ∃ p, p = fs[i] := ⟨_, rfl⟩
   have HPD : Aside0 (fs.drop i = p :: fs.drop (i + 1)) := ⟨by rw [hp]; exact List.drop_eq_getElem_cons hlf⟩
   have hpp := HD.out p (by rw [hp]; exact List.getElem_mem hlf)
   obtain ⟨P, hP⟩ : ∃ P, P = mk p := ⟨_, rfl⟩
   obtain ⟨N, hN⟩ : ∃ N, N = mk (un p) := ⟨_, rfl⟩
   obtain ⟨E, hE⟩ : ∃ E, E = esc N := ⟨_, rfl⟩
   have HPS : Aside0 (P.size ≤ 1048576) := ⟨by rw [hP, mk_size]; omega⟩
   have HNS : Aside0 (N.size ≤ 1048576) := ⟨by rw [hN, mk_size]; have := un_len p.length p (Nat.le_refl _); omega⟩
   have HUP : Aside0 (Go.Proofs.YtdlkmnohmdnogaaDoor.Gnr.mk (un P.data.toList) = N) := ⟨by rw [hP, hN]; rfl⟩
   have HEE : Aside0 (esc N = E) := ⟨hE.symm⟩
   obtain ⟨e, he⟩ : ∃ e, e = val p := ⟨_, rfl⟩
   have hcmp : (E.toList != P.toList) = !e := by rw [hE, hN, hP, he]; exact esc_cmp p hpp.1
   obtain ⟨o, ho⟩ : ∃ o, o = okS N := ⟨_, rfl⟩
   obtain ⟨ko, hko⟩ := (stringOK_ev N HNS.out).ex
   have HOK : Aside0 (impl_stringOK.f ko N = some o) := ⟨by rw [ho]; exact hko⟩
   have ci : wr.cell? ⟨g, 1 + i, none⟩ = some (.string P) := (blk_cell HGR.out (1 + i)).trans (by rw [hP, hp]; exact row_part fs n i hlf HNN.out)
   have HV : Aside0 (e = val p ∧ o = okS (mk (un p))) := ⟨⟨he, by rw [ho, hN]⟩⟩
   have HNP := aM hN
   have q0 : (0 : Int) ≤ (i : Int) := by omega
   have q1 : (i : Int) < (n : Int) := by omega
   have HW1 : Aside0 (wrap64 ((i : Int) + 1) = (i : Int) + 1) := ⟨w64 (by omega) (by have := HN.out; have := HNN.out; omega)⟩
   have HF4 : Aside0 (Go.Proofs.YtdlkmnohmdnogaaDoor.Reg.FourG (wr.alloc (.cells #[.string ⟨#[126, 48]⟩, .string ⟨#[126]⟩, .string ⟨#[126, 49]⟩, .string ⟨#[47]⟩] 9)) wr.heap.size) := ⟨Go.Proofs.YtdlkmnohmdnogaaDoor.Reg.lit_four wr⟩
   have HD3 : Aside0 (Below wr.heap.size wr (wr.alloc (.cells #[.string ⟨#[126, 48]⟩, .string ⟨#[126]⟩, .string ⟨#[126, 49]⟩, .string ⟨#[47]⟩] 9))) := ⟨below_alloc (Below.refl _ _) _⟩
   have hnot : ∀ (x : Bool) (w : World), (Op.unary .not (.bool x)).run Tryd.prog w = .ok (.bool (!x)) w := fun _ _ => rfl
   clear hp hpp hP hN hE he ho hko hlf hlt hi hk
   cases e with
   | false =>
    have hc2 : (E.toList == P.toList) = false := by simpa [bne] using hcmp
    have hc3 : (E.toList = P.toList) = False := eq_false (by simpa using hc2)
    clear hcmp
    go_wp2_with (first | (go_at_call 14; go_loud ((with_reducible refine (Go.Proofs.YtdlkmnohmdnogaaDoor.Reg.new_calls wr.heap.size _ HF4.out).mono ?_); rintro e w4 ⟨b, k, cc, rfl, hb, hk, hkn, hle, hd⟩; have HB4 := aM hb; have HK4 := aM hk; have HN4 := aM hkn; have HD4 := aM (HD3.out.trans (hd.mono HD3.out.size)); have HL4 := aM (Nat.le_trans HD3.out.size hle); clear hb hk hkn hle hd)) | (go_at_call 15; go_loud ((with_reducible refine (Go.Proofs.YtdlkmnohmdnogaaDoor.Reg.replace_calls b k cc P _ HB4.out HK4.out HN4.out HPS.out).mono ?_); rintro e w5 ⟨rfl, hd⟩; rw [HUP.out]; have HD5 := aM (HD4.out.trans (hd.mono HL4.out)); clear hd)) | (go_at_call 16; go_loud ((with_reducible refine (Go.Proofs.YtdlkmnohmdnogaaDoor.Esw.escaped_calls N _ HNS.out).mono ?_); rintro e w6 ⟨rfl, hd⟩; rw [HEE.out]; have HD6 := aM (HD5.out.trans (hd.mono HD5.out.size)); clear hd)) | (go_at_call 17; go_loud ((with_reducible refine (impl_stringOK.calls ko N _ _ HOK.out).mono ?_); rintro e w7 ⟨rfl, hd⟩; have HD7 := aM (HD6.out.trans (hd.below.mono HD6.out.size)); clear hd)))
    go_ret2
    have hx : pth fs [] = ([], false) := by rw [HP.out, HPD.out]; exact pth_no _ _ _ (fun h => by rw [← HV.out.1] at h; cases h.1)
    rw [hx]
    exact ⟨_, rfl, Kd.R_nil _ _ _ _ _, below_step HBR.out HD6.out⟩
   | true =>
    have hc2 : (E.toList == P.toList) = true := by simpa [bne] using hcmp
    have hc3 : (E.toList = P.toList) = True := eq_true (by simpa using hc2)
    clear hcmp
    cases o with
    | false =>
     go_wp2_with (first | (go_at_call 14; go_loud ((with_reducible refine (Go.Proofs.YtdlkmnohmdnogaaDoor.Reg.new_calls wr.heap.size _ HF4.out).mono ?_); rintro e w4 ⟨b, k, cc, rfl, hb, hk, hkn, hle, hd⟩; have HB4 := aM hb; have HK4 := aM hk; have HN4 := aM hkn; have HD4 := aM (HD3.out.trans (hd.mono HD3.out.size)); have HL4 := aM (Nat.le_trans HD3.out.size hle); clear hb hk hkn hle hd)) | (go_at_call 15; go_loud ((with_reducible refine (Go.Proofs.YtdlkmnohmdnogaaDoor.Reg.replace_calls b k cc P _ HB4.out HK4.out HN4.out HPS.out).mono ?_); rintro e w5 ⟨rfl, hd⟩; rw [HUP.out]; have HD5 := aM (HD4.out.trans (hd.mono HL4.out)); clear hd)) | (go_at_call 16; go_loud ((with_reducible refine (Go.Proofs.YtdlkmnohmdnogaaDoor.Esw.escaped_calls N _ HNS.out).mono ?_); rintro e w6 ⟨rfl, hd⟩; rw [HEE.out]; have HD6 := aM (HD5.out.trans (hd.mono HD5.out.size)); clear hd)) | (go_at_call 17; go_loud ((with_reducible refine (impl_stringOK.calls ko N _ _ HOK.out).mono ?_); rintro e w7 ⟨rfl, hd⟩; have HD7 := aM (HD6.out.trans (hd.below.mono HD6.out.size)); clear hd)))
     go_ret2
     have hx : pth fs [] = ([], false) := by rw [HP.out, HPD.out]; exact pth_no _ _ _ (fun h => by rw [← HV.out.2] at h; cases h.2)
     rw [hx]
     exact ⟨_, rfl, Kd.R_nil _ _ _ _ _, below_step HBR.out HD7.out⟩
    | true =>
     go_upto_region 15 with (first | (go_at_call 14; go_loud ((with_reducible refine (Go.Proofs.YtdlkmnohmdnogaaDoor.Reg.new_calls wr.heap.size _ HF4.out).mono ?_); rintro e w4 ⟨b, k, cc, rfl, hb, hk, hkn, hle, hd⟩; have HB4 := aM hb; have HK4 := aM hk; have HN4 := aM hkn; have HD4 := aM (HD3.out.trans (hd.mono HD3.out.size)); have HL4 := aM (Nat.le_trans HD3.out.size hle); clear hb hk hkn hle hd)) | (go_at_call 15; go_loud ((with_reducible refine (Go.Proofs.YtdlkmnohmdnogaaDoor.Reg.replace_calls b k cc P _ HB4.out HK4.out HN4.out HPS.out).mono ?_); rintro e w5 ⟨rfl, hd⟩; rw [HUP.out]; have HD5 := aM (HD4.out.trans (hd.mono HL4.out)); clear hd)) | (go_at_call 16; go_loud ((with_reducible refine (Go.Proofs.YtdlkmnohmdnogaaDoor.Esw.escaped_calls N _ HNS.out).mono ?_); rintro e w6 ⟨rfl, hd⟩; rw [HEE.out]; have HD6 := aM (HD5.out.trans (hd.mono HD5.out.size)); clear hd)) | (go_at_call 17; go_loud ((with_reducible refine (impl_stringOK.calls ko N _ _ HOK.out).mono ?_); rintro e w7 ⟨rfl, hd⟩; have HD7 := aM (HD6.out.trans (hd.below.mono HD6.out.size)); clear hd)))
     have HO7 := aM (Kd.R_below HOR.out HD7.out)
     have HG7 := aM (blk_below HGR.out HD7.out)
     have HB7 := aM (below_step HBR.out HD7.out)
     go_wp2_with (((with_reducible refine gate_builtin (b := .append) (xs := #[.tmp 42, .tmp 44]) rfl ?_); at_builtin; go_loud (refine Kd.R_append Kd.string (w0 := w) (W := w7) w.heap.size rfl (.tmp 42) (.tmp 44) 22 9 (.string ⟨#[]⟩) 16 rfl Tryd.underlying22 info9 rfl (by decide) (by omega) _ out N [.string N] (fun k => k ≠ g) (fun _ => False) rfl rfl ?aP (fun _ hk => hk.elim) ?aF ?aO ?aB ?aS ?aL ?_; (case aP => exact rfl); (case aF => exact fun k hk => Nat.ne_of_gt (Nat.lt_of_lt_of_le (blk_lt HG7.out) hk)); (case aO => exact HO7.out); (case aB => exact HB7.out); (case aS => exact HB7.out.size); (case aL => (have := HOL.out; have := HLT.out; have := HN.out; have := HNN.out; omega)); intro v8 w8 ho8 hb8 hg8 _; have HO8 := aM ho8; have HB8 := aM hb8; have HG8 := aM (blk_grown HG7.out hg8 (fun e => HO7.out.1 g e.symm rfl)); clear ho8 hb8 hg8)))
     go_roundg (n - (i + 1))
     case measure => have := HK.out; have := HLT.out; omega
     case rel =>
      refine ⟨i + 1, out ++ [N], by first | rfl | (rw [HW1.out]; rfl), by have := HLT.out; omega, rfl, ⟨?_⟩, ⟨by have := HOL.out; simp; omega⟩, HO8, HG8, HB8⟩
      rw [HP.out, HPD.out, pth_ok _ _ _ HV.out.1.symm HV.out.2.symm, HNP.out]
  ·obtain rfl : i = n := by omega
   have hx : pth fs [] = (out, true) := by
    rw [HP.out, List.drop_eq_nil_of_le (by rw [← HNN.out]; exact Nat.le_refl _)]
    rfl
   have HX := aM hx
   clear hlt hi hk hx
   go_wp2
   go_ret2
   rw [HX.out]
   exact ⟨_, rfl, Kd.R_mono HOR.out (fun _ _ => trivial), HBR.out⟩

set_option maxHeartbeats 2000000 in
set_option maxRecDepth 100000 in
theorem long_calls (s : ByteArray) (hs : s.size > 60) (w : World) :
  Calls Tryd.prog 10 #[.string s] w fun e w' => e = .returned (.tuple #[.slice none 0 0, .bool false]) ∧ w = w' := by
 have hgt : decide ((60 : Int) < (s.size : Int)) = true := decide_eq_true (by omega)
 clear hs
 go_enter Tryd.func10, Tryd.ntmps10
 go_wp2
 go_ret2
 exact ⟨rfl, rfl⟩
set_option maxHeartbeats 2000000 in
set_option maxRecDepth 100000 in
theorem nil_calls (s : ByteArray) (hne : s.toList.isEmpty = true) (hs : s.size ≤ 60) (w : World) :
  Calls Tryd.prog 10 #[.string s] w fun e w' => e = .returned (.tuple #[.slice (some ⟨w.heap.size, 0, none⟩) 0 0, .bool true]) ∧ w.alloc (.cells #[] 9) = w' := by
 have hgt : decide ((60 : Int) < (s.size : Int)) = false := decide_eq_false (by omega)
 have hbs0 : ∀ W : World, (Instr.buildSlice 22 0 #[]).run Tryd.prog W = .ok (.slice (some ⟨W.heap.size, 0, none⟩) 0 0) (W.alloc (.cells #[] 9)) := fun _ => by kernel_rfl
 clear hs
 go_enter Tryd.func10, Tryd.ntmps10
 go_wp2
 go_ret2
 exact ⟨rfl, rfl⟩
set_option maxHeartbeats 2000000 in
set_option maxRecDepth 100000 in
theorem bad_calls (s : ByteArray) (f0 : List UInt8) (fs : List (List UInt8)) (hf : fld s.data.toList = f0 :: fs) (h0 : f0.isEmpty = false) (hne : s.toList.isEmpty = false) (hs : s.size ≤ 60) (w : World) :
  Calls Tryd.prog 10 #[.string s] w fun e w' => e = .returned (.tuple #[.slice none 0 0, .bool false]) ∧ Below w.heap.size w w' := by
 have hgt : decide ((60 : Int) < (s.size : Int)) = false := decide_eq_false (by omega)
 obtain ⟨n, hn⟩ : ∃ n, n = fs.length := ⟨_, rfl⟩
 have HSP : Aside0 (∀ W : World, Calls Tryd.prog 13 #[.string s, .string ⟨#[47]⟩] W fun e w' => ∃ g, e = .returned (.slice (some ⟨g, 0, none⟩) (n + 1) (n + 1)) ∧ w'.heap[g]? = some (.cells (row (f0 :: fs) (n + 1)) 9 (0, 0)) ∧ W.heap.size ≤ g ∧ Below W.heap.size W w') := ⟨fun W => by
  have h := split_calls s W (by omega)
  rw [hf, List.length_cons, ← hn] at h
  exact h⟩
 have p0 : (0 : Int) < (n : Int) + 1 := by omega
 obtain ⟨P, hP⟩ : ∃ P, P = mk f0 := ⟨_, rfl⟩
 have HP := aM hP
 have hpe : P.toList.isEmpty = false := by rw [hP, ByteArray.toList_eq]; exact h0
 have HRW : Aside0 ((row (f0 :: fs) (n + 1))[0]? = some (.string P)) := ⟨by
  rw [hP, hn]
  exact row_get (f0 :: fs) 0 (Nat.succ_pos _)⟩
 clear hf h0 hs hn hP
 go_enter Tryd.func10, Tryd.ntmps10
 go_wp2_with (go_at_call 13; go_loud ((with_reducible refine (HSP.out _).mono ?_); rintro e w2 ⟨g, rfl, h1, h2, h3⟩; have H3 := aM h3; have cg0 : w2.cell? ⟨g, 0, none⟩ = some (.string P) := (blk_cell h1 0).trans HRW.out; clear h1 h2 h3))
 go_ret2
 exact ⟨rfl, H3.out⟩
theorem path_calls (s : ByteArray) (w : World) (hs : s.size ≤ 1048576) :
  Calls Tryd.prog 10 #[.string s] w fun e w' => ∃ v0_ : Value, e = .returned (.tuple #[v0_, .bool (ansPath s).2]) ∧ Kd.R Kd.string 9 w' w.heap.size (fun _ => True) v0_ (ansPath s).1 ∧ Below w.heap.size w w' := by
 obtain ⟨l, rfl⟩ : ∃ l, s = mk l := ⟨s.data.toList, rfl⟩
 by_cases h60 : (mk l).size > 60
 ·have e : ansPath (mk l) = ([], false) := if_pos h60
  rw [e]
  refine (long_calls _ h60 w).mono ?_
  rintro e w' ⟨rfl, rfl⟩
  exact ⟨_, rfl, Kd.R_nil _ _ _ _ _, Below.refl _ _⟩
 ·have h6 : (mk l).size ≤ 60 := by omega
  match l, h6 with
  | [], h6 =>
   have e : ansPath (mk []) = ([], true) := if_neg (by rw [mk_size]; decide)
   rw [e]
   refine (nil_calls _ (str_nil _ rfl) h6 w).mono ?_
   rintro e w' ⟨rfl, rfl⟩
   exact ⟨_, rfl, R_hollow (blk_new w _) (Nat.le_refl _) trivial, below_alloc (Below.refl _ _) _⟩
  | c :: t, h6 =>
   have hne := (str_cons (mk (c :: t)) c t rfl).1
   have e : ansPath (mk (c :: t)) = if c = 47 then pth (fld t) [] else ([], false) := if_neg (by omega)
   rw [e]
   by_cases h47 : c = 47
   ·subst h47
    rw [if_pos rfl]
    exact parts_calls _ (fld t) (fld_sep t) (by rw [fld_len]; exact Nat.succ_pos _) hne h6 w
   ·rw [if_neg h47]
    obtain ⟨f, fs, g1, g2⟩ := fld_char c t h47
    refine (bad_calls _ (c :: f) fs g2 rfl hne h6 w).mono ?_
    rintro e w' ⟨rfl, hb⟩
    exact ⟨_, rfl, Kd.R_nil _ _ _ _ _, hb⟩
end Go.Proofs.YtdlkmnohmdnogaaDoor.Pof
end

section
namespace Go.Proofs.YtdlkmnohmdnogaaDoor.PQ
open Go.RowKit Go.Proofs.YtdlkmnohmdnogaaDoorW.PrintWords Go.Proofs.YtdlkmnohmdnogaaDoorW.PrintLast Go.Proofs.YtdlkmnohmdnogaaDoorW.PrintMore
attribute [local go_sem] max2_int min2_int max_two min_two max_three min_three max_four min_four
set_option linter.unusedVariables false
set_option linter.unusedSimpArgs false
def impl_pathOf.f (a0 : ByteArray) : Option (List ByteArray × Bool) := if a0.size ≤ 1048576 then some (Seg.ansPath a0) else none
theorem impl_pathOf.calls (a0 : ByteArray) (r1 : List ByteArray) (r2 : Bool) (w : World) (h : impl_pathOf.f a0 = some (r1, r2)) :
  Calls Tryd.prog 10 #[.string a0] w fun e w' => ∃ v0_ : Value, e = .returned (.tuple #[v0_, .bool r2]) ∧ Kd.R Kd.string 9 w' w.heap.size (fun _ => True) v0_ r1 ∧ Below w.heap.size w w' := by
 unfold impl_pathOf.f at h
 split at h
 ·rename_i hs
  have h1 := Option.some.inj h
  have := Pof.path_calls a0 w hs
  rw [h1] at this
  exact this
 ·cases h

def impl_PathOf.f (a0 : ByteArray) : Option (List ByteArray × Bool) := (impl_pathOf.f a0).bind fun bt115 => (some (bt115.1, bt115.2))
set_option maxHeartbeats 8000000 in
set_option maxRecDepth 100000 in
theorem impl_PathOf.calls (a0 : ByteArray) (r1 : List ByteArray) (r2 : Bool) (w : World) (h : impl_PathOf.f a0 = some (r1, r2)) :
  Calls Tryd.prog 5 #[.string a0] w fun e w' => ∃ v0_ : Value, e = .returned (.tuple #[v0_, .bool r2]) ∧ Kd.R Kd.string 9 w' w.heap.size (fun _ => True) v0_ r1 ∧ Below w.heap.size w w' := by
 have HB := aM (Below.refl w.heap.size w)
 have H : ((impl_pathOf.f a0).bind fun bt115 => (some (bt115.1, bt115.2))) = some (r1, r2) := h
 clear h
 replace H := Option.bind_eq_some_iff.mp H
 obtain ⟨⟨t115, t116⟩, A20, H⟩ := H
 replace H : (some (t115, t116)) = some (r1, r2) := H
 have A2 := aM A20
 clear A20
 simp only [Option.some.injEq, Prod.mk.injEq] at H
 obtain ⟨rfl, rfl⟩ := H
 go_enter Tryd.func5, Tryd.ntmps5
 go_wp2_with (first | ((with_reducible refine gate_callee (f := 10) rfl ?_); refine goesL_ (some 5) rfl rfl Tryd.func10 (by kernel_rfl) rfl #[.string a0] rfl (by (try simp only [List.map_toArray, List.map_cons, List.map_nil]); first | done | rfl | (simp only [List.length_drop, List.length_take]; rfl)) ?_; (with_reducible refine (impl_pathOf.calls a0 t115 t116 _ A2.out).mono ?_); rintro e w3 ⟨v117, rfl, ho0, hb⟩; refine ⟨_, rfl, ?_⟩; have n0_ := aM (Kd.R_lower ho0 (below_size (by repeat (first | (with_reducible first | exact HB.out | apply below_alloc | apply pw_below_drewN | apply below_drew1) | exact HB.out)))); have n1_ := aM (below_step (by repeat (first | (with_reducible first | exact HB.out | apply below_alloc | apply pw_below_drewN | apply below_drew1) | exact HB.out)) hb); clear HB; have HO118 := n0_; have HB := n1_; clear n0_ n1_; (try clear hb); (try clear hb2); (try clear hk); (try clear hi); (try clear ho0)))
 go_ret2
 exact ⟨_, eR, by (with_reducible repeat (first | apply Kd.R_alloc | apply Kd.R_drewN | apply Kd.R_drew)); exact HO118.out, by repeat (first | (with_reducible first | exact HB.out | apply below_alloc | apply pw_below_drewN | apply below_drew1) | exact HB.out)⟩

mutual
def laws_FnExactPathOf.j0 : Nat → ByteArray → List ByteArray → Bool → List ByteArray → Bool → Option (Bool)
 | 0, _, _, _, _, _ => none
 | k + 1, x0, x3, x4, x5, x32 => if x32 = true then (some false) else ((laws_markStringS.f k x5 1).bind fun bt137 => ((laws_heldStringS.f k bt137.2 1).bind fun t139 => (if t139 < 0 then (some false) else (if t139 = bt137.1 then ((impl_PathOf.f x0).bind fun bt140 => ((laws_eqStringS.f k bt140.1 x3).bind fun t144 => (if t144 = true then (laws_FnExactPathOf.j1 k bt137.2 bt137.1 (bt140.2 != x4)) else (laws_FnExactPathOf.j1 k bt137.2 bt137.1 true)))) else (some false)))))
def laws_FnExactPathOf.j1 : Nat → List ByteArray → Int → Bool → Option (Bool)
 | 0, _, _, _ => none
 | k + 1, x5, x7, x57 => if x57 = true then (some false) else ((laws_heldStringS.f k x5 1).bind fun t145 => (if t145 < 0 then (some false) else (if t145 = x7 then (some true) else (some false))))
end
def laws_FnExactPathOf.f (k : Nat) (a0 : ByteArray) : Option (Bool) := if (a0.size : Int) > 1048576 then (some true) else ((spec_PathOf.f k a0).bind fun bt128 => ((impl_PathOf.f a0).bind fun bt132 => ((laws_eqStringS.f k bt132.1 bt128.1).bind fun t136 => (if t136 = true then (laws_FnExactPathOf.j0 k a0 bt128.1 bt128.2 bt132.1 (bt132.2 != bt128.2)) else (laws_FnExactPathOf.j0 k a0 bt128.1 bt128.2 bt132.1 true)))))
set_option maxHeartbeats 8000000 in
set_option maxRecDepth 100000 in
theorem laws_FnExactPathOf.calls (k : Nat) (a0 : ByteArray) (r : Bool) (w : World) (h : laws_FnExactPathOf.f k a0 = some r) :
  Calls Tryd.prog 3 #[.string a0] w fun e w' => e = .returned (.bool r) ∧ Below w.heap.size w w' := by
 have HB := aM (Below.refl w.heap.size w)
 have H : (if (a0.size : Int) > 1048576 then (some true) else ((spec_PathOf.f k a0).bind fun bt128 => ((impl_PathOf.f a0).bind fun bt132 => ((laws_eqStringS.f k bt132.1 bt128.1).bind fun t136 => (if t136 = true then (laws_FnExactPathOf.j0 k a0 bt128.1 bt128.2 bt132.1 (bt132.2 != bt128.2)) else (laws_FnExactPathOf.j0 k a0 bt128.1 bt128.2 bt132.1 true)))))) = some r := h
 clear h
 by_cases c2 : (a0.size : Int) > 1048576
 ·rw [if_pos c2] at H
  have c2b0 : decide (1048576 < (a0.size : Int)) = true := decide_eq_true c2
  have c2b1 : decide (1048576 < a0.size) = true := decide_eq_true (by omega)
  clear c2
  obtain rfl := Option.some.inj H
  go_enter Tryd.func3, Tryd.ntmps3
  go_wp2
  go_ret
  exact ⟨eR, by repeat (first | (with_reducible first | exact HB.out | apply below_alloc | apply pw_below_drewN | apply below_drew1) | exact HB.out)⟩
 ·rw [if_neg c2] at H
  have c2b0 : decide (1048576 < (a0.size : Int)) = false := decide_eq_false c2
  have c2b1 : decide (1048576 < a0.size) = false := decide_eq_false (by omega)
  clear c2
  replace H := Option.bind_eq_some_iff.mp H
  obtain ⟨⟨t128, t129⟩, A30, H⟩ := H
  replace H : ((impl_PathOf.f a0).bind fun bt132 => ((laws_eqStringS.f k bt132.1 t128).bind fun t136 => (if t136 = true then (laws_FnExactPathOf.j0 k a0 t128 t129 bt132.1 (bt132.2 != t129)) else (laws_FnExactPathOf.j0 k a0 t128 t129 bt132.1 true)))) = some r := H
  have A3 := aM A30
  clear A30
  replace H := Option.bind_eq_some_iff.mp H
  obtain ⟨⟨t132, t133⟩, A40, H⟩ := H
  replace H : ((laws_eqStringS.f k t132 t128).bind fun t136 => (if t136 = true then (laws_FnExactPathOf.j0 k a0 t128 t129 t132 (t133 != t129)) else (laws_FnExactPathOf.j0 k a0 t128 t129 t132 true))) = some r := H
  have A4 := aM A40
  clear A40
  have HC5 := aM H
  clear H
  go_enter Tryd.func3, Tryd.ntmps3
  go_upto_region 5 with (first | ((with_reducible refine gate_callee (f := 4) rfl ?_); refine goesL_ (some 16) rfl rfl Tryd.func4 (by kernel_rfl) rfl #[.string a0] rfl (by (try simp only [List.map_toArray, List.map_cons, List.map_nil]); first | done | rfl | (simp only [List.length_drop, List.length_take]; rfl)) ?_; (with_reducible refine (spec_PathOf.calls k a0 t128 t129 _ A3.out).mono ?_); rintro e w6 ⟨v130, rfl, ho0, hb⟩; refine ⟨_, rfl, ?_⟩; have n0_ := aM (Kd.R_lower ho0 (below_size (by repeat (first | (with_reducible first | exact HB.out | apply below_alloc | apply pw_below_drewN | apply below_drew1) | exact HB.out)))); have n1_ := aM (below_step (by repeat (first | (with_reducible first | exact HB.out | apply below_alloc | apply pw_below_drewN | apply below_drew1) | exact HB.out)) hb); clear HB; have HO131 := n0_; have HB := n1_; clear n0_ n1_; (try clear hb); (try clear hb2); (try clear hk); (try clear hi); (try clear ho0)) | ((with_reducible refine gate_callee (f := 5) rfl ?_); refine goesL_ (some 21) rfl rfl Tryd.func5 (by kernel_rfl) rfl #[.string a0] rfl (by (try simp only [List.map_toArray, List.map_cons, List.map_nil]); first | done | rfl | (simp only [List.length_drop, List.length_take]; rfl)) ?_; (with_reducible refine (impl_PathOf.calls a0 t132 t133 _ A4.out).mono ?_); rintro e w7 ⟨v134, rfl, ho0, hb⟩; refine ⟨_, rfl, ?_⟩; have n0_ := aM (Kd.R_elder' (by (with_reducible repeat (first | apply Kd.R_alloc | apply Kd.R_drewN | apply Kd.R_drew)); exact HO131.out) (Kd.R_base ho0) hb); have n1_ := aM (Kd.R_lower (Kd.R_new' ho0 (Kd.R_lt (by (with_reducible repeat (first | apply Kd.R_alloc | apply Kd.R_drewN | apply Kd.R_drew)); exact HO131.out))) (below_size (by repeat (first | (with_reducible first | exact HB.out | apply below_alloc | apply pw_below_drewN | apply below_drew1) | exact HB.out)))); have n2_ := aM (below_step (by repeat (first | (with_reducible first | exact HB.out | apply below_alloc | apply pw_below_drewN | apply below_drew1) | exact HB.out)) hb); clear HO131; clear HB; have HO131 := n0_; have HO135 := n1_; have HB := n2_; clear n0_ n1_ n2_; (try clear hb); (try clear hb2); (try clear hk); (try clear hi); (try clear ho0)))
  (try simp only [Act.put, zSA, zSB, zSC])
  go_cut [32] (fun v32 wc => ∃ (kq : Nat) (x32_4 : Bool), v32 = .bool x32_4 ∧ Aside0 (laws_FnExactPathOf.j0 kq a0 t128 t129 t132 x32_4 = some r) ∧ Aside0 (kq ≤ k) ∧ Aside0 (Kd.R Kd.string 9 wc w.heap.size (fun k_ => some k_ ≠ (v134 : Value).ownBlock) v130 t128) ∧ Aside0 (Kd.R Kd.string 9 wc w.heap.size (fun k_ => some k_ ≠ (v130 : Value).ownBlock) v134 t132) ∧ Aside0 (Below w.heap.size w wc))
  case first =>
   have H := HC5.out
   clear HC5
   replace H := Option.bind_eq_some_iff.mp H
   obtain ⟨t136, A80, H⟩ := H
   replace H : (if t136 = true then (laws_FnExactPathOf.j0 k a0 t128 t129 t132 (t133 != t129)) else (laws_FnExactPathOf.j0 k a0 t128 t129 t132 true)) = some r := H
   have A8 := aM A80
   clear A80
   by_cases c9 : t136 = true
   ·subst c9
    have H1 : (laws_FnExactPathOf.j0 k a0 t128 t129 t132 (t133 != t129)) = some r := by rw [if_pos rfl] at H; exact H
    clear H
    have H := H1
    clear H1
    have H' := aM H
    clear H
    obtain ⟨Ao10, co10, eo10⟩ := Kd.R_slice HO135.out
    subst eo10
    obtain ⟨Ao11, co11, eo11⟩ := Kd.R_slice HO131.out
    subst eo11
    go_wp2_with (first | ((with_reducible refine gate_callee (f := 6) rfl ?_); refine goesL_ (some 26) rfl rfl Tryd.func6 (by kernel_rfl) rfl #[.slice Ao10 t132.length co10, .slice Ao11 t128.length co11] rfl (by (try simp only [List.map_toArray, List.map_cons, List.map_nil]); first | done | rfl | (simp only [List.length_drop, List.length_take]; rfl)) ?_; (with_reducible refine (laws_eqStringS.calls k _ _ t132 _ _ t128 true _ ?side1 ?side2 ?side3 ?side4 A8.out).mono ?_); (case side1 => repeat (first | exact (Kd.R_reads' HO135.out).2.2 | (with_reducible refine Kd.C_alloc ?_ _) | (with_reducible refine Kd.C_drewN ?_ _) | (with_reducible refine Kd.C_drew ?_))); (case side2 => exact (Kd.R_reads' HO135.out).2.1); (case side3 => repeat (first | exact (Kd.R_reads' HO131.out).2.2 | (with_reducible refine Kd.C_alloc ?_ _) | (with_reducible refine Kd.C_drewN ?_ _) | (with_reducible refine Kd.C_drew ?_))); (case side4 => exact (Kd.R_reads' HO131.out).2.1); rintro e w' ⟨rfl, ⟨nd, rfl⟩⟩; refine ⟨_, rfl, ?_⟩))
    go_meet
    case rel => exact ⟨_, ((t133 != t129)), (by first | rfl | (simp; done) | (simp [*]; done)), H', ⟨by first | omega | exact Nat.le_refl _⟩, ⟨by (with_reducible repeat (first | apply Kd.R_alloc | apply Kd.R_drewN | apply Kd.R_drew)); exact Kd.R_mono HO131.out (fun _ hk => hk.2)⟩, ⟨by (with_reducible repeat (first | apply Kd.R_alloc | apply Kd.R_drewN | apply Kd.R_drew)); exact Kd.R_mono HO135.out (fun _ hk => hk.2)⟩, ⟨by repeat (first | (with_reducible first | exact HB.out | apply below_alloc | apply pw_below_drewN | apply below_drew1) | exact HB.out)⟩⟩
   ·replace c9 := Bool.eq_false_iff.mpr c9
    subst c9
    have H1 : (laws_FnExactPathOf.j0 k a0 t128 t129 t132 true) = some r := by rw [if_neg (show ¬ (false = true) by decide)] at H; exact H
    clear H
    have H := H1
    clear H1
    have H' := aM H
    clear H
    obtain ⟨Ao12, co12, eo12⟩ := Kd.R_slice HO135.out
    subst eo12
    obtain ⟨Ao13, co13, eo13⟩ := Kd.R_slice HO131.out
    subst eo13
    go_wp2_with (first | ((with_reducible refine gate_callee (f := 6) rfl ?_); refine goesL_ (some 26) rfl rfl Tryd.func6 (by kernel_rfl) rfl #[.slice Ao12 t132.length co12, .slice Ao13 t128.length co13] rfl (by (try simp only [List.map_toArray, List.map_cons, List.map_nil]); first | done | rfl | (simp only [List.length_drop, List.length_take]; rfl)) ?_; (with_reducible refine (laws_eqStringS.calls k _ _ t132 _ _ t128 false _ ?side1 ?side2 ?side3 ?side4 A8.out).mono ?_); (case side1 => repeat (first | exact (Kd.R_reads' HO135.out).2.2 | (with_reducible refine Kd.C_alloc ?_ _) | (with_reducible refine Kd.C_drewN ?_ _) | (with_reducible refine Kd.C_drew ?_))); (case side2 => exact (Kd.R_reads' HO135.out).2.1); (case side3 => repeat (first | exact (Kd.R_reads' HO131.out).2.2 | (with_reducible refine Kd.C_alloc ?_ _) | (with_reducible refine Kd.C_drewN ?_ _) | (with_reducible refine Kd.C_drew ?_))); (case side4 => exact (Kd.R_reads' HO131.out).2.1); rintro e w' ⟨rfl, ⟨nd, rfl⟩⟩; refine ⟨_, rfl, ?_⟩))
    go_meet
    case rel => exact ⟨_, (true), (by first | rfl | (simp; done) | (simp [*]; done)), H', ⟨by first | omega | exact Nat.le_refl _⟩, ⟨by (with_reducible repeat (first | apply Kd.R_alloc | apply Kd.R_drewN | apply Kd.R_drew)); exact Kd.R_mono HO131.out (fun _ hk => hk.2)⟩, ⟨by (with_reducible repeat (first | apply Kd.R_alloc | apply Kd.R_drewN | apply Kd.R_drew)); exact Kd.R_mono HO135.out (fun _ hk => hk.2)⟩, ⟨by repeat (first | (with_reducible first | exact HB.out | apply below_alloc | apply pw_below_drewN | apply below_drew1) | exact HB.out)⟩⟩
  case rest =>
   clear HC5
   try clear c2
   try clear c2b0
   try clear c2b1
   try clear p2
   try clear c3
   try clear c4
   try clear c5
   try clear c6
   try clear c9
   obtain ⟨kq, x32_4, rfl, HA, HJ4, HO_3, HO_5, HB⟩ := hcut
   cases kq with
   | zero => exact absurd HA.out (by simp [laws_FnExactPathOf.j0])
   | succ kj4 =>
    have H := HA.out
    clear HA
    simp only [laws_FnExactPathOf.j0] at H
    by_cases c14 : x32_4 = true
    ·subst c14
     have H1 : (some false) = some r := by rw [if_pos rfl] at H; exact H
     clear H
     have H := H1
     clear H1
     obtain rfl := Option.some.inj H
     go_wp2
     go_ret
     exact ⟨eR, by repeat (first | (with_reducible first | exact HB.out | apply below_alloc | apply pw_below_drewN | apply below_drew1) | exact HB.out)⟩
    ·replace c14 := Bool.eq_false_iff.mpr c14
     subst c14
     have H1 : ((laws_markStringS.f kj4 t132 1).bind fun bt137 => ((laws_heldStringS.f kj4 bt137.2 1).bind fun t139 => (if t139 < 0 then (some false) else (if t139 = bt137.1 then ((impl_PathOf.f a0).bind fun bt140 => ((laws_eqStringS.f kj4 bt140.1 t128).bind fun t144 => (if t144 = true then (laws_FnExactPathOf.j1 kj4 bt137.2 bt137.1 (bt140.2 != t129)) else (laws_FnExactPathOf.j1 kj4 bt137.2 bt137.1 true)))) else (some false))))) = some r := by rw [if_neg (show ¬ (false = true) by decide)] at H; exact H
     clear H
     have H := H1
     clear H1
     replace H := Option.bind_eq_some_iff.mp H
     obtain ⟨⟨t137, t138⟩, A150, H⟩ := H
     replace H : ((laws_heldStringS.f kj4 t138 1).bind fun t139 => (if t139 < 0 then (some false) else (if t139 = t137 then ((impl_PathOf.f a0).bind fun bt140 => ((laws_eqStringS.f kj4 bt140.1 t128).bind fun t144 => (if t144 = true then (laws_FnExactPathOf.j1 kj4 t138 t137 (bt140.2 != t129)) else (laws_FnExactPathOf.j1 kj4 t138 t137 true)))) else (some false)))) = some r := H
     have A15 := aM A150
     clear A150
     replace H := Option.bind_eq_some_iff.mp H
     obtain ⟨t139, A160, H⟩ := H
     replace H : (if t139 < 0 then (some false) else (if t139 = t137 then ((impl_PathOf.f a0).bind fun bt140 => ((laws_eqStringS.f kj4 bt140.1 t128).bind fun t144 => (if t144 = true then (laws_FnExactPathOf.j1 kj4 t138 t137 (bt140.2 != t129)) else (laws_FnExactPathOf.j1 kj4 t138 t137 true)))) else (some false))) = some r := H
     have A16 := aM A160
     clear A160
     by_cases c17 : t139 < 0
     ·rw [if_pos c17] at H
      have c17b0 : decide (t139 < 0) = true := decide_eq_true c17
      clear c17
      obtain rfl := Option.some.inj H
      obtain ⟨Ao18, co18, eo18⟩ := Kd.R_slice HO_5.out
      subst eo18
      go_wp2_with (first | ((with_reducible refine gate_callee (f := 7) rfl ?_); refine goesL_ (some 35) rfl rfl Tryd.func7 (by kernel_rfl) rfl #[.slice Ao18 t132.length co18, .int .i64 1] rfl (by (try simp only [List.map_toArray, List.map_cons, List.map_nil]); first | done | rfl | (simp only [List.length_drop, List.length_take]; rfl)) ?_; (with_reducible refine (laws_markStringS.calls kj4 (fun k_ => some k_ = (.slice Ao18 t132.length co18 : Value).ownBlock) (.slice Ao18 t132.length co18) t132 1 t137 t138 w _ ?side1 ?side2 A15.out).mono ?_); (case side1 => repeat (first | (with_reducible first | exact HB.out | apply below_alloc | apply pw_below_drewN | apply below_drew1) | exact HB.out)); (case side2 => exact Kd.R_tight rfl HO_5.out); rintro e w19 ⟨rfl, hy0, hb, hkp⟩; refine ⟨_, rfl, ?_⟩; have n0_ := aM (Kd.R_mono (ok' := fun k_ => some k_ ≠ (.slice Ao18 t132.length co18 : Value).ownBlock) (Kd.R_keptB (HO_3.out) hkp (fun k_ hk_ hs_ => (hk_) hs_)) (fun k_ hk_ => hk_.1)); have n1_ := aM (Kd.R_reok rfl hy0 (fun k_ e_ => HO_5.out.1 k_ e_)); have n2_ := aM (hb); clear HO_3; clear HO_5; clear HB; have HO_3 := n0_; have HO_5 := n1_; have HB := n2_; clear n0_ n1_ n2_; (try clear hb); (try clear hkp); (try clear hy0)) | ((with_reducible refine gate_callee (f := 8) rfl ?_); refine goesL_ (some 38) rfl rfl Tryd.func8 (by kernel_rfl) rfl #[.slice Ao18 t138.length co18, .int .i64 1] rfl (by (try simp only [List.map_toArray, List.map_cons, List.map_nil]); first | done | (rw [show t138.length = t132.length from (Kd.R_reads' HO_5.out).1.symm] <;> rfl) | rfl | (simp only [List.length_drop, List.length_take]; rfl)) ?_; (with_reducible refine (laws_heldStringS.calls kj4 _ _ t138 1 t139 _ ?side1 ?side2 A16.out).mono ?_); (case side1 => repeat (first | exact (Kd.R_reads' HO_5.out).2.2 | (with_reducible refine Kd.C_alloc ?_ _) | (with_reducible refine Kd.C_drewN ?_ _) | (with_reducible refine Kd.C_drew ?_))); (case side2 => rw [show t138.length = t132.length from (Kd.R_reads' HO_5.out).1.symm]; exact (Kd.R_reads' HO_5.out).2.1); rintro e w20 ⟨rfl, hb⟩; refine ⟨_, rfl, ?_⟩; have n0_ := aM (Kd.R_below (by (with_reducible repeat (first | apply Kd.R_alloc | apply Kd.R_drewN | apply Kd.R_drew)); exact HO_3.out) hb); have n1_ := aM (Kd.R_below (by (with_reducible repeat (first | apply Kd.R_alloc | apply Kd.R_drewN | apply Kd.R_drew)); exact HO_5.out) hb); have n2_ := aM (below_step (by repeat (first | (with_reducible first | exact HB.out | apply below_alloc | apply pw_below_drewN | apply below_drew1) | exact HB.out)) hb); clear HO_3; clear HO_5; clear HB; have HO_3 := n0_; have HO_5 := n1_; have HB := n2_; clear n0_ n1_ n2_; (try clear hb); (try clear hb2); (try clear hk); (try clear hi)))
      go_ret
      exact ⟨eR, by repeat (first | (with_reducible first | exact HB.out | apply below_alloc | apply pw_below_drewN | apply below_drew1) | exact HB.out)⟩
     ·rw [if_neg c17] at H
      have c17b0 : decide (t139 < 0) = false := decide_eq_false c17
      clear c17
      by_cases c21 : t139 = t137
      ·rw [if_pos c21] at H
       have c21b0 : (t139 == t137) = true := beq_iff_eq.mpr c21
       have c21b1 : (t139 != t137) = false := bne_eq_false_iff_eq.mpr c21
       clear c21
       replace H := Option.bind_eq_some_iff.mp H
       obtain ⟨⟨t140, t141⟩, A220, H⟩ := H
       replace H : ((laws_eqStringS.f kj4 t140 t128).bind fun t144 => (if t144 = true then (laws_FnExactPathOf.j1 kj4 t138 t137 (t141 != t129)) else (laws_FnExactPathOf.j1 kj4 t138 t137 true))) = some r := H
       have A22 := aM A220
       clear A220
       have HC23 := aM H
       clear H
       obtain ⟨Ao24, co24, eo24⟩ := Kd.R_slice HO_5.out
       subst eo24
       go_upto_region 16 with (first | ((with_reducible refine gate_callee (f := 7) rfl ?_); refine goesL_ (some 35) rfl rfl Tryd.func7 (by kernel_rfl) rfl #[.slice Ao24 t132.length co24, .int .i64 1] rfl (by (try simp only [List.map_toArray, List.map_cons, List.map_nil]); first | done | rfl | (simp only [List.length_drop, List.length_take]; rfl)) ?_; (with_reducible refine (laws_markStringS.calls kj4 (fun k_ => some k_ = (.slice Ao24 t132.length co24 : Value).ownBlock) (.slice Ao24 t132.length co24) t132 1 t137 t138 w _ ?side1 ?side2 A15.out).mono ?_); (case side1 => repeat (first | (with_reducible first | exact HB.out | apply below_alloc | apply pw_below_drewN | apply below_drew1) | exact HB.out)); (case side2 => exact Kd.R_tight rfl HO_5.out); rintro e w25 ⟨rfl, hy0, hb, hkp⟩; refine ⟨_, rfl, ?_⟩; have n0_ := aM (Kd.R_mono (ok' := fun k_ => some k_ ≠ (.slice Ao24 t132.length co24 : Value).ownBlock) (Kd.R_keptB (HO_3.out) hkp (fun k_ hk_ hs_ => (hk_) hs_)) (fun k_ hk_ => hk_.1)); have n1_ := aM (Kd.R_reok rfl hy0 (fun k_ e_ => HO_5.out.1 k_ e_)); have n2_ := aM (hb); clear HO_3; clear HO_5; clear HB; have HO_3 := n0_; have HO_5 := n1_; have HB := n2_; clear n0_ n1_ n2_; (try clear hb); (try clear hkp); (try clear hy0)) | ((with_reducible refine gate_callee (f := 8) rfl ?_); refine goesL_ (some 38) rfl rfl Tryd.func8 (by kernel_rfl) rfl #[.slice Ao24 t138.length co24, .int .i64 1] rfl (by (try simp only [List.map_toArray, List.map_cons, List.map_nil]); first | done | (rw [show t138.length = t132.length from (Kd.R_reads' HO_5.out).1.symm] <;> rfl) | rfl | (simp only [List.length_drop, List.length_take]; rfl)) ?_; (with_reducible refine (laws_heldStringS.calls kj4 _ _ t138 1 t139 _ ?side1 ?side2 A16.out).mono ?_); (case side1 => repeat (first | exact (Kd.R_reads' HO_5.out).2.2 | (with_reducible refine Kd.C_alloc ?_ _) | (with_reducible refine Kd.C_drewN ?_ _) | (with_reducible refine Kd.C_drew ?_))); (case side2 => rw [show t138.length = t132.length from (Kd.R_reads' HO_5.out).1.symm]; exact (Kd.R_reads' HO_5.out).2.1); rintro e w26 ⟨rfl, hb⟩; refine ⟨_, rfl, ?_⟩; have n0_ := aM (Kd.R_below (by (with_reducible repeat (first | apply Kd.R_alloc | apply Kd.R_drewN | apply Kd.R_drew)); exact HO_3.out) hb); have n1_ := aM (Kd.R_below (by (with_reducible repeat (first | apply Kd.R_alloc | apply Kd.R_drewN | apply Kd.R_drew)); exact HO_5.out) hb); have n2_ := aM (below_step (by repeat (first | (with_reducible first | exact HB.out | apply below_alloc | apply pw_below_drewN | apply below_drew1) | exact HB.out)) hb); clear HO_3; clear HO_5; clear HB; have HO_3 := n0_; have HO_5 := n1_; have HB := n2_; clear n0_ n1_ n2_; (try clear hb); (try clear hb2); (try clear hk); (try clear hi)) | ((with_reducible refine gate_callee (f := 5) rfl ?_); refine goesL_ (some 46) rfl rfl Tryd.func5 (by kernel_rfl) rfl #[.string a0] rfl (by (try simp only [List.map_toArray, List.map_cons, List.map_nil]); first | done | rfl | (simp only [List.length_drop, List.length_take]; rfl)) ?_; (with_reducible refine (impl_PathOf.calls a0 t140 t141 _ A22.out).mono ?_); rintro e w27 ⟨v142, rfl, ho0, hb⟩; refine ⟨_, rfl, ?_⟩; have n0_ := aM (Kd.R_elder' (by (with_reducible repeat (first | apply Kd.R_alloc | apply Kd.R_drewN | apply Kd.R_drew)); exact HO_3.out) (Kd.R_base ho0) hb); have n1_ := aM (Kd.R_elder' (by (with_reducible repeat (first | apply Kd.R_alloc | apply Kd.R_drewN | apply Kd.R_drew)); exact HO_5.out) (Kd.R_base ho0) hb); have n2_ := aM (Kd.R_lower (Kd.R_new' (Kd.R_new' ho0 (Kd.R_lt (by (with_reducible repeat (first | apply Kd.R_alloc | apply Kd.R_drewN | apply Kd.R_drew)); exact HO_3.out))) (Kd.R_lt (by (with_reducible repeat (first | apply Kd.R_alloc | apply Kd.R_drewN | apply Kd.R_drew)); exact HO_5.out))) (below_size (by repeat (first | (with_reducible first | exact HB.out | apply below_alloc | apply pw_below_drewN | apply below_drew1) | exact HB.out)))); have n3_ := aM (below_step (by repeat (first | (with_reducible first | exact HB.out | apply below_alloc | apply pw_below_drewN | apply below_drew1) | exact HB.out)) hb); clear HO_3; clear HO_5; clear HB; have HO_3 := n0_; have HO_5 := n1_; have HO143 := n2_; have HB := n3_; clear n0_ n1_ n2_ n3_; (try clear hb); (try clear hb2); (try clear hk); (try clear hi); (try clear ho0)))
       (try simp only [Act.put, zSA, zSB, zSC])
       go_cut [57] (fun v57 wc => ∃ (kq : Nat) (x57_22 : Bool), v57 = .bool x57_22 ∧ Aside0 (laws_FnExactPathOf.j1 kq t138 t137 x57_22 = some r) ∧ Aside0 (kq ≤ kj4) ∧ Aside0 (Kd.R Kd.string 9 wc w.heap.size (fun _ => True) (.slice Ao24 t132.length co24) t138) ∧ Aside0 (Below w.heap.size w wc))
       case first =>
        have H := HC23.out
        clear HC23
        replace H := Option.bind_eq_some_iff.mp H
        obtain ⟨t144, A280, H⟩ := H
        replace H : (if t144 = true then (laws_FnExactPathOf.j1 kj4 t138 t137 (t141 != t129)) else (laws_FnExactPathOf.j1 kj4 t138 t137 true)) = some r := H
        have A28 := aM A280
        clear A280
        by_cases c29 : t144 = true
        ·subst c29
         have H1 : (laws_FnExactPathOf.j1 kj4 t138 t137 (t141 != t129)) = some r := by rw [if_pos rfl] at H; exact H
         clear H
         have H := H1
         clear H1
         have H' := aM H
         clear H
         obtain ⟨Ao30, co30, eo30⟩ := Kd.R_slice HO143.out
         subst eo30
         obtain ⟨Ao31, co31, eo31⟩ := Kd.R_slice HO_3.out
         subst eo31
         go_wp2_with (first | ((with_reducible refine gate_callee (f := 6) rfl ?_); refine goesL_ (some 51) rfl rfl Tryd.func6 (by kernel_rfl) rfl #[.slice Ao30 t140.length co30, .slice Ao31 t128.length co31] rfl (by (try simp only [List.map_toArray, List.map_cons, List.map_nil]); first | done | rfl | (simp only [List.length_drop, List.length_take]; rfl)) ?_; (with_reducible refine (laws_eqStringS.calls kj4 _ _ t140 _ _ t128 true _ ?side1 ?side2 ?side3 ?side4 A28.out).mono ?_); (case side1 => repeat (first | exact (Kd.R_reads' HO143.out).2.2 | (with_reducible refine Kd.C_alloc ?_ _) | (with_reducible refine Kd.C_drewN ?_ _) | (with_reducible refine Kd.C_drew ?_))); (case side2 => exact (Kd.R_reads' HO143.out).2.1); (case side3 => repeat (first | exact (Kd.R_reads' HO_3.out).2.2 | (with_reducible refine Kd.C_alloc ?_ _) | (with_reducible refine Kd.C_drewN ?_ _) | (with_reducible refine Kd.C_drew ?_))); (case side4 => exact (Kd.R_reads' HO_3.out).2.1); rintro e w' ⟨rfl, ⟨nd, rfl⟩⟩; refine ⟨_, rfl, ?_⟩))
         go_meet
         case rel => exact ⟨_, ((t141 != t129)), (by first | rfl | (simp; done) | (simp [*]; done)), H', ⟨by have := HJ4.out; first | omega | exact Nat.le_refl _⟩, ⟨by (with_reducible repeat (first | apply Kd.R_alloc | apply Kd.R_drewN | apply Kd.R_drew)); exact Kd.R_mono HO_5.out (fun _ hk => trivial)⟩, ⟨by repeat (first | (with_reducible first | exact HB.out | apply below_alloc | apply pw_below_drewN | apply below_drew1) | exact HB.out)⟩⟩
        ·replace c29 := Bool.eq_false_iff.mpr c29
         subst c29
         have H1 : (laws_FnExactPathOf.j1 kj4 t138 t137 true) = some r := by rw [if_neg (show ¬ (false = true) by decide)] at H; exact H
         clear H
         have H := H1
         clear H1
         have H' := aM H
         clear H
         obtain ⟨Ao32, co32, eo32⟩ := Kd.R_slice HO143.out
         subst eo32
         obtain ⟨Ao33, co33, eo33⟩ := Kd.R_slice HO_3.out
         subst eo33
         go_wp2_with (first | ((with_reducible refine gate_callee (f := 6) rfl ?_); refine goesL_ (some 51) rfl rfl Tryd.func6 (by kernel_rfl) rfl #[.slice Ao32 t140.length co32, .slice Ao33 t128.length co33] rfl (by (try simp only [List.map_toArray, List.map_cons, List.map_nil]); first | done | rfl | (simp only [List.length_drop, List.length_take]; rfl)) ?_; (with_reducible refine (laws_eqStringS.calls kj4 _ _ t140 _ _ t128 false _ ?side1 ?side2 ?side3 ?side4 A28.out).mono ?_); (case side1 => repeat (first | exact (Kd.R_reads' HO143.out).2.2 | (with_reducible refine Kd.C_alloc ?_ _) | (with_reducible refine Kd.C_drewN ?_ _) | (with_reducible refine Kd.C_drew ?_))); (case side2 => exact (Kd.R_reads' HO143.out).2.1); (case side3 => repeat (first | exact (Kd.R_reads' HO_3.out).2.2 | (with_reducible refine Kd.C_alloc ?_ _) | (with_reducible refine Kd.C_drewN ?_ _) | (with_reducible refine Kd.C_drew ?_))); (case side4 => exact (Kd.R_reads' HO_3.out).2.1); rintro e w' ⟨rfl, ⟨nd, rfl⟩⟩; refine ⟨_, rfl, ?_⟩))
         go_meet
         case rel => exact ⟨_, (true), (by first | rfl | (simp; done) | (simp [*]; done)), H', ⟨by have := HJ4.out; first | omega | exact Nat.le_refl _⟩, ⟨by (with_reducible repeat (first | apply Kd.R_alloc | apply Kd.R_drewN | apply Kd.R_drew)); exact Kd.R_mono HO_5.out (fun _ hk => trivial)⟩, ⟨by repeat (first | (with_reducible first | exact HB.out | apply below_alloc | apply pw_below_drewN | apply below_drew1) | exact HB.out)⟩⟩
       case rest =>
        clear HC23
        try clear c1
        try clear c2
        try clear c2b0
        try clear c2b1
        try clear p2
        try clear c3
        try clear c4
        try clear c5
        try clear c6
        try clear c7
        try clear c8
        try clear c9
        try clear c14
        try clear c17
        try clear c17b0
        try clear c21
        try clear c21b0
        try clear c21b1
        try clear c29
        try clear p2
        obtain ⟨kq, x57_22, rfl, HA, HJ22, HO_5, HB⟩ := hcut
        have hl5_22 := (Kd.R_reads' HO_5.out).1
        rw [hl5_22] at HO_5
        (try simp only [hl5_22])
        cases kq with
        | zero => exact absurd HA.out (by simp [laws_FnExactPathOf.j1])
        | succ kj22 =>
         have H := HA.out
         clear HA
         simp only [laws_FnExactPathOf.j1] at H
         by_cases c34 : x57_22 = true
         ·subst c34
          have H1 : (some false) = some r := by rw [if_pos rfl] at H; exact H
          clear H
          have H := H1
          clear H1
          obtain rfl := Option.some.inj H
          go_wp2
          go_ret
          exact ⟨eR, by repeat (first | (with_reducible first | exact HB.out | apply below_alloc | apply pw_below_drewN | apply below_drew1) | exact HB.out)⟩
         ·replace c34 := Bool.eq_false_iff.mpr c34
          subst c34
          have H1 : ((laws_heldStringS.f kj22 t138 1).bind fun t145 => (if t145 < 0 then (some false) else (if t145 = t137 then (some true) else (some false)))) = some r := by rw [if_neg (show ¬ (false = true) by decide)] at H; exact H
          clear H
          have H := H1
          clear H1
          replace H := Option.bind_eq_some_iff.mp H
          obtain ⟨t145, A350, H⟩ := H
          replace H : (if t145 < 0 then (some false) else (if t145 = t137 then (some true) else (some false))) = some r := H
          have A35 := aM A350
          clear A350
          by_cases c36 : t145 < 0
          ·rw [if_pos c36] at H
           have c36b0 : decide (t145 < 0) = true := decide_eq_true c36
           clear c36
           obtain rfl := Option.some.inj H
           go_wp2_with (first | ((with_reducible refine gate_callee (f := 8) rfl ?_); refine goesL_ (some 60) rfl rfl Tryd.func8 (by kernel_rfl) rfl #[.slice Ao24 t138.length co24, .int .i64 1] rfl (by (try simp only [List.map_toArray, List.map_cons, List.map_nil]); first | done | rfl | (simp only [List.length_drop, List.length_take]; rfl)) ?_; (with_reducible refine (laws_heldStringS.calls kj22 _ _ t138 1 t145 _ ?side1 ?side2 A35.out).mono ?_); (case side1 => repeat (first | exact (Kd.R_reads' HO_5.out).2.2 | (with_reducible refine Kd.C_alloc ?_ _) | (with_reducible refine Kd.C_drewN ?_ _) | (with_reducible refine Kd.C_drew ?_))); (case side2 => exact (Kd.R_reads' HO_5.out).2.1); rintro e w37 ⟨rfl, hb⟩; refine ⟨_, rfl, ?_⟩; have n0_ := aM (Kd.R_below (by (with_reducible repeat (first | apply Kd.R_alloc | apply Kd.R_drewN | apply Kd.R_drew)); exact HO_5.out) hb); have n1_ := aM (below_step (by repeat (first | (with_reducible first | exact HB.out | apply below_alloc | apply pw_below_drewN | apply below_drew1) | exact HB.out)) hb); clear HO_5; clear HB; have HO_5 := n0_; have HB := n1_; clear n0_ n1_; (try clear hb); (try clear hb2); (try clear hk); (try clear hi)))
           go_ret
           exact ⟨eR, by repeat (first | (with_reducible first | exact HB.out | apply below_alloc | apply pw_below_drewN | apply below_drew1) | exact HB.out)⟩
          ·rw [if_neg c36] at H
           have c36b0 : decide (t145 < 0) = false := decide_eq_false c36
           clear c36
           by_cases c38 : t145 = t137
           ·rw [if_pos c38] at H
            have c38b0 : (t145 == t137) = true := beq_iff_eq.mpr c38
            have c38b1 : (t145 != t137) = false := bne_eq_false_iff_eq.mpr c38
            clear c38
            obtain rfl := Option.some.inj H
            go_wp2_with (first | ((with_reducible refine gate_callee (f := 8) rfl ?_); refine goesL_ (some 60) rfl rfl Tryd.func8 (by kernel_rfl) rfl #[.slice Ao24 t138.length co24, .int .i64 1] rfl (by (try simp only [List.map_toArray, List.map_cons, List.map_nil]); first | done | rfl | (simp only [List.length_drop, List.length_take]; rfl)) ?_; (with_reducible refine (laws_heldStringS.calls kj22 _ _ t138 1 t145 _ ?side1 ?side2 A35.out).mono ?_); (case side1 => repeat (first | exact (Kd.R_reads' HO_5.out).2.2 | (with_reducible refine Kd.C_alloc ?_ _) | (with_reducible refine Kd.C_drewN ?_ _) | (with_reducible refine Kd.C_drew ?_))); (case side2 => exact (Kd.R_reads' HO_5.out).2.1); rintro e w39 ⟨rfl, hb⟩; refine ⟨_, rfl, ?_⟩; have n0_ := aM (Kd.R_below (by (with_reducible repeat (first | apply Kd.R_alloc | apply Kd.R_drewN | apply Kd.R_drew)); exact HO_5.out) hb); have n1_ := aM (below_step (by repeat (first | (with_reducible first | exact HB.out | apply below_alloc | apply pw_below_drewN | apply below_drew1) | exact HB.out)) hb); clear HO_5; clear HB; have HO_5 := n0_; have HB := n1_; clear n0_ n1_; (try clear hb); (try clear hb2); (try clear hk); (try clear hi)))
            go_ret
            exact ⟨eR, by repeat (first | (with_reducible first | exact HB.out | apply below_alloc | apply pw_below_drewN | apply below_drew1) | exact HB.out)⟩
           ·rw [if_neg c38] at H
            have c38b0 : (t145 == t137) = false := beq_eq_false_iff_ne.mpr c38
            have c38b1 : (t145 != t137) = true := bne_iff_ne.mpr c38
            obtain rfl := Option.some.inj H
            go_wp2_with (first | ((with_reducible refine gate_callee (f := 8) rfl ?_); refine goesL_ (some 60) rfl rfl Tryd.func8 (by kernel_rfl) rfl #[.slice Ao24 t138.length co24, .int .i64 1] rfl (by (try simp only [List.map_toArray, List.map_cons, List.map_nil]); first | done | rfl | (simp only [List.length_drop, List.length_take]; rfl)) ?_; (with_reducible refine (laws_heldStringS.calls kj22 _ _ t138 1 t145 _ ?side1 ?side2 A35.out).mono ?_); (case side1 => repeat (first | exact (Kd.R_reads' HO_5.out).2.2 | (with_reducible refine Kd.C_alloc ?_ _) | (with_reducible refine Kd.C_drewN ?_ _) | (with_reducible refine Kd.C_drew ?_))); (case side2 => exact (Kd.R_reads' HO_5.out).2.1); rintro e w40 ⟨rfl, hb⟩; refine ⟨_, rfl, ?_⟩; have n0_ := aM (Kd.R_below (by (with_reducible repeat (first | apply Kd.R_alloc | apply Kd.R_drewN | apply Kd.R_drew)); exact HO_5.out) hb); have n1_ := aM (below_step (by repeat (first | (with_reducible first | exact HB.out | apply below_alloc | apply pw_below_drewN | apply below_drew1) | exact HB.out)) hb); clear HO_5; clear HB; have HO_5 := n0_; have HB := n1_; clear n0_ n1_; (try clear hb); (try clear hb2); (try clear hk); (try clear hi)))
            go_ret
            exact ⟨eR, by repeat (first | (with_reducible first | exact HB.out | apply below_alloc | apply pw_below_drewN | apply below_drew1) | exact HB.out)⟩
      ·rw [if_neg c21] at H
       have c21b0 : (t139 == t137) = false := beq_eq_false_iff_ne.mpr c21
       have c21b1 : (t139 != t137) = true := bne_iff_ne.mpr c21
       obtain rfl := Option.some.inj H
       obtain ⟨Ao41, co41, eo41⟩ := Kd.R_slice HO_5.out
       subst eo41
       go_wp2_with (first | ((with_reducible refine gate_callee (f := 7) rfl ?_); refine goesL_ (some 35) rfl rfl Tryd.func7 (by kernel_rfl) rfl #[.slice Ao41 t132.length co41, .int .i64 1] rfl (by (try simp only [List.map_toArray, List.map_cons, List.map_nil]); first | done | rfl | (simp only [List.length_drop, List.length_take]; rfl)) ?_; (with_reducible refine (laws_markStringS.calls kj4 (fun k_ => some k_ = (.slice Ao41 t132.length co41 : Value).ownBlock) (.slice Ao41 t132.length co41) t132 1 t137 t138 w _ ?side1 ?side2 A15.out).mono ?_); (case side1 => repeat (first | (with_reducible first | exact HB.out | apply below_alloc | apply pw_below_drewN | apply below_drew1) | exact HB.out)); (case side2 => exact Kd.R_tight rfl HO_5.out); rintro e w42 ⟨rfl, hy0, hb, hkp⟩; refine ⟨_, rfl, ?_⟩; have n0_ := aM (Kd.R_mono (ok' := fun k_ => some k_ ≠ (.slice Ao41 t132.length co41 : Value).ownBlock) (Kd.R_keptB (HO_3.out) hkp (fun k_ hk_ hs_ => (hk_) hs_)) (fun k_ hk_ => hk_.1)); have n1_ := aM (Kd.R_reok rfl hy0 (fun k_ e_ => HO_5.out.1 k_ e_)); have n2_ := aM (hb); clear HO_3; clear HO_5; clear HB; have HO_3 := n0_; have HO_5 := n1_; have HB := n2_; clear n0_ n1_ n2_; (try clear hb); (try clear hkp); (try clear hy0)) | ((with_reducible refine gate_callee (f := 8) rfl ?_); refine goesL_ (some 38) rfl rfl Tryd.func8 (by kernel_rfl) rfl #[.slice Ao41 t138.length co41, .int .i64 1] rfl (by (try simp only [List.map_toArray, List.map_cons, List.map_nil]); first | done | (rw [show t138.length = t132.length from (Kd.R_reads' HO_5.out).1.symm] <;> rfl) | rfl | (simp only [List.length_drop, List.length_take]; rfl)) ?_; (with_reducible refine (laws_heldStringS.calls kj4 _ _ t138 1 t139 _ ?side1 ?side2 A16.out).mono ?_); (case side1 => repeat (first | exact (Kd.R_reads' HO_5.out).2.2 | (with_reducible refine Kd.C_alloc ?_ _) | (with_reducible refine Kd.C_drewN ?_ _) | (with_reducible refine Kd.C_drew ?_))); (case side2 => rw [show t138.length = t132.length from (Kd.R_reads' HO_5.out).1.symm]; exact (Kd.R_reads' HO_5.out).2.1); rintro e w43 ⟨rfl, hb⟩; refine ⟨_, rfl, ?_⟩; have n0_ := aM (Kd.R_below (by (with_reducible repeat (first | apply Kd.R_alloc | apply Kd.R_drewN | apply Kd.R_drew)); exact HO_3.out) hb); have n1_ := aM (Kd.R_below (by (with_reducible repeat (first | apply Kd.R_alloc | apply Kd.R_drewN | apply Kd.R_drew)); exact HO_5.out) hb); have n2_ := aM (below_step (by repeat (first | (with_reducible first | exact HB.out | apply below_alloc | apply pw_below_drewN | apply below_drew1) | exact HB.out)) hb); clear HO_3; clear HO_5; clear HB; have HO_3 := n0_; have HO_5 := n1_; have HB := n2_; clear n0_ n1_ n2_; (try clear hb); (try clear hb2); (try clear hk); (try clear hi)))
       go_ret
       exact ⟨eR, by repeat (first | (with_reducible first | exact HB.out | apply below_alloc | apply pw_below_drewN | apply below_drew1) | exact HB.out)⟩

/-- THE ONE PURE STATEMENT of laws_FnExactPathOf: yours. -/
def laws_FnExactPathOf.Pure : Prop := ∀ (a0 : ByteArray), a0.size ≤ 140737488351232 → ∃ k, laws_FnExactPathOf.f k a0 = some true
theorem laws_FnExactPathOf.walk (P : laws_FnExactPathOf.Pure) (a0 : ByteArray) (w : World) (w0 : a0.size ≤ 140737488351232) :
  Calls Tryd.prog 3 #[.string a0] w fun e w' => e = .returned (.bool true) ∧ Below w.heap.size w w' := by
 obtain ⟨k, h⟩ := P a0 w0
 refine (laws_FnExactPathOf.calls k a0 true w h).mono ?_
 rintro e w' ⟨rfl, hd⟩
 exact ⟨rfl, hd⟩

end Go.Proofs.YtdlkmnohmdnogaaDoor.PQ
end

section
namespace Go.Proofs.YtdlkmnohmdnogaaDoor.Pure
set_option linter.unusedVariables false
open Go.RowKit Go.Proofs.YtdlkmnohmdnogaaDoor.PQ Go.Proofs.YtdlkmnohmdnogaaDoorW.PrintWords Go.Proofs.YtdlkmnohmdnogaaDoorW.PrintLast Go.Proofs.YtdlkmnohmdnogaaDoor.Pre Go.Proofs.YtdlkmnohmdnogaaDoor.Seg Go.Proofs.YtdlkmnohmdnogaaDoor.Strs
theorem pth_len (fs : List (List UInt8)) : ∀ out, (pth fs out).1.length ≤ out.length + fs.length := by
 induction fs with
 | nil =>
  intro out
  show out.length ≤ out.length + 0
  omega
 | cons f fs ih =>
  intro out
  rw [pth]
  split
  ·refine Nat.le_trans (ih _) ?_
   simp only [List.length_append, List.length_cons, List.length_nil]
   omega
  ·exact Nat.zero_le _
theorem path_len (s : ByteArray) : (ansPath s).1.length ≤ 61 := by
 unfold ansPath
 split
 ·exact Nat.zero_le _
 ·rename_i h60
  have hs : s.data.toList.length = s.size := by rw [Array.length_toList]; rfl
  split
  ·exact Nat.zero_le _
  ·rename_i c l hl
   split
   ·refine Nat.le_trans (pth_len _ _) ?_
    rw [fld_len]
    have := List.count_le_length (a := (47 : UInt8)) (l := l)
    rw [hl, List.length_cons] at hs
    simp only [List.length_nil]
    omega
   ·exact Nat.zero_le _
theorem specPathOf (s : ByteArray) : Evt (fun k => spec_PathOf.f k s) (ansPath s) := by
 unfold spec_PathOf.f
 exact Evt.bind (PtO.spec_ev s) (Evt.const _)
theorem implPathOf (s : ByteArray) (h : s.size ≤ 1048576) : impl_PathOf.f s = some (ansPath s) := by
 unfold impl_PathOf.f impl_pathOf.f
 rw [if_pos h]
 rfl
theorem FnExactPathOf : laws_FnExactPathOf.Pure := by
 intro a0 hw
 refine Evt.ex (r := true) ?_
 unfold laws_FnExactPathOf.f
 by_cases hbig : (a0.size : Int) > 1048576
 ·exact Evt.pos hbig (Evt.const _)
 ·have hI := implPathOf a0 (by omega)
  have hS := specPathOf a0
  have hl := path_len a0
  generalize ansPath a0 = A at *
  obtain ⟨l, b⟩ := A
  replace hl : l.length ≤ 61 := hl
  refine Evt.neg hbig (Evt.bind hS ?_)
  rw [hI]
  have heq := eq_self l (by omega)
  have hh := held_ev l.length 1 (by omega) (by omega)
  refine Evt.bsome (Evt.bind heq (Evt.pos rfl ?_))
  refine Evt.step (fun k => laws_FnExactPathOf.j0.eq_2 _ _ _ _ _ k) (Evt.neg (by simp) (Evt.bind (mark_ev l 1 (by omega) (by omega)) (Evt.bind hh (Evt.neg (by omega) (Evt.pos rfl ?_)))))
  rw [hI]
  refine Evt.bsome (Evt.bind heq (Evt.pos rfl ?_))
  exact Evt.step (fun k => laws_FnExactPathOf.j1.eq_2 _ _ _ k) (Evt.neg (by simp) (Evt.bind hh (Evt.neg (by omega) (Evt.pos rfl (Evt.const _)))))
end Go.Proofs.YtdlkmnohmdnogaaDoor.Pure
end
