/- Several texts in one: what the claim's last text rests on. No conditions. -/
import Derived.Test.YtaomjndfjmfelaaMBy15
import Derived.Test.YtaomjndfjmfelaaMBy16
import Derived.Test.YtaomjndfjmfelaaMBy13
import Derived.Test.YtaomjndfjmfelaaMBy6
import Derived.Test.YtaomjndfjmfelaaMBy5
section
/- impl.WithAll: the texts that words tell, by hand. No conditions. -/
namespace Go.Proofs.Ytaomjndfjmfelaa.ByAll
set_option linter.unusedVariables false
set_option linter.unusedSimpArgs false
open Go.RowKit Go.Proofs.Ytaomjndfjmfelaa.PQ Go.Proofs.YtaomjndfjmfelaaW.PrintWords Go.Proofs.YtaomjndfjmfelaaW.PrintLast Go.Proofs.YtaomjndfjmfelaaW.PrintMore Go.Proofs.Ytaomjndfjmfelaa.Pre Go.Proofs.Ytaomjndfjmfelaa.Posts Go.Proofs.Ytaomjndfjmfelaa.GoodW Go.Proofs.Ytaomjndfjmfelaa.EntW Go.Proofs.Ytaomjndfjmfelaa.PostW Go.Proofs.Ytaomjndfjmfelaa.Ask Go.Proofs.Ytaomjndfjmfelaa.Cnt Go.Proofs.Ytaomjndfjmfelaa.ByD

def pred (ws : List ByteArray) (n : Int) : Bool := (n == (ws.length : Int))
theorem lit_calls (ws : List ByteArray) (B : Option Addr) (d bq : Nat) (n : Int) (w : World) (hcl : w.cell? ⟨bq, 0, none⟩ = some (.slice B ws.length d)) : Calls Try.prog 73 #[.int .i64 n, .pointer (some ⟨bq, 0, none⟩)] w fun e w' => e = .returned (.bool (pred ws n)) ∧ Below w.heap.size w w' := by
  unfold pred
  go_enter Try.func73, Try.ntmps73
  go_wp2
  go_ret
  exact ⟨by first | rfl | simp, Below.refl _ _⟩
set_option maxRecDepth 100000 in
set_option maxHeartbeats 4000000 in
theorem by_calls (x : Int) (A : Option Addr) (c : Nat) (l : List En) (B : Option Addr) (d : Nat) (ws : List ByteArray) (bq : Nat) (w : World) (hcl : ∀ w', Below w.heap.size w w' → w'.cell? ⟨bq, 0, none⟩ = some (.slice B ws.length d)) (hr : Kd.C k102 w A l.length l) (hc : l.length ≤ c) (hl : Small l) (hs : Kd.C Kd.string w B ws.length ws) (hsl : SmallS ws) :
    Calls Try.prog 72 #[.agg #[.int .i64 x, .slice A l.length c], .slice B ws.length d, .func (.func 73) #[] #[.pointer (some ⟨bq, 0, none⟩)]] w fun e w' => ∃ v0_ : Value, e = .returned (.tuple #[v0_, .bool (asked x l ws 20)]) ∧ Kd.R (Kd.int .i64) 3 w' w.heap.size (fun _ => True) v0_ (if asked x l ws 20 = true then keep (pred ws) (marks x l ws) else []) ∧ Below w.heap.size w w' := by
  have HR := Aside0.mk hr
  have HC := Aside0.mk hc
  have HL := Aside0.mk hl
  have HS := Aside0.mk hs
  have HSL := Aside0.mk hsl
  have HCL := Aside0.mk hcl
  clear hcl
  obtain ⟨W0, hW0⟩ : ∃ W0, W0 = w.alloc (.cells #[.int .i64 x, .slice A l.length c] 33) := ⟨_, rfl⟩
  have HX : Aside0 (∀ w', Below W0.heap.size W0 w' → w'.cell? ⟨w.heap.size, 0, none⟩ = some (.int .i64 x) ∧ w'.cell? ⟨w.heap.size, 1, none⟩ = some (.slice A l.length c)) := ⟨fun w' hb => by subst hW0; exact ⟨(hb.cell (by simp)).trans (by simp), (hb.cell (by simp)).trans (by simp)⟩⟩
  have HB0 : Aside0 (Below w.heap.size w W0) := ⟨by subst hW0; exact below_alloc (Below.refl w.heap.size w) _⟩
  have HSZ : Aside0 (w.heap.size ≤ W0.heap.size) := ⟨by subst hW0; simp⟩
  obtain ⟨b, hb⟩ : ∃ b, b = asked x l ws 20 := ⟨_, rfl⟩
  have HBA := Aside0.mk hb
  rw [← hb]
  clear hr hc hl hs hsl hb
  cases b with
  | false =>
    rw [if_neg (by simp)]
    go_enter Try.func72, Try.ntmps72
    go_wp2_with (first | (go_at_call 122; go_loud (rw [← hW0]; (with_reducible refine (Ask.calls x A c l B d ws 20 _ (Kd.C_below HR.out HB0.out) HC.out HL.out (Kd.C_below HS.out HB0.out) HSL.out).mono ?_); rintro e w1 ⟨rfl, hb⟩; rw [← HBA.out]; have HA1 := Aside0.mk hb; clear hb)))
    go_ret2
    exact ⟨_, rfl, Kd.R_nil _ _ _ _ _, below_then HB0.out HSZ.out HA1.out⟩
  | true =>
    rw [if_pos rfl]
    have HGW := Aside0.mk (asked_good HBA.out.symm)
    obtain ⟨ms, hms⟩ : ∃ ms, ms = marks x l ws := ⟨_, rfl⟩
    have HMS := Aside0.mk hms
    have HML : Aside0 (ms.length ≤ 40) := ⟨by rw [hms, marks_len]; have := good_range HGW.out; omega⟩
    rw [← hms]
    clear hms
    go_enter Try.func72, Try.ntmps72
    go_wp2_with (first | (go_at_call 122; go_loud (rw [← hW0]; (with_reducible refine (Ask.calls x A c l B d ws 20 _ (Kd.C_below HR.out HB0.out) HC.out HL.out (Kd.C_below HS.out HB0.out) HSL.out).mono ?_); rintro e w1 ⟨rfl, hb⟩; rw [← HBA.out]; have HA1 := Aside0.mk hb; clear hb)) | (go_at_call 123; go_loud ((with_reducible refine (Cnt.calls x A c l B d ws w.heap.size _ (fun w' hb => HX.out w' (below_step (below_alloc HA1.out _) hb)) (Kd.C_below HR.out (below_then HB0.out HSZ.out (below_alloc HA1.out _))) HC.out HL.out HGW.out (Kd.C_below HS.out (below_then HB0.out HSZ.out (below_alloc HA1.out _))) HSL.out).mono ?_); rintro e w2 ⟨vm, rfl, ho, hb⟩; rw [← HMS.out] at ho; obtain ⟨Am, cm, em, _, _⟩ := Kd.R_reads ho; subst em; have HA2 := Aside0.mk (below_step (below_alloc HA1.out (.cells #[] 3)) hb); have HM2 := Aside0.mk (R_in' ho); have HO2 := Aside0.mk (empty_row w.heap.size w1 w2 hb (Nat.le_trans HSZ.out (below_size HA1.out))); have HLT2 := Aside0.mk (sz_alloc w1 (.cells #[] 3)); have HLE2 := Aside0.mk hb.size; clear ho hb)))
    go_loopg [8, 19] ms.length (fun kq v8 v19 w' => ∃ (i : Nat) (o : List Int), v19 = .int .i64 (i : Int) ∧ i ≤ ms.length ∧ kq = ms.length - i ∧ Aside0 (o = keepTo (pred ws) ms i) ∧ Aside0 (Kd.R (Kd.int .i64) 3 w' w.heap.size (fun k => k = w1.heap.size ∨ w2.heap.size ≤ k) v8 o) ∧ Aside0 (Kd.R (Kd.int .i64) 3 w' w.heap.size (fun k => w1.heap.size < k ∧ k < w2.heap.size) (.slice Am ms.length cm) ms) ∧ Aside0 (Below W0.heap.size W0 w') ∧ Aside0 (w2.heap.size ≤ w'.heap.size))
    case atStart => exact ⟨0, [], rfl, by omega, by omega, ⟨rfl⟩, HO2, ⟨Kd.R_lower (Kd.R_mono HM2.out (fun k hk => ⟨by have := HLT2.out; omega, hk.2⟩)) (Nat.le_trans HSZ.out (Nat.le_trans (below_size HA1.out) (by have := HLT2.out; omega)))⟩, HA2, ⟨Nat.le_refl _⟩⟩
    case round =>
      obtain ⟨i, o, rfl, hi, hk, HE, HO, HM, HA, HZ⟩ := hrel
      by_cases hlt : i < ms.length
      · have HI := Aside0.mk hlt
        have p1 : (0 : Int) ≤ (i : Int) := by omega
        have q1 : (i : Int) < (ms.length : Int) := by omega
        obtain ⟨g, cg, eg, gb, gl, cells, HG⟩ := Kd.R_form HM.out (by omega)
        injection eg with e1 e2 e3
        subst e1 e3
        obtain ⟨hx0, hf0⟩ := Kd.R_celln 0 HM.out (i : Int) p1 (by omega)
        have hrd : rdOf (0 : Int) ms (i : Int) = ms.getD i 0 := by show ms.getD (i : Int).toNat 0 = _; rw [Int.toNat_natCast]
        rw [Int.toNat_natCast, hrd] at hx0
        rw [Int.toNat_natCast] at hf0
        clear hrd
        obtain ⟨y, hy⟩ : ∃ y, y = ms.getD i 0 := ⟨_, rfl⟩
        rw [← hy] at hx0
        have HT := Aside0.mk (keepTo_succ (pred ws) ms i)
        rw [← hy] at HT
        clear HG gl gb hy
        obtain ⟨A8, c8, e8⟩ := Kd.R_slice HO.out
        subst e8
        obtain ⟨b, hb⟩ : ∃ b, b = pred ws y := ⟨_, rfl⟩
        have HBB := Aside0.mk hb
        clear hb
        cases b with
        | false =>
          go_wp2_with (first | (go_at_call 73; go_loud ((with_reducible refine (lit_calls ws B d bq y _ (HCL.out _ (below_then HB0.out HSZ.out HA.out))).mono ?_); rintro e w3 ⟨rfl, hb⟩; rw [← HBB.out]; have HA3 := Aside0.mk (below_step HA.out hb); have HO3 := Aside0.mk (Kd.R_below HO.out hb); have HM3 := Aside0.mk (Kd.R_below HM.out hb); have HZ3 := Aside0.mk (Nat.le_trans HZ.out hb.size); clear hb)))
          go_roundg (ms.length - (i + 1))
          case measure => have := HI.out; omega
          case rel => exact ⟨i + 1, o, by have := HML.out; have := HI.out; first | go_num | (rw [w64 (by omega) (by omega)]; go_num), by have := HI.out; omega, by omega, ⟨by rw [HT.out, ← HBB.out, HE.out]; simp⟩, HO3, HM3, HA3, HZ3⟩
        | true =>
          have HOL : Aside0 (o.length ≤ 40) := ⟨by rw [HE.out]; have := keepTo_len (pred ws) ms i; have := HML.out; have := HI.out; omega⟩
          go_wp2_with (first | (go_at_call 73; go_loud ((with_reducible refine (lit_calls ws B d bq y _ (HCL.out _ (below_then HB0.out HSZ.out HA.out))).mono ?_); rintro e w3 ⟨rfl, hb⟩; rw [← HBB.out]; have HA3 := Aside0.mk (below_step HA.out hb); have HO3 := Aside0.mk (Kd.R_below HO.out hb); have HM3 := Aside0.mk (Kd.R_below HM.out hb); have HZ3 := Aside0.mk (Nat.le_trans HZ.out hb.size); clear hb)) | ((with_reducible refine gate_builtin (b := .append) (xs := #[.tmp 27, .tmp 29]) rfl ?_); at_builtin; go_loud (refine Kd.R_append (Kd.int .i64) (w0 := W0) w.heap.size rfl (.tmp 27) (.tmp 29) 28 3 (.int .i64 0) 8 rfl Try.underlying28 info3 rfl (by decide) (by omega) _ o (i : Int) [.int .i64 (i : Int)] (fun k => k = w1.heap.size ∨ w2.heap.size ≤ k) (fun _ => False) rfl rfl ?aP (fun _ hk => hk.elim) ?aF ?aO ?aB ?aS ?aL ?_; (case aP => exact rfl); (case aB => exact HA3.out.mono HSZ.out); (case aF => exact (fun k hk => .inr (Nat.le_trans HZ3.out hk))); (case aO => exact HO3.out); (case aS => exact Nat.le_trans HSZ.out (below_size HA3.out)); (case aL => have := HOL.out; omega); intro v4 w4 ho4 hb4 hg4 hat4; have HO4 := Aside0.mk ho4; have HM4 := Aside0.mk (R_beside HM3.out hg4 (fun k hk => (HO3.out.1 k hk))); have HA4 := Aside0.mk (W0_beside HA3.out hg4 (fun k hk => (Kd.R_base HO3.out k hk)) (HO3.out.1) (below_size HA1.out) (Nat.le_trans (below_size HA1.out) (Nat.le_trans (Nat.le_of_lt HLT2.out) HLE2.out))); have HZ4 := Aside0.mk (Nat.le_trans HZ3.out hg4.size); clear ho4 hb4 hg4 hat4)))
          go_roundg (ms.length - (i + 1))
          case measure => have := HI.out; omega
          case rel => exact ⟨i + 1, o ++ [(i : Int)], by have := HML.out; have := HI.out; first | go_num | (rw [w64 (by omega) (by omega)]; go_num), by have := HI.out; omega, by omega, ⟨by rw [HT.out, ← HBB.out, HE.out]; simp⟩, HO4, HM4, HA4, HZ4⟩
      · obtain rfl : i = ms.length := by omega
        go_wp2
        go_ret2
        refine ⟨_, rfl, ?_, below_then HB0.out HSZ.out HA.out⟩
        rw [← keepTo_all, ← HE.out]
        exact Kd.R_mono HO.out (fun _ _ => trivial)
end Go.Proofs.Ytaomjndfjmfelaa.ByAll
end

section
/- The reference's WithAll answers as the program's. No conditions. -/
namespace Go.Proofs.Ytaomjndfjmfelaa.ByAll
set_option linter.unusedVariables false
open Go.RowKit Go.Proofs.Ytaomjndfjmfelaa.PQ Go.Proofs.YtaomjndfjmfelaaW.PrintWords Go.Proofs.YtaomjndfjmfelaaW.PrintLast Go.Proofs.Ytaomjndfjmfelaa.Pre Go.Proofs.Ytaomjndfjmfelaa.Posts Go.Proofs.Ytaomjndfjmfelaa.GoodW Go.Proofs.Ytaomjndfjmfelaa.PostW Go.Proofs.Ytaomjndfjmfelaa.Ask Go.Proofs.Ytaomjndfjmfelaa.Cnt Go.Proofs.Ytaomjndfjmfelaa.ByD Go.Proofs.Ytaomjndfjmfelaa.ByP

theorem loop_ev (ws : List ByteArray) (b : Bool) (ms : List Int) (hm : ms.length ≤ 1048576) : Evt (fun k => spec_WithAll.l0 k ws b [] ms (ms.length : Int) 0) (keep (pred ws) ms, b) := by
  have key : ∀ (n i : Nat), i + n = ms.length → Evt (fun k => spec_WithAll.l0 k ws b (keepTo (pred ws) ms i) ms (ms.length : Int) (i : Int)) (keep (pred ws) ms, b) := by
    intro n
    induction n with
    | zero =>
      intro i hi
      refine Evt.step (fun k => spec_WithAll.l0.eq_2 _ _ _ _ _ _ k) (Evt.neg (by omega) ((Evt.const _).eq ?_))
      rw [show i = ms.length by omega, keepTo_all]
    | succ n ih =>
      intro i hi
      have hlt : i < ms.length := by omega
      have hrd : rd ms (i : Int) = ms[i] := by
        show ms.getD (i : Int).toNat 0 = _
        rw [Int.toNat_natCast, List.getD_eq_getElem?_getD, List.getElem?_eq_getElem hlt]
        rfl
      have hgd : ms.getD i 0 = ms[i] := by
        rw [List.getD_eq_getElem?_getD, List.getElem?_eq_getElem hlt]
        rfl
      have ih := ih (i + 1) (by omega)
      rw [keepTo_succ, hgd] at ih
      have hlen := keepTo_len (pred ws) ms i
      refine Evt.step (fun k => spec_WithAll.l0.eq_2 _ _ _ _ _ _ k) (Evt.pos (by omega) (Evt.pos (by omega) (Evt.pos (by omega) ?_)))
      rw [hrd, w64 (n := (i : Int) + 1) (by omega) (by omega)]
      by_cases hc : ms[i] = (ws.length : Int)
      · have hp : pred ws ms[i] = true := beq_iff_eq.2 hc
        rw [if_pos hp] at ih
        exact Evt.pos hc (Evt.pos (by omega) ih)
      · have hp : pred ws ms[i] = false := beq_eq_false_iff_ne.2 hc
        rw [if_neg (by rw [hp]; simp), List.append_nil] at ih
        exact Evt.neg hc ih
  exact key ms.length 0 (by omega)
/-- What WithAll answers. -/
def ans (x : Int) (l : List En) (ws : List ByteArray) : List Int × Bool := (if asked x l ws 20 = true then keep (pred ws) (marks x l ws) else [], asked x l ws 20)
theorem spec_of (x : Int) (l : List En) (hl : Small l) (ws : List ByteArray) (hs : SmallS ws) : Evt (fun k => spec_WithAll.f k x l ws) (ans x l ws) := by
  unfold spec_WithAll.f ans
  refine Evt.bind (marks_ev x l hl ws hs) ?_
  by_cases ha : asked x l ws 20 = true
  · have hx := good_range (asked_good ha)
    rw [ha, if_pos rfl, if_pos rfl]
    exact loop_ev ws true (marks x l ws) (by rw [marks_len]; omega)
  · rw [if_neg ha, if_neg ha, Bool.eq_false_iff.2 ha]
    refine (loop_ev ws false [] (by simp)).eq ?_
    rfl
theorem ans_len (x : Int) (l : List En) (ws : List ByteArray) : (ans x l ws).1.length ≤ 1048576 := by
  unfold ans
  by_cases ha : asked x l ws 20 = true
  · have hx := good_range (asked_good ha)
    show (if asked x l ws 20 = true then keep (pred ws) (marks x l ws) else []).length ≤ _
    rw [if_pos ha]
    have h := keepTo_len (pred ws) (marks x l ws) (marks x l ws).length
    rw [marks_len] at h
    show (keepTo (pred ws) (marks x l ws) (marks x l ws).length).length ≤ _
    rw [marks_len]
    omega
  · show (if asked x l ws 20 = true then keep (pred ws) (marks x l ws) else []).length ≤ _
    rw [if_neg ha]
    simp
end Go.Proofs.Ytaomjndfjmfelaa.ByAll
end

section
/- impl.WithAll, by hand. No conditions. -/
namespace Go.Proofs.Ytaomjndfjmfelaa.ByAll
set_option linter.unusedVariables false
set_option linter.unusedSimpArgs false
open Go.RowKit Go.Proofs.Ytaomjndfjmfelaa.PQ Go.Proofs.YtaomjndfjmfelaaW.PrintWords Go.Proofs.YtaomjndfjmfelaaW.PrintLast Go.Proofs.YtaomjndfjmfelaaW.PrintMore Go.Proofs.Ytaomjndfjmfelaa.Pre Go.Proofs.Ytaomjndfjmfelaa.Posts Go.Proofs.Ytaomjndfjmfelaa.GoodW Go.Proofs.Ytaomjndfjmfelaa.PostW Go.Proofs.Ytaomjndfjmfelaa.Ask

set_option maxRecDepth 100000 in
theorem calls (x : Int) (A : Option Addr) (c : Nat) (l : List En) (B : Option Addr) (d : Nat) (ws : List ByteArray) (w : World) (hr : Kd.C k102 w A l.length l) (hc : l.length ≤ c) (hl : Small l) (hs : Kd.C Kd.string w B ws.length ws) (hsl : SmallS ws) :
    Calls Try.prog 20 #[.agg #[.int .i64 x, .slice A l.length c], .slice B ws.length d] w fun e w' => ∃ v0_ : Value, e = .returned (.tuple #[v0_, .bool (ans x l ws).2]) ∧ Kd.R (Kd.int .i64) 3 w' w.heap.size (fun _ => True) v0_ (ans x l ws).1 ∧ Below w.heap.size w w' := by
  have HR := Aside0.mk hr
  have HC := Aside0.mk hc
  have HL := Aside0.mk hl
  have HS := Aside0.mk hs
  have HSL := Aside0.mk hsl
  obtain ⟨W0, hW0⟩ : ∃ W0, W0 = ((w.alloc (.cells #[.int .i64 x, .slice A l.length c] 33)).alloc (.cells #[.slice B ws.length d] 25)) := ⟨_, rfl⟩
  have HB0 : Aside0 (Below w.heap.size w W0) := ⟨by subst hW0; exact below_alloc (below_alloc (Below.refl w.heap.size w) _) _⟩
  have HSZ : Aside0 (w.heap.size ≤ W0.heap.size) := ⟨HB0.out.size⟩
  have HCL : Aside0 (∀ w', Below W0.heap.size W0 w' → w'.cell? ⟨w.heap.size + 1, 0, none⟩ = some (.slice B ws.length d)) := ⟨fun w' hb => by subst hW0; exact (hb.cell (by simp)).trans (by simp)⟩
  clear hr hc hl hs hsl
  go_enter Try.func20, Try.ntmps20
  go_wp2_with (first | (go_at_call 72; go_loud (rw [← hW0]; (with_reducible refine (by_calls x A c l B d ws (w.heap.size + 1) _ HCL.out (Kd.C_below HR.out HB0.out) HC.out HL.out (Kd.C_below HS.out HB0.out) HSL.out).mono ?_); rintro e w1 ⟨v0, rfl, ho, hb⟩; have HO1 := Aside0.mk (Kd.R_lower ho HSZ.out); have HB1 := Aside0.mk (below_then HB0.out HSZ.out hb); clear ho hb)))
  go_ret2
  exact ⟨v0, rfl, HO1.out, HB1.out⟩
end Go.Proofs.Ytaomjndfjmfelaa.ByAll
end

section
/- The law FnExactWithAll, walked by hand: it returns true. No conditions. -/
namespace Go.Proofs.Ytaomjndfjmfelaa.LwAll
set_option linter.unusedVariables false
set_option linter.unusedSimpArgs false
open Go.RowKit Go.Proofs.Ytaomjndfjmfelaa.PQ Go.Proofs.YtaomjndfjmfelaaW.PrintWords Go.Proofs.YtaomjndfjmfelaaW.PrintLast Go.Proofs.YtaomjndfjmfelaaW.PrintMore Go.Proofs.Ytaomjndfjmfelaa.Pre Go.Proofs.Ytaomjndfjmfelaa.Posts Go.Proofs.Ytaomjndfjmfelaa.GoodW Go.Proofs.Ytaomjndfjmfelaa.EntT Go.Proofs.Ytaomjndfjmfelaa.PostW Go.Proofs.Ytaomjndfjmfelaa.Shp Go.Proofs.Ytaomjndfjmfelaa.Ask Go.Proofs.Ytaomjndfjmfelaa.LwK

theorem reads_q {W : World} {base : Nat} {ok : Nat → Prop} {Ag : Option Addr} {n cg : Nat} {q : List Int} (h : Kd.R (Kd.int .i64) 3 W base ok (.slice Ag n cg) q) : n = q.length ∧ Kd.C (Kd.int .i64) W Ag q.length q := ⟨(Kd.R_reads' h).1, (Kd.R_reads' h).2.2⟩
theorem row1 {W : World} {base : Nat} {ok : Nat → Prop} {v : Value} {xs : List ByteArray} (h : Kd.string.R 9 W base ok v xs) : Row W 9 xs.length 1 v := Row.of_R h
theorem cells8 {x : Int} {Ax : Option Addr} {n cx : Nat} {w4 W8 w' : World} (h : W8 = w4.alloc (.cells #[.int .i64 x, .slice Ax n cx] 33)) (hb : Below W8.heap.size W8 w') : w'.cell? ⟨w4.heap.size, 0, none⟩ = some (.int .i64 x) ∧ w'.cell? ⟨w4.heap.size, 1, none⟩ = some (.slice Ax n cx) := by
  subst h
  exact ⟨(hb.cell (by simp)).trans (by simp), (hb.cell (by simp)).trans (by simp)⟩
set_option maxRecDepth 100000 in
set_option maxHeartbeats 8000000 in
theorem calls (x : Int) (A : Option Addr) (c : Nat) (l : List El) (B : Option Addr) (d : Nat) (ws : List ByteArray) (w : World) (hr : Kd.C k140 w A l.length l) (hc : l.length ≤ c) (hw : l.length ≤ 9223372036854775807 ∧ ∀ e ∈ l, e.f0.size ≤ 9223372036854775807 ∧ e.f1.length ≤ 9223372036854775807) (hsw : Kd.C Kd.string w B ws.length ws) (hd : ws.length ≤ d) (hws : ws.length ≤ 9223372036854775807 ∧ ∀ s ∈ ws, s.size ≤ 9223372036854775807) :
    Calls Try.prog 3 #[.agg #[.int .i64 x, .slice A l.length c], .slice B ws.length d] w fun e w' => e = .returned (.bool true) ∧ Below w.heap.size w w' := by
  have HR := Aside0.mk hr
  have HC := Aside0.mk hc
  have HSW := Aside0.mk hsw
  have HD := Aside0.mk hd
  obtain ⟨W0, hW0⟩ : ∃ W0, W0 = w.alloc (.cells #[.int .i64 x, .slice A l.length c] 24) := ⟨_, rfl⟩
  have HX0 : Aside0 (∀ w', Below W0.heap.size W0 w' → w'.cell? ⟨w.heap.size, 0, none⟩ = some (.int .i64 x) ∧ w'.cell? ⟨w.heap.size, 1, none⟩ = some (.slice A l.length c)) := ⟨fun w' hb => by subst hW0; exact ⟨(hb.cell (by simp)).trans (by simp), (hb.cell (by simp)).trans (by simp)⟩⟩
  have HB0 : Aside0 (Below w.heap.size w W0) := ⟨by subst hW0; exact below_alloc (Below.refl w.heap.size w) _⟩
  have HSZ : Aside0 (w.heap.size ≤ W0.heap.size) := ⟨by subst hW0; simp⟩
  obtain ⟨r, hev, hsm, hru⟩ := sz_ev2 x l hw.1 hw.2 1048576 (by omega) (by omega)
  obtain ⟨k0, hk0⟩ := hev.ex
  have E0 := Aside0.mk hk0
  by_cases hneg : r < 0
  · have hnb : decide (r < 0) = true := decide_eq_true hneg
    clear hr hc hw hsw hd hws hsm hk0 hev
    go_enter Try.func3, Try.ntmps3
    go_wp2_with (first | (go_at_call 15; go_loud (rw [← hW0]; (with_reducible refine (laws_szWords.calls k0 x A c l 1048576 r _ (Kd.C_below HR.out HB0.out) HC.out E0.out).mono ?_); rintro e w1 ⟨rfl, hb⟩; have HA1 := Aside0.mk hb; clear hb; obtain ⟨hc0, hc1⟩ := HX0.out w1 HA1.out)))
    go_ret
    exact ⟨rfl, below_then HB0.out HSZ.out HA1.out⟩
  · have hnb : decide (r < 0) = false := decide_eq_false hneg
    obtain ⟨rs, hevs, hsms⟩ := MkS.szS_ev ws hws.1 hws.2 r (by omega) hru
    obtain ⟨k0s, hk0s⟩ := hevs.ex
    have E0s := Aside0.mk hk0s
    by_cases hnegs : rs < 0
    · have hnbs : decide (rs < 0) = true := decide_eq_true hnegs
      clear hr hc hw hsw hd hws hsm hk0 hev hsms hk0s hevs hneg
      go_enter Try.func3, Try.ntmps3
      go_wp2_with (first | (go_at_call 15; go_loud (rw [← hW0]; (with_reducible refine (laws_szWords.calls k0 x A c l 1048576 r _ (Kd.C_below HR.out HB0.out) HC.out E0.out).mono ?_); rintro e w1 ⟨rfl, hb⟩; have HA1 := Aside0.mk hb; clear hb; obtain ⟨hc0, hc1⟩ := HX0.out w1 HA1.out)) | (go_at_call 16; go_loud ((with_reducible refine (laws_szStringS.calls k0s B d ws r rs _ (Kd.C_below HSW.out (below_then HB0.out HSZ.out HA1.out)) HD.out E0s.out).mono ?_); rintro e w1s ⟨rfl, hd⟩; have HA1s := Aside0.mk (below_step HA1.out hd.below); clear hd hc0 hc1; obtain ⟨hc0, hc1⟩ := HX0.out w1s HA1s.out)))
      go_ret
      exact ⟨rfl, below_then HB0.out HSZ.out HA1s.out⟩
    · have hnbs : decide (rs < 0) = false := decide_eq_false hnegs
      have hs := hsm (by omega)
      have hss := hsms (by omega)
      have hsl := map_small l hs
      obtain ⟨le, hle⟩ : ∃ le, le = l.map cvE := ⟨_, rfl⟩
      rw [← hle] at hsl
      obtain ⟨k1, hk1⟩ := (EntT.to_ev x l hs.1 (fun x hx => (hs.2 x hx).2)).ex
      rw [← hle] at hk1
      obtain ⟨k1s, hk1s⟩ := (MkS.toS_ev ws hss.1).ex
      obtain ⟨k2, hk2⟩ := (ByAll.spec_of x le hsl ws hss).ex
      have hpl := ByAll.ans_len x le ws
      obtain ⟨p, hp⟩ : ∃ p, p = (ByAll.ans x le ws).1 := ⟨_, rfl⟩
      obtain ⟨b, hb⟩ : ∃ b, b = (ByAll.ans x le ws).2 := ⟨_, rfl⟩
      have hpb : ByAll.ans x le ws = (p, b) := by rw [hp, hb]
      have hk2 : spec_WithAll.f k2 x le ws = some (p, b) := hk2.trans (by rw [hpb])
      rw [← hp] at hpl
      obtain ⟨k3, hk3⟩ := (Ints.eq_self p hpl).ex
      obtain ⟨k4, hk4⟩ := (EntT.eq_ev x le hsl).ex
      obtain ⟨k4s, hk4s⟩ := (Strs.eq_self ws hss.1).ex
      obtain ⟨k5, hk5⟩ := (Ints.mark_ev p 1 (by omega) hpl).ex
      obtain ⟨k6, hk6⟩ := (Ints.held_ev p.length 1 (by omega) hpl).ex
      obtain ⟨q, hq⟩ : ∃ q, q = (List.range p.length).map (Ints.mk 1) := ⟨_, rfl⟩
      rw [← hq] at hk5 hk6
      have hql : q.length = p.length := by rw [hq]; simp
      have E1 := Aside0.mk hk1
      have E1s := Aside0.mk hk1s
      have E2 := Aside0.mk hk2
      have E3 := Aside0.mk hk3
      have E4 := Aside0.mk hk4
      have E4s := Aside0.mk hk4s
      obtain ⟨z, hz⟩ : ∃ z : Int, z = ((1 + p.length : Nat) : Int) := ⟨_, rfl⟩
      rw [← hz, show ((1 : Nat) : Int) = 1 from rfl] at hk5 hk6
      have E5 := Aside0.mk hk5
      have E6 := Aside0.mk hk6
      have hzb : decide (z < 0) = false := decide_eq_false (by omega)
      have EP := Aside0.mk hpb
      have ES := Aside0.mk hsl
      have EW := Aside0.mk hss
      have EWL := Aside0.mk hss.1
      have EQ := Aside0.mk hql
      clear hr hc hw hsw hd hws hsm hk0 hev hsms hk0s hevs hneg hnegs hs hss hsl hle hk1 hk1s hk2 hpl hp hb hpb hk3 hk4 hk4s hk5 hk6 hq hql hz
      go_enter Try.func3, Try.ntmps3
      go_upto_region 9 with (first | (go_at_call 15; go_loud (rw [← hW0]; (with_reducible refine (laws_szWords.calls k0 x A c l 1048576 r _ (Kd.C_below HR.out HB0.out) HC.out E0.out).mono ?_); rintro e w1 ⟨rfl, hb⟩; have HA1 := Aside0.mk hb; clear hb; obtain ⟨hc0, hc1⟩ := HX0.out w1 HA1.out)) | (go_at_call 16; go_loud ((with_reducible refine (laws_szStringS.calls k0s B d ws r rs _ (Kd.C_below HSW.out (below_then HB0.out HSZ.out HA1.out)) HD.out E0s.out).mono ?_); rintro e w1s ⟨rfl, hd⟩; have HA1s := Aside0.mk (below_step HA1.out hd.below); clear hd hc0 hc1; obtain ⟨hc0, hc1⟩ := HX0.out w1s HA1s.out)) | (go_at_call 18; go_loud ((with_reducible refine (laws_toWords.calls k1 x A c l x le _ (Kd.C_below HR.out (below_then HB0.out HSZ.out HA1s.out)) HC.out E1.out).mono ?_); rintro e w2 ⟨v2, rfl, ho, hb⟩; have HA2 := Aside0.mk (below_step HA1s.out hb); obtain ⟨A2, c2, rfl, hl2, hC2⟩ := Kd.S_reads ho; have HC2 := Aside0.mk hC2; have HL2 := Aside0.mk hl2; clear ho hb hC2 hl2 hc0 hc1; obtain ⟨hc0, hc1⟩ := HX0.out w2 HA2.out)) | (go_at_call 19; go_loud ((with_reducible refine (laws_toStringS.calls k1s B d ws ws _ (Kd.C_below HSW.out (below_then HB0.out HSZ.out HA2.out)) HD.out E1s.out).mono ?_); rintro e w2s ⟨v2s, rfl, ho, hb⟩; have HA2s := Aside0.mk (below_step HA2.out hb); have HC2s := Aside0.mk (Kd.C_below HC2.out hb); obtain ⟨B2, d2, rfl, hd2, hD2⟩ := Kd.R_reads ho; have HD2 := Aside0.mk hD2; have HE2 := Aside0.mk hd2; clear ho hb hD2 hd2 hc0 hc1; obtain ⟨hc0, hc1⟩ := HX0.out w2s HA2s.out)) | (go_at_call 17; go_loud ((with_reducible refine (spec_WithAll.calls k2 x A2 c2 le B2 d2 ws p b _ HC2s.out HL2.out HD2.out HE2.out E2.out).mono ?_); rintro e w3 ⟨v3, rfl, ho, hb⟩; have HA3 := Aside0.mk (below_step HA2s.out hb); obtain ⟨As, cs, rfl, hls, hCs⟩ := Kd.R_reads ho; have HCS := Aside0.mk hCs; have HLS := Aside0.mk hls; clear ho hb hCs hls hc0 hc1; obtain ⟨hc0, hc1⟩ := HX0.out w3 HA3.out)))
      go_upto_region 14 with (first | (go_at_call 18; go_loud ((with_reducible refine (laws_toWords.calls k1 x A c l x le _ (Kd.C_below HR.out (below_then HB0.out HSZ.out HA3.out)) HC.out E1.out).mono ?_); rintro e w4 ⟨v4, rfl, ho, hb⟩; have HA4 := Aside0.mk (below_step HA3.out hb); have HS4 := Aside0.mk hb; obtain ⟨Ax, cx, rfl, hlx, hCx⟩ := Kd.S_reads ho; have HLX := Aside0.mk hlx; have HX4 := Aside0.mk (R_in (Kd.S_R ho)); obtain ⟨W8, hW8⟩ : ∃ W8, W8 = (w4.alloc (.cells #[.int .i64 x, .slice Ax le.length cx] 33)) := ⟨_, rfl⟩; have HXC : Aside0 (∀ w', Below W8.heap.size W8 w' → w'.cell? ⟨w4.heap.size, 0, none⟩ = some (.int .i64 x) ∧ w'.cell? ⟨w4.heap.size, 1, none⟩ = some (.slice Ax le.length cx)) := ⟨fun w' hb => cells8 hW8 hb⟩; have HA48 : Aside0 (Below w4.heap.size w4 W8) := ⟨hW8 ▸ below_alloc (Below.refl _ _) _⟩; have HAW := Aside0.mk (below_step HA4.out HA48.out); have HSW8 := Aside0.mk (below_step HS4.out HA48.out); have HXW := Aside0.mk (Kd.R_below HX4.out HA48.out); clear ho hb hCx hlx hc0 hc1)) | (go_at_call 19; go_loud (rw [← hW8]; (with_reducible refine (laws_toStringS.calls k1s B d ws ws _ (Kd.C_below HSW.out (below_then HB0.out HSZ.out HAW.out)) HD.out E1s.out).mono ?_); rintro e w5 ⟨v5, rfl, ho, hb⟩; have HA5 := Aside0.mk (below_step HAW.out hb); have HS5 := Aside0.mk (below_step HSW8.out hb); have H85 := Aside0.mk hb; have HX5 := Aside0.mk (Kd.R_below HXW.out hb); obtain ⟨B5, d5, rfl, hd5, hD5⟩ := Kd.R_reads ho; have HE5 := Aside0.mk hd5; have HT5 := Aside0.mk (R_in ho); obtain ⟨hd0, hd1⟩ := HXC.out w5 H85.out; clear ho hb hD5 hd5)) | (go_at_call 20; go_loud (have hcal := ByAll.calls x Ax cx le B5 d5 ws w5 (Kd.R_reads' HX5.out).2.2 HLX.out ES.out (Kd.R_reads' HT5.out).2.2 EW.out; rw [EP.out] at hcal; (with_reducible refine (hcal).mono ?_); rintro e w6 ⟨vg, rfl, ho, hb⟩; have HG6 := Aside0.mk (R_in ho); have HA6 := Aside0.mk (below_step HA5.out hb); have HS6 := Aside0.mk (below_step HS5.out hb); have H86 := Aside0.mk (below_step H85.out hb); have HX6 := Aside0.mk (Kd.R_below HX5.out hb); have HT6 := Aside0.mk (Kd.R_below HT5.out hb); obtain ⟨Ag, cg, rfl, hlg, hCg⟩ := Kd.R_reads ho; have HLG := Aside0.mk hlg; have HZ56 := Aside0.mk hb.size; clear ho hb hCg hlg hcal hd0 hd1)) | (go_at_call 21; go_loud ((with_reducible refine (laws_eqIntS.calls k3 Ag cg p As cs p true _ (Kd.R_reads' HG6.out).2.2 HLG.out (Kd.C_below HCS.out HS6.out) HLS.out E3.out).mono ?_); rintro e w7 ⟨rfl, hd⟩; have HA7 := Aside0.mk (below_step HA6.out hd.below); have HS7 := Aside0.mk (below_step HS6.out hd.below); have H87 := Aside0.mk (below_step H86.out hd.below); have HX7 := Aside0.mk (Kd.R_below HX6.out hd.below); have HT7 := Aside0.mk (Kd.R_below HT6.out hd.below); have HG7 := Aside0.mk (Kd.R_below HG6.out hd.below); clear hd)))
      refine start_ (n := 5) (S := fun w' => w'.cell? ⟨w4.heap.size, 0, none⟩ = some (.int .i64 x) ∧ w'.cell? ⟨w4.heap.size, 1, none⟩ = some (.slice Ax le.length cx) ∧ w'.cell? ⟨w.heap.size, 0, none⟩ = some (.int .i64 x) ∧ w'.cell? ⟨w.heap.size, 1, none⟩ = some (.slice A l.length c)) (ds := []) #[false, false, false, false, false] (by kernel_rfl) rfl rfl ⟨(HXC.out w7.drew H87.out.drew).1, (HXC.out w7.drew H87.out.drew).2, (HX0.out w7.drew HA7.out.drew).1, (HX0.out w7.drew HA7.out.drew).2⟩ (fun hHeld => ?_)
      refine take_ (i := 0) (N := some 54) (v := ?_) (a' := ?_) #[true, false, false, false, false] rfl rfl (by kernel_rfl) (fun _ _ _ h => h) (Or.inl ⟨by rfl, ?_⟩) hHeld ?_ ?_
      rotate_left
      · rintro w' ⟨s0, s1, s2, s3⟩
        go_simp
        with_reducible rfl
      rotate_left
      · simp only [Act.put, List.setIfInBounds_toArray, List.set_cons_zero, List.set_cons_succ, i64_w, i32_w]
        rfl
      refine take_ (i := 1) (N := some 55) (v := ?_) (a' := ?_) #[true, true, false, false, false] rfl rfl (by kernel_rfl) (fun _ _ _ h => h) (Or.inl ⟨by rfl, ?_⟩) hHeld ?_ ?_
      rotate_left
      · rintro w' ⟨s0, s1, s2, s3⟩
        go_simp
        with_reducible rfl
      rotate_left
      · simp only [Act.put, List.setIfInBounds_toArray, List.set_cons_zero, List.set_cons_succ, i64_w, i32_w]
        rfl
      refine one_ (i := 2) (N := some 56) #[true, true, true, false, false] rfl rfl (by kernel_rfl) (by decide) (fun K hK => ?_)
      refine goes_ Try.func18 (by kernel_rfl) rfl #[.agg #[.int .i64 x, .slice A l.length c]] (by rfl) rfl rfl (by simp only [List.map_toArray, List.map_cons, List.map_nil]; rfl) ?_
      with_reducible refine (laws_toWords.calls k1 x A c l x le _ (Kd.C_below HR.out (below_then HB0.out HSZ.out HA7.out.drew)) HC.out E1.out).mono ?_
      rintro e w8 ⟨v8, rfl, ho, hb⟩
      refine ⟨_, rfl, ?_⟩
      have HA8_ := Aside0.mk (below_step HA7.out.drew hb)
      have H88_ := Aside0.mk (below_step H87.out.drew hb)
      have HS8_ := Aside0.mk (below_step HS7.out.drew hb)
      have HG8_ := Aside0.mk (Kd.R_below (Kd.R_drew HG7.out) hb)
      have HX8_ := Aside0.mk (Kd.R_below (Kd.R_drew HX7.out) hb)
      have HT8_ := Aside0.mk (Kd.R_below (Kd.R_drew HT7.out) hb)
      obtain ⟨A8, c8, rfl, hl8, hC8⟩ := Kd.S_reads ho
      have HC8 := Aside0.mk hC8
      have HL8 := Aside0.mk hl8
      clear ho hb hC8 hl8
      refine hK.out _ _ ⟨(HXC.out w8 H88_.out).1, (HXC.out w8 H88_.out).2, (HX0.out w8 HA8_.out).1, (HX0.out w8 HA8_.out).2⟩ (fun hHeld => ?_)
      clear hK K
      refine norm_ (a' := ?_) ?_ ?_
      rotate_left
      · show Act.put _ (some 56) _ = _
        simp only [Act.put, List.setIfInBounds_toArray, List.set_cons_zero, List.set_cons_succ, i64_w, i32_w]
        rfl
      refine one_ (i := 3) (N := some 57) #[true, true, true, true, false] rfl rfl (by kernel_rfl) (by decide) (fun K hK => ?_)
      refine goes_ Try.func22 (by kernel_rfl) rfl #[.agg #[.int .i64 x, .slice Ax le.length cx], .agg #[.int .i64 x, .slice A8 le.length c8]] (by rfl) rfl rfl (by simp only [List.map_toArray, List.map_cons, List.map_nil]; rfl) ?_
      with_reducible refine (laws_eqWords.calls k4 x Ax cx le x A8 c8 le true _ (Kd.R_reads' HX8_.out).2.2 HLX.out HC8.out HL8.out E4.out).mono ?_
      rintro e w9 ⟨rfl, hb⟩
      refine ⟨_, rfl, ?_⟩
      have HA9 := Aside0.mk (below_step HA8_.out hb)
      have H89 := Aside0.mk (below_step H88_.out hb)
      have HS9 := Aside0.mk (below_step HS8_.out hb)
      have HG9 := Aside0.mk (Kd.R_below HG8_.out hb)
      have HX9 := Aside0.mk (Kd.R_below HX8_.out hb)
      have HT9 := Aside0.mk (Kd.R_below HT8_.out hb)
      clear hb
      refine hK.out _ _ ⟨(HXC.out w9 H89.out).1, (HXC.out w9 H89.out).2, (HX0.out w9 HA9.out).1, (HX0.out w9 HA9.out).2⟩ (fun hHeld => ?_)
      clear hK K
      refine norm_ (a' := ?_) ?_ ?_
      rotate_left
      · show Act.put _ (some 57) _ = _
        simp only [Act.put, List.setIfInBounds_toArray, List.set_cons_zero, List.set_cons_succ, i64_w, i32_w]
        rfl
      refine pure_ (i := 4) (N := some 58) (v := ?_) (a' := ?_) #[true, true, true, true, true] rfl rfl (by kernel_rfl) (fun _ _ _ h => h) (Or.inl ⟨by rfl, ?_⟩) ?_ ?_
      rotate_left
      · intro w'
        go_simp
        with_reducible rfl
      rotate_left
      · simp only [Act.put, List.setIfInBounds_toArray, List.set_cons_zero, List.set_cons_succ, i64_w, i32_w]
        rfl
      refine done_ (by kernel_rfl) ?_
      go_upto_region 31 with (first | (go_at_call 19; go_loud ((with_reducible refine (laws_toStringS.calls k1s B d ws ws _ (Kd.C_below HSW.out (below_then HB0.out HSZ.out HA9.out)) HD.out E1s.out).mono ?_); rintro e w10 ⟨v10, rfl, ho, hb⟩; have HA10 := Aside0.mk (below_step HA9.out hb); have HS10 := Aside0.mk (below_step HS9.out hb); have H810 := Aside0.mk (below_step H89.out hb); have HX10 := Aside0.mk (Kd.R_below HX9.out hb); have HT10 := Aside0.mk (Kd.R_below HT9.out hb); have HG10 := Aside0.mk (Kd.R_below HG9.out hb); obtain ⟨B10, d10, rfl, hd10, hD10⟩ := Kd.R_reads ho; have HD10 := Aside0.mk hD10; have HE10 := Aside0.mk hd10; clear ho hb hD10 hd10)) | (go_at_call 23; go_loud ((with_reducible refine (laws_eqStringS.calls k4s B5 d5 ws B10 d10 ws true _ (Kd.R_reads' HT10.out).2.2 HE5.out HD10.out HE10.out E4s.out).mono ?_); rintro e w11 ⟨rfl, hd⟩; have HA11 := Aside0.mk (below_step HA10.out hd.below); have HS11 := Aside0.mk (below_step HS10.out hd.below); have H811 := Aside0.mk (below_step H810.out hd.below); have HX11 := Aside0.mk (Kd.R_below HX10.out hd.below); have HT11 := Aside0.mk (Kd.R_below HT10.out hd.below); have HG11 := Aside0.mk (Kd.R_below HG10.out hd.below); clear hd; obtain ⟨hd0, hd1⟩ := HXC.out w11 H811.out)) | (go_at_call 24; go_loud (have hcal := MkE.mkW_calls w3.heap.size _ x _ le 1 w11 HX11.out ES.out (by decide); rw [show ((1 : Nat) : Int) = 1 from rfl] at hcal; (with_reducible refine (hcal).mono ?_); rintro e w12 ⟨⟨r12, hr0, hr1, rfl⟩, hm⟩; have HA12 := Aside0.mk (hm.under HA11.out (below_size HA11.out) (fun k hk => Nat.le_trans (below_size HA3.out) hk.1)); have HS12 := Aside0.mk (hm.under HS11.out (below_size HS11.out) (fun k hk => hk.1)); have HT12 := Aside0.mk (Kd.R_kept HT11.out hm.2.1 (fun k hk hs => Nat.lt_irrefl _ (Nat.lt_of_lt_of_le hs.2 (Nat.le_trans (below_size HA48.out) hk.1)))); have HG12 := Aside0.mk (Kd.R_kept HG11.out hm.2.1 (fun k hk hs => Nat.lt_irrefl _ (Nat.lt_of_lt_of_le hs.2 (Nat.le_trans (Nat.le_trans (below_size HA48.out) (below_size H85.out)) hk.1)))); obtain ⟨m12, hm12⟩ : ∃ m : Nat, r12 = (m : Int) := ⟨r12.toNat, by omega⟩; subst hm12; have HM12 : Aside0 (m12 ≤ 4398046511104) := ⟨by omega⟩; clear hm hr0 hr1 hcal hd0 hd1)) | (go_at_call 25; go_loud ((with_reducible refine (MkS.mkS_calls (.slice B5 ws.length d5) ws.length m12 w12 (row1 HT12.out) EWL.out HM12.out).mono ?_); rintro e w13 ⟨⟨r13, hr0, rfl⟩, hm⟩; have HA13 := Aside0.mk (hm.under HA12.out (below_size HA12.out) (fun k hk => Nat.le_trans (below_size HAW.out) (HT12.out.1 k hk.symm).1)); have HS13 := Aside0.mk (hm.under HS12.out (below_size HS12.out) (fun k hk => Nat.le_trans (below_size HSW8.out) (HT12.out.1 k hk.symm).1)); have HG13 := Aside0.mk (Kd.R_kept HG12.out hm.2.1 (fun k hk hs => Nat.lt_irrefl _ (Nat.lt_of_lt_of_le (HT12.out.1 k hs.symm).2 hk.1))); have hr13b : decide (r13 < 0) = false := decide_eq_false (by omega); clear hm hr0)) | (go_at_call 21; go_loud ((with_reducible refine (laws_eqIntS.calls k3 Ag cg p As cs p true _ (Kd.R_reads' HG13.out).2.2 HLG.out (Kd.C_below HCS.out HS13.out) HLS.out E3.out).mono ?_); rintro e w14 ⟨rfl, hd⟩; have HA14 := Aside0.mk (below_step HA13.out hd.below); have HS14 := Aside0.mk (below_step HS13.out hd.below); have HG14 := Aside0.mk (Kd.R_below HG13.out hd.below); clear hd)) | (go_at_call 26; go_loud ((with_reducible refine (laws_markIntS.calls k5 (fun k_ => some k_ = (Value.slice Ag p.length cg).ownBlock) (.slice Ag p.length cg) p 1 z q w _ (below_then HB0.out HSZ.out HA14.out) (Kd.R_tight rfl (Kd.R_lower HG14.out (Nat.le_trans HSZ.out (below_size HA5.out)))) E5.out).mono ?_); rintro e w15 ⟨rfl, hy, hb, hkp⟩; have HA15 := Aside0.mk (under2 HA14.out (below_size HA14.out) hkp (below_then HB0.out HSZ.out HA14.out) hb (fun k hk => Nat.le_trans (below_size HA5.out) (HG14.out.1 k hk.symm).1)); have HS15 := Aside0.mk (under2 HS14.out (below_size HS14.out) hkp (below_then HB0.out HSZ.out HA14.out) hb (fun k hk => Nat.le_trans (below_size HS5.out) (HG14.out.1 k hk.symm).1)); have HQ15 := Aside0.mk (Kd.R_mono (ok' := fun _ => True) hy (fun _ _ => trivial)); clear hy hb hkp)) | (go_at_call 27; go_loud (have hcal := laws_heldIntS.calls k6 Ag cg q 1 z w15 (reads_q HQ15.out).2 (by rw [EQ.out]; exact HLG.out) E6.out; rw [EQ.out] at hcal; (with_reducible refine (hcal).mono ?_); rintro e w16 ⟨rfl, hd⟩; have HA16 := Aside0.mk (below_step HA15.out hd.below); have HS16 := Aside0.mk (below_step HS15.out hd.below); have HQ16 := Aside0.mk (Kd.R_below HQ15.out hd.below); clear hd hcal)))
      obtain ⟨hc0, hc1⟩ := HX0.out w16 HA16.out
      go_wp2_with (first | (go_at_call 18; go_loud ((with_reducible refine (laws_toWords.calls k1 x A c l x le _ (Kd.C_below HR.out (below_then HB0.out HSZ.out HA16.out)) HC.out E1.out).mono ?_); rintro e w17 ⟨v17, rfl, ho, hb⟩; have HA17 := Aside0.mk (below_step HA16.out hb); have HS17 := Aside0.mk (below_step HS16.out hb); have HQ17 := Aside0.mk (Kd.R_below HQ16.out hb); obtain ⟨A17, c17, rfl, hl17, hC17⟩ := Kd.S_reads ho; have HC17 := Aside0.mk hC17; have HL17 := Aside0.mk hl17; clear ho hb hC17 hl17 hc0 hc1)) | (go_at_call 19; go_loud ((with_reducible refine (laws_toStringS.calls k1s B d ws ws _ (Kd.C_below HSW.out (below_then HB0.out HSZ.out HA17.out)) HD.out E1s.out).mono ?_); rintro e w18 ⟨v18, rfl, ho, hb⟩; have HA18 := Aside0.mk (below_step HA17.out hb); have HS18 := Aside0.mk (below_step HS17.out hb); have HQ18 := Aside0.mk (Kd.R_below HQ17.out hb); have HC18 := Aside0.mk (Kd.C_below HC17.out hb); obtain ⟨B18, d18, rfl, hd18, hD18⟩ := Kd.R_reads ho; have HD18 := Aside0.mk hD18; have HE18 := Aside0.mk hd18; clear ho hb hD18 hd18)) | (go_at_call 20; go_loud (have hcal := ByAll.calls x A17 c17 le B18 d18 ws w18 HC18.out HL17.out ES.out HD18.out EW.out; rw [EP.out] at hcal; (with_reducible refine (hcal).mono ?_); rintro e w19 ⟨vh, rfl, ho, hb⟩; have HA19 := Aside0.mk (below_step HA18.out hb); have HS19 := Aside0.mk (below_step HS18.out hb); have HQ19 := Aside0.mk (Kd.R_below HQ18.out hb); obtain ⟨Ah, ch, rfl, hlh, hCh⟩ := Kd.R_reads ho; have HCH := Aside0.mk hCh; have HLH := Aside0.mk hlh; clear ho hb hCh hlh hcal)) | (go_at_call 21; go_loud ((with_reducible refine (laws_eqIntS.calls k3 Ah ch p As cs p true _ HCH.out HLH.out (Kd.C_below HCS.out HS19.out) HLS.out E3.out).mono ?_); rintro e w20 ⟨rfl, hd⟩; have HA20 := Aside0.mk (below_step HA19.out hd.below); have HS20 := Aside0.mk (below_step HS19.out hd.below); have HQ20 := Aside0.mk (Kd.R_below HQ19.out hd.below); clear hd)) | (go_at_call 27; go_loud (have hcal := laws_heldIntS.calls k6 Ag cg q 1 z w20 (reads_q HQ20.out).2 (by rw [EQ.out]; exact HLG.out) E6.out; rw [EQ.out] at hcal; (with_reducible refine (hcal).mono ?_); rintro e w21 ⟨rfl, hd⟩; have HA21 := Aside0.mk (below_step HA20.out hd.below); clear hd hcal)))
      go_ret
      exact ⟨rfl, below_then HB0.out HSZ.out HA21.out⟩
end Go.Proofs.Ytaomjndfjmfelaa.LwAll
end

section
-- Written by a program of this session (pprint.py) out of the translation's print; Lean checks it.
namespace Go.Proofs.Ytaomjndfjmfelaa.PQ
open Go.RowKit Go.Proofs.YtaomjndfjmfelaaW.PrintWords Go.Proofs.YtaomjndfjmfelaaW.PrintLast Go.Proofs.YtaomjndfjmfelaaW.PrintMore
attribute [local go_sem] max2_int min2_int max_two min_two max_three min_three max_four min_four   -- for this text's walks alone
set_option linter.unusedVariables false
set_option linter.unusedSimpArgs false

--OWNPART laws_FnExactWithAll
/-! ### laws_FnExactWithAll: function 3, by hand -/
--IMPORT LwByAll
def laws_FnExactWithAll.Pure : Prop := True
theorem laws_FnExactWithAll.walk (P : laws_FnExactWithAll.Pure) (a0_0 : Int) (A0_1 : Option Addr) (c0_1 : Nat) (l0_1 : List (S140)) (A1 : Option Addr) (c1 : Nat) (l1 : List ByteArray) (w : World) (w0_0 : (Lit.int .i64 a0_0).wf = true) (hr0_1 : Kd.C k140 w A0_1 l0_1.length l0_1) (hc0_1 : l0_1.length ≤ c0_1) (w0_1 : (l0_1.length ≤ maxLen ∧ ∀ x_ ∈ l0_1, (x_.f0.size ≤ maxLen ∧ (x_.f1.length ≤ maxLen ∧ ∀ xx_ ∈ x_.f1, ((Lit.int .i64 xx_.f0).wf = true ∧ (Lit.int .i64 xx_.f1).wf = true))))) (hr1 : Kd.C Kd.string w A1 l1.length l1) (hc1 : l1.length ≤ c1) (w1 : (l1.length ≤ maxLen ∧ ∀ x_ ∈ l1, x_.size ≤ maxLen)) :
    Calls Try.prog 3 #[.agg #[.int .i64 a0_0, .slice A0_1 l0_1.length c0_1], .slice A1 l1.length c1] w fun e w' => e = .returned (.bool true) ∧ Below w.heap.size w w' :=
  LwAll.calls a0_0 A0_1 c0_1 l0_1 A1 c1 l1 w hr0_1 hc0_1 ⟨w0_1.1, fun e he => ⟨(w0_1.2 e he).1, (w0_1.2 e he).2.1⟩⟩ hr1 hc1 w1

end Go.Proofs.Ytaomjndfjmfelaa.PQ
end

section
/- The law FnExactWithAll: nothing is left beside its walk. No conditions. -/
namespace Go.Proofs.Ytaomjndfjmfelaa.Pure
open Go.Proofs.Ytaomjndfjmfelaa.PQ
theorem FnExactWithAll : laws_FnExactWithAll.Pure := trivial
end Go.Proofs.Ytaomjndfjmfelaa.Pure
end
