/- Several texts in one: what the claim's last text rests on. No conditions. -/
import Derived.Test.YtaomjndfjmfelaaMRt20
import Derived.Lib.BufferMore
import Derived.Test.YtaomjndfjmfelaaMRt13
import Derived.Test.YtaomjndfjmfelaaMRt6
import Derived.Test.YtaomjndfjmfelaaMRt7
import Derived.Test.YtaomjndfjmfelaaMRt18
section
namespace Go.Proofs.Ytaomjndfjmfelaa.PostW
set_option linter.unusedVariables false
set_option linter.unusedSimpArgs false
open Go.RowKit Go.Proofs.Ytaomjndfjmfelaa.PQ Go.Proofs.YtaomjndfjmfelaaW.PrintWords Go.Proofs.YtaomjndfjmfelaaW.PrintLast Go.Proofs.YtaomjndfjmfelaaW.PrintMore Go.Proofs.Ytaomjndfjmfelaa.Pre Go.Proofs.Ytaomjndfjmfelaa.Posts Go.Proofs.Ytaomjndfjmfelaa.GoodW Go.Proofs.Ytaomjndfjmfelaa.CmpL Go.Proofs.Ytaomjndfjmfelaa.EntW
theorem entryOf_calls (A : Option Addr) (c : Nat) (l : List En) (t : ByteArray) (w : World) (hr : Kd.C k102 w A l.length l) (hc : l.length ≤ c) (hl : l.length ≤ 1048576) (hs : Rise l) :
  Calls Try.prog 81 #[.slice A l.length c, .string t] w fun e w' => ∃ i : Nat, At l t i ∧ e = .returned (.tuple #[.int .i64 (i : Int), .bool (isAt l t i)]) ∧ Below w.heap.size w w' := by
 have HC := aM (search_calls A c l t w hr hc hl hs)
 clear hr hc hl hs
 go_enter Try.func81, Try.ntmps81
 go_wp2_with (first | (go_at_call 127; go_loud ((with_reducible refine HC.out.mono ?_); rintro e w2 ⟨i, HA, rfl, hb⟩; have HA2 := aM HA; have HB2 := aM hb; clear HA hb)))
 go_ret2
 exact ⟨i, HA2.out, rfl, HB2.out⟩
/-- The postings of a word. -/
def posts (l : List En) (t : ByteArray) : List Po := match l.find? (fun e => decide (e.f0 = t)) with | some e => e.f1 | none => []
theorem at_yes (l : List En) (hs : Rise l) (t : ByteArray) (i : Nat) (h : i < l.length) (he : l[i].f0 = t) : posts l t = l[i].f1 := by
 have hf : l.find? (fun e => decide (e.f0 = t)) = some l[i] := by
  rw [List.find?_eq_some_iff_getElem]
  refine ⟨decide_eq_true he, i, h, rfl, fun j hj => ?_⟩
  have hlt := hs j i h hj
  have hne : ¬ l[j].f0 = t := fun e2 => by
   rw [e2, he, ltS_irrefl] at hlt
   cases hlt
  simpa using hne
 unfold posts
 rw [hf]
theorem at_no (l : List En) (hs : Rise l) (t : ByteArray) (i : Nat) (hA : At l t i) (he : isAt l t i = false) : posts l t = [] := by
 have hf : l.find? (fun e => decide (e.f0 = t)) = none := by
  rw [List.find?_eq_none]
  intro x hx
  obtain ⟨j, hj, rfl⟩ := List.getElem_of_mem hx
  intro e
  have e := of_decide_eq_true e
  rcases Nat.lt_trichotomy j i with h | h | h
  ·
   have := hA.2.1 j hj h
   rw [e, ltS_irrefl] at this
   cases this
  ·
   subst h
   exact of_decide_eq_false he ⟨hj, e⟩
  ·
   have h1 := hA.2.2 i (by omega) (Nat.le_refl _)
   have h2 := hs i j hj h
   rw [e] at h2
   rw [h1] at h2
   cases h2
 unfold posts
 rw [hf]
set_option maxRecDepth 100000 in
set_option maxHeartbeats 1000000 in
theorem postings_at (w0 : World) (A : Option Addr) (c : Nat) (l : List En) (t : ByteArray) (w : World) (b : Nat) (hcl : ∀ w', Below w.heap.size w w' → w'.cell? ⟨b, 1, none⟩ = some (.slice A l.length c)) (hw0 : Below w0.heap.size w0 w) (hr : Kd.C k102 w0 A l.length l) (hc : l.length ≤ c) (hl : l.length ≤ 1048576) (hs : Rise l) (hne : ∀ e ∈ l, 0 < e.f1.length) :
  Calls Try.prog 93 #[.pointer (some ⟨b, 0, none⟩), .string t] w fun e w' => ∃ A' c', e = .returned (.slice A' (posts l t).length c') ∧ (posts l t).length ≤ c' ∧ Kd.C k56 w0 A' (posts l t).length (posts l t) ∧ ((A' = none ∧ c' = 0) ∨ 0 < (posts l t).length) ∧ Below w.heap.size w w' := by
 have HCL := aM hcl
 have HR := aM hr
 have HW0 := aM hw0
 have HC := aM hc
 have HL := aM hl
 have HS := aM hs
 have h0 := hcl w (Below.refl _ _)
 clear hcl hr hc hl hs hw0
 go_enter Try.func93, Try.ntmps93
 go_upto_region 2 with (first | (go_at_call 81; go_loud ((with_reducible refine (entryOf_calls A c l t _ (Kd.C_below HR.out HW0.out) HC.out HL.out HS.out).mono ?_); rintro e w2 ⟨i, HA, rfl, hb⟩; have HA2 := aM HA; have HB2 := aM hb; have h1 := HCL.out w2 HB2.out; clear HA hb)))
 by_cases hy : isAt l t i = true
 ·
  have hi : i < l.length := (of_decide_eq_true hy).1
  have he : l[i].f0 = t := (of_decide_eq_true hy).2
  have p1 : (0 : Int) ≤ (i : Int) := by omega
  have q1 : (i : Int) < (l.length : Int) := by omega
  obtain ⟨ad, A1, c1, rfl, hx0, hx1, hl1, hC1⟩ := at_T102 HR.out (i : Int) p1 q1
  replace hx1 := ((below_step HW0.out HB2.out).cell (World.block_lt_of_cell? w0 _ hx1)).trans hx1
  rw [Int.toNat_natCast] at hx1
  rw [rd_en l i hi] at hx1 hl1 hC1
  obtain ⟨x, hxe⟩ : ∃ x, x = l[i] := ⟨_, rfl⟩
  rw [← hxe] at hx1 hl1 hC1
  have HP := aM ((at_yes l HS.out t i hi he).trans (by rw [hxe] : l[i].f1 = x.f1))
  have HNE := aM (hne x (by rw [hxe]; exact List.getElem_mem hi))
  have HC1 := aM hC1
  have HL1 := aM hl1
  clear hx0 hl1 hC1 he hxe hi
  replace p1 := eq_true p1
  replace q1 := eq_true q1
  go_wp2
  go_ret
  rw [HP.out]
  exact ⟨A1, c1, rfl, HL1.out, HC1.out, .inr HNE.out, HB2.out⟩
 ·
  have hy := Bool.eq_false_iff.2 hy
  have HP := aM (at_no l HS.out t i HA2.out hy)
  go_wp2
  go_ret
  rw [HP.out]
  exact ⟨none, 0, rfl, Nat.zero_le _, Kd.C_nil _ _, .inl ⟨rfl, rfl⟩, HB2.out⟩
theorem rise_of_good {x : Int} {l : List En} (h : goodW x l = true) : Rise l := by
 have hadj : ∀ i (hi : i + 1 < l.length), ltS (l[i]'(by omega)).f0 l[i + 1].f0 = true := by
  intro i hi
  unfold goodW at h
  rw [Bool.and_eq_true, List.all_eq_true] at h
  have he := h.2 (i + 1) (by rw [List.mem_range'_1]; omega)
  unfold entOK at he
  simp only [Bool.and_eq_true, Bool.or_eq_true] at he
  obtain ⟨⟨⟨_, h1⟩, _⟩, _⟩ := he
  rcases h1 with h1 | h1
  ·
   exact absurd (of_decide_eq_true h1) (by omega)
  ·
   rw [show (((i + 1 : Nat) : Int) - 1) = (i : Int) by omega, rd_en l i (by omega), rd_en l (i + 1) hi] at h1
   exact h1
 intro i j hj hij
 induction j with
 | zero => omega
 | succ j ih =>
  rcases Nat.lt_or_ge i j with h1 | h1
  ·
   exact ltS_trans (ih (by omega) h1) (hadj j hj)
  ·
   obtain rfl : i = j := by omega
   exact hadj i hj
theorem ne_of_good {x : Int} {l : List En} (h : goodW x l = true) : ∀ e ∈ l, 0 < e.f1.length := by
 intro e hm
 obtain ⟨i, hi, rfl⟩ := List.getElem_of_mem hm
 unfold goodW at h
 rw [Bool.and_eq_true, List.all_eq_true] at h
 have he := h.2 i (by rw [List.mem_range'_1]; omega)
 unfold entOK at he
 simp only [Bool.and_eq_true, rd_en l i hi] at he
 obtain ⟨⟨_, h1⟩, _⟩ := he
 have h2 : ¬ l[i].f1.length = 0 := by simpa using h1
 omega
theorem small_posts {l : List En} (h : Small l) (t : ByteArray) : (posts l t).length ≤ 1048576 := by
 unfold posts
 cases hf : l.find? (fun e => decide (e.f0 = t)) with
 | none => simp
 | some e => exact (h.2 e (List.mem_of_find?_eq_some hf)).2
end Go.Proofs.Ytaomjndfjmfelaa.PostW
end

section
namespace Go.Proofs.Ytaomjndfjmfelaa.Ask
set_option linter.unusedVariables false
set_option linter.unusedSimpArgs false
open Go.RowKit Go.Proofs.Ytaomjndfjmfelaa.PQ Go.Proofs.YtaomjndfjmfelaaW.PrintWords Go.Proofs.YtaomjndfjmfelaaW.PrintLast Go.Proofs.YtaomjndfjmfelaaW.PrintMore Go.Proofs.Ytaomjndfjmfelaa.Pre Go.Proofs.Ytaomjndfjmfelaa.Posts Go.Proofs.Ytaomjndfjmfelaa.GoodW
def notW (s : ByteArray) : Bool := !isW s
theorem lit_calls (s : ByteArray) (w : World) (hs : s.size ≤ 1048576) : Calls Try.prog 152 #[.string s] w fun e w' => e = .returned (.bool (notW s)) ∧ Below w.heap.size w w' := by
 obtain ⟨k, hk⟩ := (isWord_ev s hs).ex
 have E := aM hk
 obtain ⟨b, hb⟩ : ∃ b, b = isW s := ⟨_, rfl⟩
 unfold notW
 rw [← hb] at E ⊢
 clear hk hb
 go_enter Try.func152, Try.ntmps152
 go_wp2_with (first | (go_at_call 89; go_loud ((with_reducible refine (impl_isWord.calls k s b _ E.out).mono ?_); rintro e w2 ⟨rfl, hd⟩; have HB2 := aM hd.below; clear hd)))
 go_ret
 exact ⟨rfl, HB2.out⟩
theorem str_at {w : World} {A : Option Addr} {xs : List ByteArray} (h : Kd.C Kd.string w A xs.length xs) (i : Nat) (hi : i < xs.length) : ∃ ad, A = some ad ∧ w.cell? (ad.add i) = some (.string xs[i]) := by
 obtain ⟨ad, c, e, _, hK, hc0⟩ := Kd.C_get h ByteArray.empty (i : Int) (by omega) (by omega)
 rw [Int.toNat_natCast, List.getD_eq_getElem?_getD, List.getElem?_eq_getElem hi] at hK
 rw [Int.toNat_natCast] at hc0
 have hk : c = [.string xs[i]] := hK
 subst hk
 refine ⟨ad, e, ?_⟩
 have h1 := hc0 0 _ rfl
 rw [show Kd.string.sz = 1 from rfl, Nat.mul_one, Nat.add_zero] at h1
 exact h1
def SmallS (l : List ByteArray) : Prop := l.length ≤ 1048576 ∧ ∀ s ∈ l, s.size ≤ 1048576
set_option maxHeartbeats 1000000 in
theorem index_calls (A : Option Addr) (c : Nat) (l : List ByteArray) (w : World) (hr : Kd.C Kd.string w A l.length l) (hl : SmallS l) :
  Calls Try.prog 165 #[.slice A l.length c, .func (.func 152) #[] #[]] w fun e w' => ∃ r : Int, e = .returned (.int .i64 r) ∧ decide ((0 : Int) ≤ r) = l.any notW ∧ Below w.heap.size w w' := by
 have HR := aM hr
 have HL := aM hl
 have HL1 := aM hl.1
 clear hr hl
 go_enter Try.func165, Try.ntmps165
 go_wp2
 go_loopg [8] l.length (fun kq v8 w' => ∃ i : Nat, v8 = .int .i64 (i : Int) ∧ i ≤ l.length ∧ kq = l.length - i ∧ Aside0 ((l.take i).any notW = false) ∧ Aside0 (Below w.heap.size w w'))
 case atStart => exact ⟨0, rfl, by omega, by omega, ⟨by simp⟩, ⟨Below.refl _ _⟩⟩
 case round =>
  obtain ⟨i, rfl, hi, hk, HE, HB⟩ := hrel
  by_cases hlt : i < l.length
  ·
   have HI := aM hlt
   have p1 : (0 : Int) ≤ (i : Int) := by omega
   have q1 : (i : Int) < (l.length : Int) := by omega
   obtain ⟨ad, rfl, hx0⟩ := str_at HR.out i hlt
   replace hx0 := (HB.out.cell (World.block_lt_of_cell? w _ hx0)).trans hx0
   obtain ⟨x, hxe⟩ : ∃ x, x = l[i] := ⟨_, rfl⟩
   rw [← hxe] at hx0
   have HX : Aside0 (x.size ≤ 1048576) := ⟨by rw [hxe]; exact HL.out.2 _ (List.getElem_mem hlt)⟩
   have HT : Aside0 ((l.take (i + 1)).any notW = notW x) := ⟨by rw [List.take_succ_eq_append_getElem hlt, List.any_append, HE.out, ← hxe]; simp⟩
   have HM : Aside0 (notW x = true → l.any notW = true) := ⟨fun h => List.any_eq_true.2 ⟨x, by rw [hxe]; exact List.getElem_mem hlt, h⟩⟩
   clear hxe
   obtain ⟨b, hb⟩ : ∃ b, b = notW x := ⟨_, rfl⟩
   have HBB := aM hb
   clear hb
   cases b with
   | true =>
    go_wp2_with (first | (go_at_call 152; go_loud ((with_reducible refine (lit_calls x _ HX.out).mono ?_); rintro e w2 ⟨rfl, hb⟩; rw [← HBB.out]; have HB2 := aM (below_step HB.out hb); clear hb)))
    go_ret
    exact ⟨_, rfl, by rw [HM.out HBB.out.symm]; simp, HB2.out⟩
   | false =>
    go_wp2_with (first | (go_at_call 152; go_loud ((with_reducible refine (lit_calls x _ HX.out).mono ?_); rintro e w2 ⟨rfl, hb⟩; rw [← HBB.out]; have HB2 := aM (below_step HB.out hb); clear hb)))
    go_roundg (l.length - (i + 1))
    case measure => have := HI.out; omega
    case rel => exact ⟨i + 1, by have := HL1.out; have := HI.out; first | go_num | (rw [w64 (by omega) (by omega)]; go_num), by have := HI.out; omega, by omega, ⟨HT.out.trans HBB.out.symm⟩, HB2⟩
  ·
   obtain rfl : i = l.length := by omega
   go_wp2
   go_ret
   exact ⟨-1, rfl, by rw [show l.any notW = false from by have h_ := HE.out; rwa [List.take_length] at h_]; rfl, HB.out⟩
theorem contains_calls (A : Option Addr) (c : Nat) (l : List ByteArray) (w : World) (hr : Kd.C Kd.string w A l.length l) (hl : SmallS l) :
  Calls Try.prog 151 #[.slice A l.length c, .func (.func 152) #[] #[]] w fun e w' => e = .returned (.bool (l.any notW)) ∧ Below w.heap.size w w' := by
 have HR := aM hr
 have HL := aM hl
 clear hr hl
 go_enter Try.func151, Try.ntmps151
 go_wp2_with (first | (go_at_call 165; go_loud ((with_reducible refine (index_calls A c l _ HR.out HL.out).mono ?_); rintro e w2 ⟨r, rfl, hr2, hb⟩; have HB2 := aM hb; clear hb)))
 go_ret
 exact ⟨rfl, HB2.out⟩
/-- Words may be asked for. -/
def asked (x : Int) (l : List En) (ws : List ByteArray) (most : Int) : Bool := goodW x l && decide ((ws.length : Int) ≤ most) && !ws.any notW
set_option maxRecDepth 100000 in
set_option maxHeartbeats 1000000 in
theorem calls (x : Int) (A : Option Addr) (c : Nat) (l : List En) (B : Option Addr) (d : Nat) (ws : List ByteArray) (most : Int) (w : World) (hr : Kd.C k102 w A l.length l) (hc : l.length ≤ c) (hl : Small l) (hs : Kd.C Kd.string w B ws.length ws) (hsl : SmallS ws) :
  Calls Try.prog 122 #[.agg #[.int .i64 x, .slice A l.length c], .slice B ws.length d, .int .i64 most] w fun e w' => e = .returned (.bool (asked x l ws most)) ∧ Below w.heap.size w w' := by
 have HR := aM hr
 have HC := aM hc
 have HS := aM hs
 have HSL := aM hsl
 obtain ⟨kg, hg⟩ := (impl_ev x l hl).ex
 obtain ⟨bg, hbg⟩ : ∃ b, b = goodW x l := ⟨_, rfl⟩
 obtain ⟨bw, hbw⟩ : ∃ b, b = ws.any notW := ⟨_, rfl⟩
 rw [← hbg] at hg
 have HG := aM hg
 have HBW := aM hbw
 have HB0 := aM (below_alloc (Below.refl w.heap.size w) (.cells #[.int .i64 x, .slice A l.length c] 33))
 have HSZ : Aside0 (w.heap.size ≤ (w.alloc (.cells #[.int .i64 x, .slice A l.length c] 33)).heap.size) := ⟨by simp⟩
 unfold asked
 rw [← hbg, ← hbw]
 clear hg hr hc hl hs hsl hbg hbw
 cases bg with
 | false =>
  go_enter Try.func122, Try.ntmps122
  go_wp2_with (first | (go_at_call 38; go_loud ((with_reducible refine (impl_GoodWords.calls kg x A c l _ _ (Kd.C_alloc HR.out _) HC.out HG.out).mono ?_); rintro e w2 ⟨rfl, hb⟩; have HB2 := aM (below_then HB0.out HSZ.out hb); clear hb)))
  go_ret
  exact ⟨rfl, HB2.out⟩
 | true =>
  by_cases hm : (ws.length : Int) ≤ most
  ·
   have hmb : decide ((ws.length : Int) ≤ most) = true := decide_eq_true hm
   rw [hmb]
   have HMB := aM hmb
   clear hm
   go_enter Try.func122, Try.ntmps122
   go_wp2_with (first | (go_at_call 38; go_loud ((with_reducible refine (impl_GoodWords.calls kg x A c l _ _ (Kd.C_alloc HR.out _) HC.out HG.out).mono ?_); rintro e w2 ⟨rfl, hb⟩; have HB2 := aM (below_then HB0.out HSZ.out hb); clear hb)) | (go_at_call 151; go_loud ((with_reducible refine (contains_calls B d ws _ (Kd.C_below HS.out HB2.out) HSL.out).mono ?_); rintro e w3 ⟨rfl, hb⟩; rw [← HBW.out]; have HB3 := aM (below_step HB2.out hb); clear hb)))
   go_ret
   exact ⟨by simp, HB3.out⟩
  ·
   have hmb : decide ((ws.length : Int) ≤ most) = false := decide_eq_false hm
   rw [hmb]
   clear hm
   go_enter Try.func122, Try.ntmps122
   go_wp2_with (first | (go_at_call 38; go_loud ((with_reducible refine (impl_GoodWords.calls kg x A c l _ _ (Kd.C_alloc HR.out _) HC.out HG.out).mono ?_); rintro e w2 ⟨rfl, hb⟩; have HB2 := aM (below_then HB0.out HSZ.out hb); clear hb)))
   go_ret
   exact ⟨by simp, HB2.out⟩
end Go.Proofs.Ytaomjndfjmfelaa.Ask
end

section
namespace Go.Proofs.Ytaomjndfjmfelaa.Cnt
set_option linter.unusedVariables false
set_option linter.unusedSimpArgs false
open Go.RowKit Go.Proofs.Ytaomjndfjmfelaa.PQ Go.Proofs.YtaomjndfjmfelaaW.PrintWords Go.Proofs.YtaomjndfjmfelaaW.PrintLast Go.Proofs.YtaomjndfjmfelaaW.PrintMore Go.Proofs.Ytaomjndfjmfelaa.Pre Go.Proofs.Ytaomjndfjmfelaa.Posts Go.Proofs.Ytaomjndfjmfelaa.GoodW Go.Proofs.Ytaomjndfjmfelaa.EntW Go.Proofs.Ytaomjndfjmfelaa.PostW Go.Proofs.Ytaomjndfjmfelaa.Ask

end Go.Proofs.Ytaomjndfjmfelaa.Cnt
end

section
namespace Go.Proofs.Ytaomjndfjmfelaa.ByD
set_option linter.unusedVariables false
open Go.RowKit Go.Proofs.Ytaomjndfjmfelaa.PQ Go.Proofs.YtaomjndfjmfelaaW.PrintWords Go.Proofs.YtaomjndfjmfelaaW.PrintLast Go.Proofs.YtaomjndfjmfelaaW.PrintMore Go.Proofs.Ytaomjndfjmfelaa.Pre Go.Proofs.Ytaomjndfjmfelaa.GoodW Go.Proofs.Ytaomjndfjmfelaa.Ask

end Go.Proofs.Ytaomjndfjmfelaa.ByD
end

section
namespace Go.Proofs.Ytaomjndfjmfelaa.ByP
set_option linter.unusedVariables false
open Go.RowKit Go.Proofs.Ytaomjndfjmfelaa.PQ Go.Proofs.YtaomjndfjmfelaaW.PrintWords Go.Proofs.YtaomjndfjmfelaaW.PrintLast Go.Proofs.Ytaomjndfjmfelaa.Pre Go.Proofs.Ytaomjndfjmfelaa.Posts Go.Proofs.Ytaomjndfjmfelaa.GoodW Go.Proofs.Ytaomjndfjmfelaa.PostW Go.Proofs.Ytaomjndfjmfelaa.Ask Go.Proofs.Ytaomjndfjmfelaa.Cnt Go.Proofs.Ytaomjndfjmfelaa.ByD
theorem spec_posts (l : List En) (hl : Small l) (x : Int) (t : ByteArray) : Evt (fun k => spec_l10Postings.f k x l t) (posts l t) := by
 have hl1 := hl.1
 unfold spec_l10Postings.f
 have key : ∀ (n i : Nat), i + n = l.length → Evt (fun k => spec_l10Postings.l0 k t l (l.length : Int) (i : Int)) (posts (l.drop i) t) := by
  intro n
  induction n with
  | zero =>
   intro i hi
   refine Evt.step (fun k => spec_l10Postings.l0.eq_2 _ _ _ _ k) (Evt.neg (by omega) ((Evt.const _).eq ?_))
   rw [List.drop_of_length_le (by omega)]
   rfl
  | succ n ih =>
   intro i hi
   have hlt : i < l.length := by omega
   refine Evt.step (fun k => spec_l10Postings.l0.eq_2 _ _ _ _ k) (Evt.pos (by omega) (Evt.pos (by omega) (Evt.pos (by omega) ?_)))
   rw [rd_en l i hlt, w64 (n := (i : Int) + 1) (by omega) (by omega), List.drop_eq_getElem_cons hlt]
   by_cases he : l[i].f0 = t
   ·
    refine Evt.pos (by rw [he]) (Evt.bsome (Evt.pos ?_ ((Evt.const _).eq ?_)))
    ·
     have := (hl.2 _ (List.getElem_mem hlt)).2
     simp
     omega
    ·
     unfold posts
     have h_ : (l[i] :: l.drop (i + 1)).find? (fun e => decide (e.f0 = t)) = some l[i] := List.find?_cons_of_pos (decide_eq_true he)
     rw [h_]
     rfl
   ·
    refine Evt.neg (fun e => he (Byt.toList_inj e)) ((ih (i + 1) (by omega)).eq ?_)
    unfold posts
    have h_ : (l[i] :: l.drop (i + 1)).find? (fun e => decide (e.f0 = t)) = (l.drop (i + 1)).find? (fun e => decide (e.f0 = t)) := List.find?_cons_of_neg (by simpa using he)
    rw [h_]
 exact key l.length 0 (by omega)
end Go.Proofs.Ytaomjndfjmfelaa.ByP
end

section
namespace Go.Proofs.Ytaomjndfjmfelaa.PQ
open Go.RowKit Go.Proofs.YtaomjndfjmfelaaW.PrintWords Go.Proofs.YtaomjndfjmfelaaW.PrintLast Go.Proofs.YtaomjndfjmfelaaW.PrintMore
attribute [local go_sem] max2_int min2_int max_two min_two max_three min_three max_four min_four
set_option linter.unusedVariables false
set_option linter.unusedSimpArgs false
def impl_wordsAsked.f (a0_0 : Int) (l0_1 : List (S102)) (l1 : List ByteArray) (a2 : Int) : Option Bool := if (l0_1.length ≤ 1048576 ∧ ∀ e ∈ l0_1, e.f0.size ≤ 1048576 ∧ e.f1.length ≤ 1048576) ∧ (l1.length ≤ 1048576 ∧ ∀ s ∈ l1, s.size ≤ 1048576) then some (Ask.asked a0_0 l0_1 l1 a2) else none
theorem impl_wordsAsked.calls (a0_0 : Int) (A0_1 : Option Addr) (c0_1 : Nat) (l0_1 : List (S102)) (A1 : Option Addr) (c1 : Nat) (l1 : List ByteArray) (a2 : Int) (r : Bool) (w : World) (hr0_1 : Kd.C k102 w A0_1 l0_1.length l0_1) (hc0_1 : l0_1.length ≤ c0_1) (hr1 : Kd.C Kd.string w A1 l1.length l1) (hc1 : l1.length ≤ c1) (h : impl_wordsAsked.f a0_0 l0_1 l1 a2 = some r) :
  Calls Try.prog 122 #[.agg #[.int .i64 a0_0, .slice A0_1 l0_1.length c0_1], .slice A1 l1.length c1, .int .i64 a2] w fun e w' => e = .returned (.bool r) ∧ Below w.heap.size w w' := by
 unfold impl_wordsAsked.f at h
 split at h
 ·
  rename_i hs
  obtain rfl := Option.some.inj h
  exact Ask.calls a0_0 A0_1 c0_1 l0_1 A1 c1 l1 a2 w hr0_1 hc0_1 hs.1 hr1 hs.2
 ·
  cases h

def impl_scoring.l0 : Nat → List ByteArray → List ByteArray → Int → Int → Option (Bool)
 | 0, _, _, _, _ => none
 | k + 1, x1, x11, x12, x13 => if x13 < x12 then (if 0 ≤ x13 then (if x13 < (x11.length : Int) then (if x13 ≤ (x1.length : Int) then ((slices_Contains_string_string.f k (x1.take (x13 : Int).toNat) (rdOf ByteArray.empty x11 x13)).bind fun t728 => (if t728 = true then (some false) else (impl_scoring.l0 k x1 x11 x12 (wrap64 (x13 + 1))))) else (none)) else (none)) else (none)) else (some true)
def impl_scoring.f (k : Nat) (a0_0 : Int) (l0_1 : List (S102)) (l1 : List ByteArray) : Option (Bool) := (impl_wordsAsked.f a0_0 l0_1 l1 5).bind fun t725 => (if t725 = true then (impl_scoring.l0 k l1 l1 (l1.length : Int) 0) else (some false))
set_option maxHeartbeats 8000000 in
set_option maxRecDepth 100000 in
theorem impl_scoring.calls (k : Nat) (a0_0 : Int) (A0_1 : Option Addr) (c0_1 : Nat) (l0_1 : List (S102)) (A1 : Option Addr) (c1 : Nat) (l1 : List ByteArray) (r : Bool) (w : World) (hr0_1 : Kd.C k102 w A0_1 l0_1.length l0_1) (hc0_1 : l0_1.length ≤ c0_1) (hr1 : Kd.C Kd.string w A1 l1.length l1) (hc1 : l1.length ≤ c1) (h : impl_scoring.f k a0_0 l0_1 l1 = some r) :
  Calls Try.prog 116 #[.agg #[.int .i64 a0_0, .slice A0_1 l0_1.length c0_1], .slice A1 l1.length c1] w fun e w' => e = .returned (.bool r) ∧ Below w.heap.size w w' := by
 have hu33 := Try.underlying33
 have HR0_1 := aM hr0_1
 have HC0_1 := aM hc0_1
 clear hr0_1 hc0_1
 have HR1 := aM hr1
 have HC1 := aM hc1
 clear hr1 hc1
 have HB := aM (Below.refl w.heap.size w)
 have H : ((impl_wordsAsked.f a0_0 l0_1 l1 5).bind fun t725 => (if t725 = true then (impl_scoring.l0 k l1 l1 (l1.length : Int) 0) else (some false))) = some r := h
 clear h
 replace H := Option.bind_eq_some_iff.mp H
 obtain ⟨t725, A30, H⟩ := H
 replace H : (if t725 = true then (impl_scoring.l0 k l1 l1 (l1.length : Int) 0) else (some false)) = some r := H
 have A3 := aM A30
 clear A30
 by_cases c4 : t725 = true
 ·
  subst c4
  have H1 : (impl_scoring.l0 k l1 l1 (l1.length : Int) 0) = some r := by rw [if_pos rfl] at H; exact H
  clear H
  have H := H1
  clear H1
  have H' := aM H
  clear H
  go_enter Try.func116, Try.ntmps116
  go_wp2_with (first | ((with_reducible refine gate_dst (N := 2) rfl ?_); refine box_event ?hg (N := 2) ?hd (cs := #[.int .i64 a0_0, .slice A0_1 l0_1.length c0_1]) (t := 33) ?hr ?_; (case hd => rfl); (case hg => rfl); (case hr => first | (go_simp; done) | (go_simp; rfl)); intro gb724 hg w5 hbox hb; have n0_ := aM (below_step (gB HB.out) hb); have n1_ := aM (hbox); have n2_ := aM ((by rw [hg]; exact (below_size (gB HB.out)) : w.heap.size ≤ gb724)); have n3_ := aM ((by rw [hg]; exact (below_size (gB HB.out)) : w.heap.size ≤ gb724)); clear HB; have HB := n0_; have BK724 := n1_; have GW724 := n2_; have GE724 := n3_; clear n0_ n1_ n2_ n3_; clear hb hbox hg; have hcz6_0 : w5.cell? ⟨gb724, 0, none⟩ = some (.int .i64 a0_0) := (blk_cell BK724.out 0).trans rfl; have hcz6_1 : w5.cell? ⟨gb724, 1, none⟩ = some (.slice A0_1 l0_1.length c0_1) := (blk_cell BK724.out 1).trans rfl; have hfz6_0 := blk_frozen BK724.out 0; have hfz6_1 := blk_frozen BK724.out 1) | ((with_reducible refine gate_callee (f := 122) rfl ?_); refine goesL_ (some 9) rfl rfl Try.func122 (by kernel_rfl) rfl #[.agg #[.int .i64 a0_0, .slice A0_1 l0_1.length c0_1], .slice A1 l1.length c1, .int .i64 5] rfl (by (try simp only [List.map_toArray, List.map_cons, List.map_nil]); first | done | rfl | (simp only [List.length_drop, List.length_take]; rfl)) ?_; (with_reducible refine (impl_wordsAsked.calls a0_0 _ _ l0_1 _ _ l1 5 true _ ?side1 ?side2 ?side3 ?side4 A3.out).mono ?_); (case side1 => repeat (first | exact (Kd.C_below HR0_1.out HB.out) | (with_reducible refine Kd.C_alloc ?_ _) | (with_reducible refine Kd.C_drewN ?_ _) | (with_reducible refine Kd.C_drew ?_))); (case side2 => exact HC0_1.out); (case side3 => repeat (first | exact (Kd.C_below HR1.out HB.out) | (with_reducible refine Kd.C_alloc ?_ _) | (with_reducible refine Kd.C_drewN ?_ _) | (with_reducible refine Kd.C_drew ?_))); (case side4 => exact HC1.out); rintro e w7 ⟨rfl, hb⟩; refine ⟨_, rfl, ?_⟩; have n0_ := aM (blk_below (g := gb724) (o := .cells #[.int .i64 a0_0, .slice A0_1 l0_1.length c0_1] 33 (0, 0)) (gK BK724.out) hb); have n1_ := aM (below_step (gB HB.out) hb); clear BK724; clear HB; have BK724 := n0_; have HB := n1_; clear n0_ n1_; (try clear hb); (try clear hb2); (try clear hk); (try clear hi)))
  go_loopg [13] k (fun kq v13 w' => ∃ (x13_1 : Int), v13 = .int .i64 x13_1 ∧ Aside0 (impl_scoring.l0 kq l1 l1 (l1.length : Int) x13_1 = some r) ∧ Aside0 (kq ≤ k) ∧ Aside0 (w'.heap[gb724]? = some (.cells #[.int .i64 a0_0, (.slice A0_1 l0_1.length c0_1)] 33 (0, 0))) ∧ Aside0 (Below w.heap.size w w'))
  case atStart => exact ⟨(0), (by first | rfl | (simp; done) | (simp [*]; done)), H', ⟨Nat.le_refl _⟩, ⟨gK BK724.out⟩, ⟨by repeat (first | (with_reducible first | exact HB.out | apply below_alloc | apply pw_below_drewN | apply below_drew1 | refine below_set ?_ GE724.out) | exact HB.out)⟩⟩
  case round =>
   clear H'
   try clear c1
   try clear p2
   try clear c4
   try clear hcz6_0
   try clear hcz6_1
   try clear hfz6_0
   try clear hfz6_1
   obtain ⟨x13_1, rfl, HA, HK1, BK724, HB⟩ := hrel
   cases gk with
   | zero => exact absurd HA.out (by simp [impl_scoring.l0])
   | succ k1 =>
    have H := HA.out
    clear HA
    simp only [impl_scoring.l0] at H
    by_cases c8 : x13_1 < (l1.length : Int)
    ·
     rw [if_pos c8] at H
     have c8b0 : decide (x13_1 < (l1.length : Int)) = true := decide_eq_true c8
     clear c8
     by_cases c9 : 0 ≤ x13_1
     ·
      rw [if_pos c9] at H
      have c9b0 : decide (0 ≤ x13_1) = true := decide_eq_true c9
      clear c9
      by_cases c10 : x13_1 < (l1.length : Int)
      ·
       rw [if_pos c10] at H
       have c10b0 : decide (x13_1 < (l1.length : Int)) = true := decide_eq_true c10
       clear c10
       have c11b0 := eq_true (of_decide_eq_true (by first | (with_reducible assumption) | assumption) : 0 ≤ x13_1)
       by_cases c12 : x13_1 ≤ (l1.length : Int)
       ·
        rw [if_pos c12] at H
        have c12b0 := eq_true c12
        have c12b1 : decide (x13_1 ≤ (l1.length : Int)) = true := decide_eq_true c12
        clear c12
        replace H := Option.bind_eq_some_iff.mp H
        obtain ⟨t728, A130, H⟩ := H
        replace H : (if t728 = true then (some false) else (impl_scoring.l0 k1 l1 l1 (l1.length : Int) (wrap64 (x13_1 + 1)))) = some r := H
        have A13 := aM A130
        clear A130
        by_cases c14 : t728 = true
        ·
         subst c14
         have H1 : (some false) = some r := by rw [if_pos rfl] at H; exact H
         clear H
         have H := H1
         clear H1
         obtain rfl := Option.some.inj H
         have p726 : 0 ≤ (x13_1 : Int) := of_decide_eq_true (by first | (with_reducible assumption) | assumption)
         have q726 : x13_1 < (l1.length : Int) := of_decide_eq_true (by first | (with_reducible assumption) | assumption)
         obtain ⟨ad726, e726, hx726_0⟩ := Kd.at_string HR1.out x13_1 p726 q726
         cases e726
         replace hx726_0 := (HB.out.cell (World.block_lt_of_cell? w _ hx726_0)).trans hx726_0
         replace p726 := eq_true p726
         replace q726 := eq_true q726
         obtain ⟨i015, hi015, _, hsz15, _⟩ := info_parts info9
         obtain ⟨hcut15, hA15, hC15⟩ := print_take_of (P := Try.prog) Value.string (⟨#[]⟩ : ByteArray) 25 9 .i64 Try.underlying25 hi015 hsz15 (some ad726) c1 l1 x13_1 (of_decide_eq_true (by first | (with_reducible assumption) | assumption)) (of_decide_eq_true (by first | (with_reducible assumption) | assumption)) HC1.out
         have HR727 := aM (Kd.C_of_reads (h1 := fun _ => rfl) (hA15 _ (Kd.reads_of_C HR1.out)))
         have HC727 := aM hC15
         clear hA15 hC15 hi015 hsz15
         go_wp2_with (((with_reducible refine gate_callee (f := 148) rfl ?_); refine goesL_ (some 22) rfl rfl Try.func148 (by kernel_rfl) rfl #[.slice (some ad726) (l1.take (x13_1 : Int).toNat).length c1, .string (rdOf ByteArray.empty l1 x13_1)] rfl (by (try simp only [List.map_toArray, List.map_cons, List.map_nil]); first | done | (rw [show (l1.take (x13_1 : Int).toNat).length = x13_1.toNat from (by rw [List.length_take]; have h_ : (x13_1 : Int) ≤ (l1.length : Int) := of_decide_eq_true (by first | (with_reducible assumption) | assumption); omega)] <;> rfl) | rfl | (simp only [List.length_drop, List.length_take]; rfl)) ?_; (with_reducible refine (slices_Contains_string_string.calls k1 _ _ (l1.take (x13_1 : Int).toNat) (rdOf ByteArray.empty l1 x13_1) true _ ?side1 ?side2 A13.out).mono ?_); (case side1 => repeat (first | exact (Kd.C_below HR727.out HB.out) | (with_reducible refine Kd.C_alloc ?_ _) | (with_reducible refine Kd.C_drewN ?_ _) | (with_reducible refine Kd.C_drew ?_))); (case side2 => exact HC727.out); rintro e w' ⟨rfl, ⟨nd, rfl⟩⟩; refine ⟨_, rfl, ?_⟩))
         go_ret
         exact ⟨by first | rfl | (simp [errW_none, errW_some] <;> rfl) | (simp [*, errW_none, errW_some] <;> rfl), by repeat (first | (with_reducible first | exact HB.out | apply below_alloc | apply pw_below_drewN | apply below_drew1 | refine below_set ?_ GE724.out) | exact HB.out)⟩
        ·
         replace c14 := Bool.eq_false_iff.mpr c14
         subst c14
         have H1 : (impl_scoring.l0 k1 l1 l1 (l1.length : Int) (wrap64 (x13_1 + 1))) = some r := by rw [if_neg (show ¬ (false = true) by decide)] at H; exact H
         clear H
         have H := H1
         clear H1
         have H' := aM H
         clear H
         have p726 : 0 ≤ (x13_1 : Int) := of_decide_eq_true (by first | (with_reducible assumption) | assumption)
         have q726 : x13_1 < (l1.length : Int) := of_decide_eq_true (by first | (with_reducible assumption) | assumption)
         obtain ⟨ad726, e726, hx726_0⟩ := Kd.at_string HR1.out x13_1 p726 q726
         cases e726
         replace hx726_0 := (HB.out.cell (World.block_lt_of_cell? w _ hx726_0)).trans hx726_0
         replace p726 := eq_true p726
         replace q726 := eq_true q726
         obtain ⟨i016, hi016, _, hsz16, _⟩ := info_parts info9
         obtain ⟨hcut16, hA16, hC16⟩ := print_take_of (P := Try.prog) Value.string (⟨#[]⟩ : ByteArray) 25 9 .i64 Try.underlying25 hi016 hsz16 (some ad726) c1 l1 x13_1 (of_decide_eq_true (by first | (with_reducible assumption) | assumption)) (of_decide_eq_true (by first | (with_reducible assumption) | assumption)) HC1.out
         have HR727 := aM (Kd.C_of_reads (h1 := fun _ => rfl) (hA16 _ (Kd.reads_of_C HR1.out)))
         have HC727 := aM hC16
         clear hA16 hC16 hi016 hsz16
         go_wp2_with (((with_reducible refine gate_callee (f := 148) rfl ?_); refine goesL_ (some 22) rfl rfl Try.func148 (by kernel_rfl) rfl #[.slice (some ad726) (l1.take (x13_1 : Int).toNat).length c1, .string (rdOf ByteArray.empty l1 x13_1)] rfl (by (try simp only [List.map_toArray, List.map_cons, List.map_nil]); first | done | (rw [show (l1.take (x13_1 : Int).toNat).length = x13_1.toNat from (by rw [List.length_take]; have h_ : (x13_1 : Int) ≤ (l1.length : Int) := of_decide_eq_true (by first | (with_reducible assumption) | assumption); omega)] <;> rfl) | rfl | (simp only [List.length_drop, List.length_take]; rfl)) ?_; (with_reducible refine (slices_Contains_string_string.calls k1 _ _ (l1.take (x13_1 : Int).toNat) (rdOf ByteArray.empty l1 x13_1) false _ ?side1 ?side2 A13.out).mono ?_); (case side1 => repeat (first | exact (Kd.C_below HR727.out HB.out) | (with_reducible refine Kd.C_alloc ?_ _) | (with_reducible refine Kd.C_drewN ?_ _) | (with_reducible refine Kd.C_drew ?_))); (case side2 => exact HC727.out); rintro e w' ⟨rfl, ⟨nd, rfl⟩⟩; refine ⟨_, rfl, ?_⟩))
         go_roundg k1
         case measure => have := HK1.out; omega
         case rel => exact ⟨(wrap64 (x13_1 + 1)), (by first | rfl | (simp; done) | (simp [*]; done)), H', ⟨by have := HK1.out; omega⟩, ⟨gK BK724.out⟩, ⟨by repeat (first | (with_reducible first | exact HB.out | apply below_alloc | apply pw_below_drewN | apply below_drew1 | refine below_set ?_ GE724.out) | exact HB.out)⟩⟩
       ·
        rw [if_neg c12] at H
        exact absurd H (by simp)
      ·
       rw [if_neg c10] at H
       exact absurd H (by simp)
     ·
      rw [if_neg c9] at H
      exact absurd H (by simp)
    ·
     rw [if_neg c8] at H
     have c8b0 : decide (x13_1 < (l1.length : Int)) = false := decide_eq_false c8
     clear c8
     obtain rfl := Option.some.inj H
     go_wp2
     go_ret
     exact ⟨by first | rfl | (simp [errW_none, errW_some] <;> rfl) | (simp [*, errW_none, errW_some] <;> rfl), by repeat (first | (with_reducible first | exact HB.out | apply below_alloc | apply pw_below_drewN | apply below_drew1 | refine below_set ?_ GE724.out) | exact HB.out)⟩
 ·
  replace c4 := Bool.eq_false_iff.mpr c4
  subst c4
  have H1 : (some false) = some r := by rw [if_neg (show ¬ (false = true) by decide)] at H; exact H
  clear H
  have H := H1
  clear H1
  obtain rfl := Option.some.inj H
  go_enter Try.func116, Try.ntmps116
  go_wp2_with (first | ((with_reducible refine gate_dst (N := 2) rfl ?_); refine box_event ?hg (N := 2) ?hd (cs := #[.int .i64 a0_0, .slice A0_1 l0_1.length c0_1]) (t := 33) ?hr ?_; (case hd => rfl); (case hg => rfl); (case hr => first | (go_simp; done) | (go_simp; rfl)); intro gb724 hg w17 hbox hb; have n0_ := aM (below_step (gB HB.out) hb); have n1_ := aM (hbox); have n2_ := aM ((by rw [hg]; exact (below_size (gB HB.out)) : w.heap.size ≤ gb724)); have n3_ := aM ((by rw [hg]; exact (below_size (gB HB.out)) : w.heap.size ≤ gb724)); clear HB; have HB := n0_; have BK724 := n1_; have GW724 := n2_; have GE724 := n3_; clear n0_ n1_ n2_ n3_; clear hb hbox hg; have hcz18_0 : w17.cell? ⟨gb724, 0, none⟩ = some (.int .i64 a0_0) := (blk_cell BK724.out 0).trans rfl; have hcz18_1 : w17.cell? ⟨gb724, 1, none⟩ = some (.slice A0_1 l0_1.length c0_1) := (blk_cell BK724.out 1).trans rfl; have hfz18_0 := blk_frozen BK724.out 0; have hfz18_1 := blk_frozen BK724.out 1) | ((with_reducible refine gate_callee (f := 122) rfl ?_); refine goesL_ (some 9) rfl rfl Try.func122 (by kernel_rfl) rfl #[.agg #[.int .i64 a0_0, .slice A0_1 l0_1.length c0_1], .slice A1 l1.length c1, .int .i64 5] rfl (by (try simp only [List.map_toArray, List.map_cons, List.map_nil]); first | done | rfl | (simp only [List.length_drop, List.length_take]; rfl)) ?_; (with_reducible refine (impl_wordsAsked.calls a0_0 _ _ l0_1 _ _ l1 5 false _ ?side1 ?side2 ?side3 ?side4 A3.out).mono ?_); (case side1 => repeat (first | exact (Kd.C_below HR0_1.out HB.out) | (with_reducible refine Kd.C_alloc ?_ _) | (with_reducible refine Kd.C_drewN ?_ _) | (with_reducible refine Kd.C_drew ?_))); (case side2 => exact HC0_1.out); (case side3 => repeat (first | exact (Kd.C_below HR1.out HB.out) | (with_reducible refine Kd.C_alloc ?_ _) | (with_reducible refine Kd.C_drewN ?_ _) | (with_reducible refine Kd.C_drew ?_))); (case side4 => exact HC1.out); rintro e w19 ⟨rfl, hb⟩; refine ⟨_, rfl, ?_⟩; have n0_ := aM (blk_below (g := gb724) (o := .cells #[.int .i64 a0_0, .slice A0_1 l0_1.length c0_1] 33 (0, 0)) (gK BK724.out) hb); have n1_ := aM (below_step (gB HB.out) hb); clear BK724; clear HB; have BK724 := n0_; have HB := n1_; clear n0_ n1_; (try clear hb); (try clear hb2); (try clear hk); (try clear hi)))
  go_ret
  exact ⟨by first | rfl | (simp [errW_none, errW_some] <;> rfl) | (simp [*, errW_none, errW_some] <;> rfl), by repeat (first | (with_reducible first | exact HB.out | apply below_alloc | apply pw_below_drewN | apply below_drew1 | refine below_set ?_ GE724.out) | exact HB.out)⟩

end Go.Proofs.Ytaomjndfjmfelaa.PQ
end

section
namespace Go.Proofs.Ytaomjndfjmfelaa.MkS
set_option linter.unusedVariables false
set_option linter.unusedSimpArgs false
open Go.RowKit Go.Proofs.Ytaomjndfjmfelaa.PQ Go.Proofs.YtaomjndfjmfelaaW.PrintWords Go.Proofs.YtaomjndfjmfelaaW.PrintLast Go.Proofs.YtaomjndfjmfelaaW.PrintMore Go.Proofs.Ytaomjndfjmfelaa.Pre Go.Proofs.Ytaomjndfjmfelaa.Shp Go.Proofs.Ytaomjndfjmfelaa.Ask
set_option maxRecDepth 100000 in
set_option maxHeartbeats 1000000 in
theorem mkS_calls (v : Value) (n : Nat) (m : Nat) (W : World) (hR : Row W 9 n 1 v) (hn : n ≤ 1048576) (hm : m ≤ 4398046511104) :
  Calls Try.prog 25 #[v, .int .i64 (m : Int)] W fun e W' => (∃ r : Int, 0 ≤ r ∧ e = .returned (.int .i64 r)) ∧ Mk (fun k => some k = v.ownBlock) W W' := by
 rcases hR with ⟨rfl, rfl⟩ | ⟨g, cap, cur, rfl, hg, hz⟩
 ·
  go_enter Try.func25, Try.ntmps25
  go_wp2
  go_loopg [1, 5] 1 (fun kq v1 v5 w' => v1 = .int .i64 (m : Int) ∧ v5 = .int .i64 0 ∧ w' = W)
  case atStart => exact ⟨rfl, rfl, rfl⟩
  case round =>
   obtain ⟨rfl, rfl, rfl⟩ := hrel
   go_wp2
   go_ret
   exact ⟨⟨_, by omega, rfl⟩, Mk.refl _ _⟩
 ·
  have HG := aM hg
  have HZ := aM hz
  have HN := aM hn
  have HM := aM hm
  clear hg hz hn hm
  go_enter Try.func25, Try.ntmps25
  go_wp2
  go_loopg [1, 5] n (fun kq v1 v5 w' => ∃ (i z : Nat), v1 = .int .i64 (z : Int) ∧ Aside0 (z = m + i) ∧ v5 = .int .i64 (i : Int) ∧ i ≤ n ∧ kq = n - i ∧ Aside0 (Mk (fun k => k = g) W w'))
  case atStart => exact ⟨0, m, rfl, ⟨rfl⟩, rfl, by omega, by omega, ⟨Mk.refl _ _⟩⟩
  case round =>
   obtain ⟨i, z, rfl, HZ2, rfl, hi, hk, HK⟩ := hrel
   by_cases hlt : i < n
   ·
    have HI := aM hlt
    obtain ⟨c1, h1, e1⟩ := HK.out.2.2 g cur _ HG.out
    have H1 := aM h1
    have E1 := aM e1
    clear h1 e1
    obtain ⟨kt, hkt⟩ := (Strs.mT_ev z (by have := HZ2.out; have := HM.out; have := HN.out; omega)).ex
    obtain ⟨tt, ht⟩ : ∃ tt, tt = Strs.mT z := ⟨_, rfl⟩
    rw [← ht] at hkt
    have HT := aM hkt
    clear hkt ht
    have p1 : (0 : Int) ≤ (i : Int) := by omega
    have q1 : (i : Int) < (n : Int) := by omega
    have hw1 : wrap64 ((z : Int) + 1) = (z : Int) + 1 := by have := HZ2.out; have := HM.out; have := HN.out; rw [w64 (by omega) (by omega)]
    have hw3 : wrap64 ((i : Int) + 1) = (i : Int) + 1 := by have := HN.out; rw [w64 (by omega) (by omega)]
    go_wp2_with (first | (go_at_call 76; go_loud ((with_reducible refine (laws_markText.calls kt (z : Int) tt _ HT.out).mono ?_); rintro e w2 ⟨rfl, hb⟩; have HK1 := aM (HK.out.below hb); have h2 : w2.heap[g]? = some (.cells c1 9 (0, 0)) := (hb.block g (lt_of_some H1.out)).trans H1.out; obtain ⟨hx0, hf0⟩ := cell_at h2 i (by rw [E1.out]; have := HZ.out; have := HI.out; omega); have HK2 := aM (HK1.out.setCell (j := i) h2 rfl (.string tt)); clear h2 hb)))
    go_roundg (n - (i + 1))
    case measure => have := HI.out; omega
    case rel => exact ⟨i + 1, z + 1, by go_num, ⟨by have := HZ2.out; omega⟩, by go_num, by have := HI.out; omega, by omega, HK2⟩
   ·
    obtain rfl : i = n := by omega
    go_wp2
    go_ret
    refine ⟨⟨_, by omega, rfl⟩, HK.out.1, HK.out.2.1.mono (fun k hk => ?_), HK.out.2.2⟩
    rw [hk]
    rfl
theorem toS_ev (l : List ByteArray) (hl : l.length ≤ 1048576) : Evt (fun k => laws_toStringS.f k l) l := by
 unfold laws_toStringS.f
 refine Evt.pos (by omega) (Evt.pos (by omega) ?_)
 have h := fill (L := fun k acc i => laws_toStringS.l0 k l acc i) (f := fun i => l.getD i ByteArray.empty) (n := l.length) ?_ ?_ (List.replicate ((l.length : Int)).toNat (⟨#[]⟩ : ByteArray)) (by simp)
 ·
  have e := map_range l ByteArray.empty (fun x => x)
  rw [List.map_id'] at e
  rw [e] at h
  exact h
 ·
  intro acc ha
  refine Evt.step (fun k => laws_toStringS.l0.eq_2 _ _ _ k) (Evt.neg (by omega) (Evt.const _))
 ·
  intro acc i r hi ha hr
  refine Evt.step (fun k => laws_toStringS.l0.eq_2 _ _ _ k) (Evt.pos (by omega) (Evt.pos (by omega) (Evt.pos (by omega) ?_)))
  rw [w64 (n := (i : Int) + 1) (by omega) (by omega)]
  exact hr
theorem szS_ev (l : List ByteArray) (hl : l.length ≤ 9223372036854775807) (hx : ∀ x ∈ l, x.size ≤ 9223372036854775807) (c : Int) (hc0 : 0 ≤ c) (hc1 : c ≤ 1048576) : ∃ r : Int, Evt (fun k => laws_szStringS.f k l c) r ∧ (0 ≤ r → SmallS l) := by
 unfold laws_szStringS.f
 rw [w64 (n := c - (l.length : Int)) (by omega) (by omega)]
 by_cases hbig : (l.length : Int) ≤ c
 ·
  have key : ∀ (m i : Nat) (a : Int), i + m = l.length → 0 ≤ a → a ≤ 1048576 → (∀ x ∈ l.take i, x.size ≤ 1048576) → ∃ r : Int, Evt (fun k => laws_szStringS.l0 k l a (i : Int)) r ∧ (0 ≤ r → SmallS l) := by
   intro m
   induction m with
   | zero =>
    intro i a hi h0 h1 ht
    refine ⟨a, Evt.step (fun k => laws_szStringS.l0.eq_2 _ _ _ k) (Evt.neg (by omega) (Evt.const _)), fun _ => ⟨by omega, ?_⟩⟩
    rwa [List.take_of_length_le (by omega)] at ht
   | succ m ih =>
    intro i a hi h0 h1 ht
    have hi2 : i < l.length := by omega
    have hm := hx _ (List.getElem_mem hi2)
    have hrd : rdOf ByteArray.empty l (i : Int) = l[i] := Strs.rd_get l i hi2
    by_cases hlt : a < l[i].size
    ·
     refine ⟨-1, Evt.step (fun k => laws_szStringS.l0.eq_2 _ _ _ k) (Evt.pos (by omega) (Evt.pos (by omega) ?_)), fun h => by omega⟩
     rw [hrd, w64 (n := a - (l[i].size : Int)) (by omega) (by omega)]
     exact Evt.pos (by omega) (Evt.const _)
    ·
     obtain ⟨r, hr, hb⟩ := ih (i + 1) (a - l[i].size) (by omega) (by omega) (by omega) (by
      intro x hxm
      rw [List.take_succ_eq_append_getElem hi2, List.mem_append, List.mem_singleton] at hxm
      rcases hxm with hxm | rfl
      ·
       exact ht x hxm
      ·
       omega)
     refine ⟨r, Evt.step (fun k => laws_szStringS.l0.eq_2 _ _ _ k) (Evt.pos (by omega) (Evt.pos (by omega) ?_)), hb⟩
     rw [hrd, w64 (n := a - (l[i].size : Int)) (by omega) (by omega), w64 (n := (i : Int) + 1) (by omega) (by omega)]
     exact Evt.neg (by omega) hr
  obtain ⟨r, hr, hb⟩ := key l.length 0 (c - (l.length : Int)) (by omega) (by omega) (by omega) (by simp)
  exact ⟨r, Evt.neg (by omega) hr, hb⟩
 ·
  exact ⟨-1, Evt.pos (by omega) (Evt.const _), fun h => by omega⟩
end Go.Proofs.Ytaomjndfjmfelaa.MkS
end
