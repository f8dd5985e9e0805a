/- Several texts in one: what the claim's last text rests on. No conditions. -/
import Derived.Test.YtaomjndfjmfelaaMBy14
import Derived.Lib.BufferMore
import Derived.Test.YtaomjndfjmfelaaMBy10
import Derived.Test.YtaomjndfjmfelaaMBy13
import Derived.Test.YtaomjndfjmfelaaMBy5
section
/- A word's postings, by hand: impl.entryOf, (*impl.Words).postings. No conditions. -/
namespace Go.Proofs.Ytaomjndfjmfelaa.PostW
set_option linter.unusedVariables false
set_option linter.unusedSimpArgs false
open Go.RowKit Go.Proofs.Ytaomjndfjmfelaa.PQ Go.Proofs.YtaomjndfjmfelaaW.PrintWords Go.Proofs.YtaomjndfjmfelaaW.PrintLast Go.Proofs.YtaomjndfjmfelaaW.PrintMore Go.Proofs.Ytaomjndfjmfelaa.Pre Go.Proofs.Ytaomjndfjmfelaa.Posts Go.Proofs.Ytaomjndfjmfelaa.GoodW Go.Proofs.Ytaomjndfjmfelaa.CmpL Go.Proofs.Ytaomjndfjmfelaa.EntW

theorem entryOf_calls (A : Option Addr) (c : Nat) (l : List En) (t : ByteArray) (w : World) (hr : Kd.C k102 w A l.length l) (hc : l.length ≤ c) (hl : l.length ≤ 1048576) (hs : Rise l) :
    Calls Try.prog 81 #[.slice A l.length c, .string t] w fun e w' => ∃ i : Nat, At l t i ∧ e = .returned (.tuple #[.int .i64 (i : Int), .bool (isAt l t i)]) ∧ Below w.heap.size w w' := by
  have HC := Aside0.mk (search_calls A c l t w hr hc hl hs)
  clear hr hc hl hs
  go_enter Try.func81, Try.ntmps81
  go_wp2_with (first | (go_at_call 127; go_loud ((with_reducible refine HC.out.mono ?_); rintro e w2 ⟨i, HA, rfl, hb⟩; have HA2 := Aside0.mk HA; have HB2 := Aside0.mk hb; clear HA hb)))
  go_ret2
  exact ⟨i, HA2.out, rfl, HB2.out⟩
/-- The postings of a word. -/
def posts (l : List En) (t : ByteArray) : List Po := match l.find? (fun e => decide (e.f0 = t)) with | some e => e.f1 | none => []
theorem at_yes (l : List En) (hs : Rise l) (t : ByteArray) (i : Nat) (h : i < l.length) (he : l[i].f0 = t) : posts l t = l[i].f1 := by
  have hf : l.find? (fun e => decide (e.f0 = t)) = some l[i] := by
    rw [List.find?_eq_some_iff_getElem]
    refine ⟨decide_eq_true he, i, h, rfl, fun j hj => ?_⟩
    have hlt := hs j i h hj
    have hne : ¬ l[j].f0 = t := fun e2 => by
      rw [e2, he, ltS_irrefl] at hlt
      cases hlt
    simpa using hne
  unfold posts
  rw [hf]
theorem at_no (l : List En) (hs : Rise l) (t : ByteArray) (i : Nat) (hA : At l t i) (he : isAt l t i = false) : posts l t = [] := by
  have hf : l.find? (fun e => decide (e.f0 = t)) = none := by
    rw [List.find?_eq_none]
    intro x hx
    obtain ⟨j, hj, rfl⟩ := List.getElem_of_mem hx
    intro e
    have e := of_decide_eq_true e
    rcases Nat.lt_trichotomy j i with h | h | h
    · have := hA.2.1 j hj h
      rw [e, ltS_irrefl] at this
      cases this
    · subst h
      exact of_decide_eq_false he ⟨hj, e⟩
    · have h1 := hA.2.2 i (by omega) (Nat.le_refl _)
      have h2 := hs i j hj h
      rw [e] at h2
      rw [h1] at h2
      cases h2
  unfold posts
  rw [hf]
set_option maxRecDepth 100000 in
set_option maxHeartbeats 1000000 in
theorem postings_at (w0 : World) (A : Option Addr) (c : Nat) (l : List En) (t : ByteArray) (w : World) (b : Nat) (hcl : ∀ w', Below w.heap.size w w' → w'.cell? ⟨b, 1, none⟩ = some (.slice A l.length c)) (hw0 : Below w0.heap.size w0 w) (hr : Kd.C k102 w0 A l.length l) (hc : l.length ≤ c) (hl : l.length ≤ 1048576) (hs : Rise l) (hne : ∀ e ∈ l, 0 < e.f1.length) :
    Calls Try.prog 93 #[.pointer (some ⟨b, 0, none⟩), .string t] w fun e w' => ∃ A' c', e = .returned (.slice A' (posts l t).length c') ∧ (posts l t).length ≤ c' ∧ Kd.C k56 w0 A' (posts l t).length (posts l t) ∧ ((A' = none ∧ c' = 0) ∨ 0 < (posts l t).length) ∧ Below w.heap.size w w' := by
  have HCL := Aside0.mk hcl
  have HR := Aside0.mk hr
  have HW0 := Aside0.mk hw0
  have HC := Aside0.mk hc
  have HL := Aside0.mk hl
  have HS := Aside0.mk hs
  have h0 := hcl w (Below.refl _ _)
  clear hcl hr hc hl hs hw0
  go_enter Try.func93, Try.ntmps93
  go_upto_region 2 with (first | (go_at_call 81; go_loud ((with_reducible refine (entryOf_calls A c l t _ (Kd.C_below HR.out HW0.out) HC.out HL.out HS.out).mono ?_); rintro e w2 ⟨i, HA, rfl, hb⟩; have HA2 := Aside0.mk HA; have HB2 := Aside0.mk hb; have h1 := HCL.out w2 HB2.out; clear HA hb)))
  by_cases hy : isAt l t i = true
  · have hi : i < l.length := (of_decide_eq_true hy).1
    have he : l[i].f0 = t := (of_decide_eq_true hy).2
    have p1 : (0 : Int) ≤ (i : Int) := by omega
    have q1 : (i : Int) < (l.length : Int) := by omega
    obtain ⟨ad, A1, c1, rfl, hx0, hx1, hl1, hC1⟩ := at_T102 HR.out (i : Int) p1 q1
    replace hx1 := ((below_step HW0.out HB2.out).cell (World.block_lt_of_cell? w0 _ hx1)).trans hx1
    rw [Int.toNat_natCast] at hx1
    rw [rd_en l i hi] at hx1 hl1 hC1
    obtain ⟨x, hxe⟩ : ∃ x, x = l[i] := ⟨_, rfl⟩
    rw [← hxe] at hx1 hl1 hC1
    have HP := Aside0.mk ((at_yes l HS.out t i hi he).trans (by rw [hxe] : l[i].f1 = x.f1))
    have HNE := Aside0.mk (hne x (by rw [hxe]; exact List.getElem_mem hi))
    have HC1 := Aside0.mk hC1
    have HL1 := Aside0.mk hl1
    clear hx0 hl1 hC1 he hxe hi
    replace p1 := eq_true p1
    replace q1 := eq_true q1
    go_wp2
    go_ret
    rw [HP.out]
    exact ⟨A1, c1, rfl, HL1.out, HC1.out, .inr HNE.out, HB2.out⟩
  · have hy := Bool.eq_false_iff.2 hy
    have HP := Aside0.mk (at_no l HS.out t i HA2.out hy)
    go_wp2
    go_ret
    rw [HP.out]
    exact ⟨none, 0, rfl, Nat.zero_le _, Kd.C_nil _ _, .inl ⟨rfl, rfl⟩, HB2.out⟩
theorem rise_of_good {x : Int} {l : List En} (h : goodW x l = true) : Rise l := by
  have hadj : ∀ i (hi : i + 1 < l.length), ltS (l[i]'(by omega)).f0 l[i + 1].f0 = true := by
    intro i hi
    unfold goodW at h
    rw [Bool.and_eq_true, List.all_eq_true] at h
    have he := h.2 (i + 1) (by rw [List.mem_range'_1]; omega)
    unfold entOK at he
    simp only [Bool.and_eq_true, Bool.or_eq_true] at he
    obtain ⟨⟨⟨_, h1⟩, _⟩, _⟩ := he
    rcases h1 with h1 | h1
    · exact absurd (of_decide_eq_true h1) (by omega)
    · rw [show (((i + 1 : Nat) : Int) - 1) = (i : Int) by omega, rd_en l i (by omega), rd_en l (i + 1) hi] at h1
      exact h1
  intro i j hj hij
  induction j with
  | zero => omega
  | succ j ih =>
    rcases Nat.lt_or_ge i j with h1 | h1
    · exact ltS_trans (ih (by omega) h1) (hadj j hj)
    · obtain rfl : i = j := by omega
      exact hadj i hj
theorem ne_of_good {x : Int} {l : List En} (h : goodW x l = true) : ∀ e ∈ l, 0 < e.f1.length := by
  intro e hm
  obtain ⟨i, hi, rfl⟩ := List.getElem_of_mem hm
  unfold goodW at h
  rw [Bool.and_eq_true, List.all_eq_true] at h
  have he := h.2 i (by rw [List.mem_range'_1]; omega)
  unfold entOK at he
  simp only [Bool.and_eq_true, rd_en l i hi] at he
  obtain ⟨⟨_, h1⟩, _⟩ := he
  have h2 : ¬ l[i].f1.length = 0 := by simpa using h1
  omega
theorem small_posts {l : List En} (h : Small l) (t : ByteArray) : (posts l t).length ≤ 1048576 := by
  unfold posts
  cases hf : l.find? (fun e => decide (e.f0 = t)) with
  | none => simp
  | some e => exact (h.2 e (List.mem_of_find?_eq_some hf)).2
end Go.Proofs.Ytaomjndfjmfelaa.PostW
end

section
/- Whether words may be asked for, by hand: impl.wordsAsked. No conditions. -/
namespace Go.Proofs.Ytaomjndfjmfelaa.Ask
set_option linter.unusedVariables false
set_option linter.unusedSimpArgs false
open Go.RowKit Go.Proofs.Ytaomjndfjmfelaa.PQ Go.Proofs.YtaomjndfjmfelaaW.PrintWords Go.Proofs.YtaomjndfjmfelaaW.PrintLast Go.Proofs.YtaomjndfjmfelaaW.PrintMore Go.Proofs.Ytaomjndfjmfelaa.Pre Go.Proofs.Ytaomjndfjmfelaa.Posts Go.Proofs.Ytaomjndfjmfelaa.GoodW

def notW (s : ByteArray) : Bool := !isW s
theorem lit_calls (s : ByteArray) (w : World) (hs : s.size ≤ 1048576) : Calls Try.prog 152 #[.string s] w fun e w' => e = .returned (.bool (notW s)) ∧ Below w.heap.size w w' := by
  obtain ⟨k, hk⟩ := (isWord_ev s hs).ex
  have E := Aside0.mk hk
  obtain ⟨b, hb⟩ : ∃ b, b = isW s := ⟨_, rfl⟩
  unfold notW
  rw [← hb] at E ⊢
  clear hk hb
  go_enter Try.func152, Try.ntmps152
  go_wp2_with (first | (go_at_call 89; go_loud ((with_reducible refine (impl_isWord.calls k s b _ E.out).mono ?_); rintro e w2 ⟨rfl, hd⟩; have HB2 := Aside0.mk hd.below; clear hd)))
  go_ret
  exact ⟨rfl, HB2.out⟩
theorem str_at {w : World} {A : Option Addr} {xs : List ByteArray} (h : Kd.C Kd.string w A xs.length xs) (i : Nat) (hi : i < xs.length) : ∃ ad, A = some ad ∧ w.cell? (ad.add i) = some (.string xs[i]) := by
  obtain ⟨ad, c, e, _, hK, hc0⟩ := Kd.C_get h ByteArray.empty (i : Int) (by omega) (by omega)
  rw [Int.toNat_natCast, List.getD_eq_getElem?_getD, List.getElem?_eq_getElem hi] at hK
  rw [Int.toNat_natCast] at hc0
  have hk : c = [.string xs[i]] := hK
  subst hk
  refine ⟨ad, e, ?_⟩
  have h1 := hc0 0 _ rfl
  rw [show Kd.string.sz = 1 from rfl, Nat.mul_one, Nat.add_zero] at h1
  exact h1
def SmallS (l : List ByteArray) : Prop := l.length ≤ 1048576 ∧ ∀ s ∈ l, s.size ≤ 1048576
set_option maxHeartbeats 1000000 in
theorem index_calls (A : Option Addr) (c : Nat) (l : List ByteArray) (w : World) (hr : Kd.C Kd.string w A l.length l) (hl : SmallS l) :
    Calls Try.prog 165 #[.slice A l.length c, .func (.func 152) #[] #[]] w fun e w' => ∃ r : Int, e = .returned (.int .i64 r) ∧ decide ((0 : Int) ≤ r) = l.any notW ∧ Below w.heap.size w w' := by
  have HR := Aside0.mk hr
  have HL := Aside0.mk hl
  have HL1 := Aside0.mk hl.1
  clear hr hl
  go_enter Try.func165, Try.ntmps165
  go_wp2
  go_loopg [8] l.length (fun kq v8 w' => ∃ i : Nat, v8 = .int .i64 (i : Int) ∧ i ≤ l.length ∧ kq = l.length - i ∧ Aside0 ((l.take i).any notW = false) ∧ Aside0 (Below w.heap.size w w'))
  case atStart => exact ⟨0, rfl, by omega, by omega, ⟨by simp⟩, ⟨Below.refl _ _⟩⟩
  case round =>
    obtain ⟨i, rfl, hi, hk, HE, HB⟩ := hrel
    by_cases hlt : i < l.length
    · have HI := Aside0.mk hlt
      have p1 : (0 : Int) ≤ (i : Int) := by omega
      have q1 : (i : Int) < (l.length : Int) := by omega
      obtain ⟨ad, rfl, hx0⟩ := str_at HR.out i hlt
      replace hx0 := (HB.out.cell (World.block_lt_of_cell? w _ hx0)).trans hx0
      obtain ⟨x, hxe⟩ : ∃ x, x = l[i] := ⟨_, rfl⟩
      rw [← hxe] at hx0
      have HX : Aside0 (x.size ≤ 1048576) := ⟨by rw [hxe]; exact HL.out.2 _ (List.getElem_mem hlt)⟩
      have HT : Aside0 ((l.take (i + 1)).any notW = notW x) := ⟨by rw [List.take_succ_eq_append_getElem hlt, List.any_append, HE.out, ← hxe]; simp⟩
      have HM : Aside0 (notW x = true → l.any notW = true) := ⟨fun h => List.any_eq_true.2 ⟨x, by rw [hxe]; exact List.getElem_mem hlt, h⟩⟩
      clear hxe
      obtain ⟨b, hb⟩ : ∃ b, b = notW x := ⟨_, rfl⟩
      have HBB := Aside0.mk hb
      clear hb
      cases b with
      | true =>
        go_wp2_with (first | (go_at_call 152; go_loud ((with_reducible refine (lit_calls x _ HX.out).mono ?_); rintro e w2 ⟨rfl, hb⟩; rw [← HBB.out]; have HB2 := Aside0.mk (below_step HB.out hb); clear hb)))
        go_ret
        exact ⟨_, rfl, by rw [HM.out HBB.out.symm]; simp, HB2.out⟩
      | false =>
        go_wp2_with (first | (go_at_call 152; go_loud ((with_reducible refine (lit_calls x _ HX.out).mono ?_); rintro e w2 ⟨rfl, hb⟩; rw [← HBB.out]; have HB2 := Aside0.mk (below_step HB.out hb); clear hb)))
        go_roundg (l.length - (i + 1))
        case measure => have := HI.out; omega
        case rel => exact ⟨i + 1, by have := HL1.out; have := HI.out; first | go_num | (rw [w64 (by omega) (by omega)]; go_num), by have := HI.out; omega, by omega, ⟨HT.out.trans HBB.out.symm⟩, HB2⟩
    · obtain rfl : i = l.length := by omega
      go_wp2
      go_ret
      exact ⟨-1, rfl, by rw [show l.any notW = false from by have h_ := HE.out; rwa [List.take_length] at h_]; rfl, HB.out⟩
theorem contains_calls (A : Option Addr) (c : Nat) (l : List ByteArray) (w : World) (hr : Kd.C Kd.string w A l.length l) (hl : SmallS l) :
    Calls Try.prog 151 #[.slice A l.length c, .func (.func 152) #[] #[]] w fun e w' => e = .returned (.bool (l.any notW)) ∧ Below w.heap.size w w' := by
  have HR := Aside0.mk hr
  have HL := Aside0.mk hl
  clear hr hl
  go_enter Try.func151, Try.ntmps151
  go_wp2_with (first | (go_at_call 165; go_loud ((with_reducible refine (index_calls A c l _ HR.out HL.out).mono ?_); rintro e w2 ⟨r, rfl, hr2, hb⟩; have HB2 := Aside0.mk hb; clear hb)))
  go_ret
  exact ⟨rfl, HB2.out⟩
/-- Words may be asked for. -/
def asked (x : Int) (l : List En) (ws : List ByteArray) (most : Int) : Bool := goodW x l && decide ((ws.length : Int) ≤ most) && !ws.any notW
set_option maxRecDepth 100000 in
set_option maxHeartbeats 1000000 in
theorem calls (x : Int) (A : Option Addr) (c : Nat) (l : List En) (B : Option Addr) (d : Nat) (ws : List ByteArray) (most : Int) (w : World) (hr : Kd.C k102 w A l.length l) (hc : l.length ≤ c) (hl : Small l) (hs : Kd.C Kd.string w B ws.length ws) (hsl : SmallS ws) :
    Calls Try.prog 122 #[.agg #[.int .i64 x, .slice A l.length c], .slice B ws.length d, .int .i64 most] w fun e w' => e = .returned (.bool (asked x l ws most)) ∧ Below w.heap.size w w' := by
  have HR := Aside0.mk hr
  have HC := Aside0.mk hc
  have HS := Aside0.mk hs
  have HSL := Aside0.mk hsl
  obtain ⟨kg, hg⟩ := (impl_ev x l hl).ex
  obtain ⟨bg, hbg⟩ : ∃ b, b = goodW x l := ⟨_, rfl⟩
  obtain ⟨bw, hbw⟩ : ∃ b, b = ws.any notW := ⟨_, rfl⟩
  rw [← hbg] at hg
  have HG := Aside0.mk hg
  have HBW := Aside0.mk hbw
  have HB0 := Aside0.mk (below_alloc (Below.refl w.heap.size w) (.cells #[.int .i64 x, .slice A l.length c] 33))
  have HSZ : Aside0 (w.heap.size ≤ (w.alloc (.cells #[.int .i64 x, .slice A l.length c] 33)).heap.size) := ⟨by simp⟩
  unfold asked
  rw [← hbg, ← hbw]
  clear hg hr hc hl hs hsl hbg hbw
  cases bg with
  | false =>
    go_enter Try.func122, Try.ntmps122
    go_wp2_with (first | (go_at_call 38; go_loud ((with_reducible refine (impl_GoodWords.calls kg x A c l _ _ (Kd.C_alloc HR.out _) HC.out HG.out).mono ?_); rintro e w2 ⟨rfl, hb⟩; have HB2 := Aside0.mk (below_then HB0.out HSZ.out hb); clear hb)))
    go_ret
    exact ⟨rfl, HB2.out⟩
  | true =>
    by_cases hm : (ws.length : Int) ≤ most
    · have hmb : decide ((ws.length : Int) ≤ most) = true := decide_eq_true hm
      rw [hmb]
      have HMB := Aside0.mk hmb
      clear hm
      go_enter Try.func122, Try.ntmps122
      go_wp2_with (first | (go_at_call 38; go_loud ((with_reducible refine (impl_GoodWords.calls kg x A c l _ _ (Kd.C_alloc HR.out _) HC.out HG.out).mono ?_); rintro e w2 ⟨rfl, hb⟩; have HB2 := Aside0.mk (below_then HB0.out HSZ.out hb); clear hb)) | (go_at_call 151; go_loud ((with_reducible refine (contains_calls B d ws _ (Kd.C_below HS.out HB2.out) HSL.out).mono ?_); rintro e w3 ⟨rfl, hb⟩; rw [← HBW.out]; have HB3 := Aside0.mk (below_step HB2.out hb); clear hb)))
      go_ret
      exact ⟨by simp, HB3.out⟩
    · have hmb : decide ((ws.length : Int) ≤ most) = false := decide_eq_false hm
      rw [hmb]
      clear hm
      go_enter Try.func122, Try.ntmps122
      go_wp2_with (first | (go_at_call 38; go_loud ((with_reducible refine (impl_GoodWords.calls kg x A c l _ _ (Kd.C_alloc HR.out _) HC.out HG.out).mono ?_); rintro e w2 ⟨rfl, hb⟩; have HB2 := Aside0.mk (below_then HB0.out HSZ.out hb); clear hb)))
      go_ret
      exact ⟨by simp, HB2.out⟩
end Go.Proofs.Ytaomjndfjmfelaa.Ask
end

section
/- How many of some words each text has, by hand: (*impl.Words).counts. No conditions. -/
namespace Go.Proofs.Ytaomjndfjmfelaa.Cnt
set_option linter.unusedVariables false
set_option linter.unusedSimpArgs false
open Go.RowKit Go.Proofs.Ytaomjndfjmfelaa.PQ Go.Proofs.YtaomjndfjmfelaaW.PrintWords Go.Proofs.YtaomjndfjmfelaaW.PrintLast Go.Proofs.YtaomjndfjmfelaaW.PrintMore Go.Proofs.Ytaomjndfjmfelaa.Pre Go.Proofs.Ytaomjndfjmfelaa.Posts Go.Proofs.Ytaomjndfjmfelaa.GoodW Go.Proofs.Ytaomjndfjmfelaa.EntW Go.Proofs.Ytaomjndfjmfelaa.PostW Go.Proofs.Ytaomjndfjmfelaa.Ask

/-- One more at a place. -/
def inc (o : List Int) (k : Int) : List Int := o.set k.toNat (wrap64 (o.getD k.toNat 0 + 1))
def incAll (o : List Int) (ps : List Po) : List Int := ps.foldl (fun o p => inc o p.f0) o
def marks (x : Int) (l : List En) (ws : List ByteArray) : List Int := ws.foldl (fun o t => incAll o (posts l t)) (List.replicate x.toNat 0)
theorem inc_len (o : List Int) (k : Int) : (inc o k).length = o.length := by unfold inc; simp
theorem incAll_len (ps : List Po) : ∀ o : List Int, (incAll o ps).length = o.length := by
  induction ps with
  | nil => intro o; rfl
  | cons p ps ih =>
    intro o
    show (incAll (inc o p.f0) ps).length = o.length
    rw [ih, inc_len]
theorem incAll_succ (o : List Int) (ps : List Po) (i : Nat) (h : i < ps.length) : incAll o (ps.take (i + 1)) = inc (incAll o (ps.take i)) ps[i].f0 := by
  unfold incAll
  rw [List.take_succ_eq_append_getElem h, List.foldl_append]
  rfl
theorem marks_succ (x : Int) (l : List En) (ws : List ByteArray) (i : Nat) (h : i < ws.length) : marks x l (ws.take (i + 1)) = incAll (marks x l (ws.take i)) (posts l ws[i]) := by
  unfold marks
  rw [List.take_succ_eq_append_getElem h, List.foldl_append]
  rfl
theorem marks_len (x : Int) (l : List En) (ws : List ByteArray) : (marks x l ws).length = x.toNat := by
  unfold marks
  have key : ∀ (ws : List ByteArray) (o : List Int), (ws.foldl (fun o t => incAll o (posts l t)) o).length = o.length := by
    intro ws
    induction ws with
    | nil => intro o; rfl
    | cons t ws ih =>
      intro o
      rw [List.foldl_cons, ih, incAll_len]
  rw [key]
  simp
/-- All texts of postings are there. -/
theorem okFrom_all (most : Int) : ∀ (ps : List Po) (last : Int), -1 ≤ last → okFrom most last ps = true → ∀ p ∈ ps, 0 ≤ p.f0 ∧ p.f0 ≤ most := by
  intro ps
  induction ps with
  | nil => intro last _ _ p hp; cases hp
  | cons a ps ih =>
    intro last h0 hk p hp
    simp only [okFrom, Bool.and_eq_true, decide_eq_true_eq] at hk
    obtain ⟨⟨h1, h2, _⟩, h5⟩ := hk
    rcases List.mem_cons.1 hp with rfl | hp
    · exact ⟨by omega, h2⟩
    · exact ih a.f0 (by omega) h5 p hp
theorem posts_ok {x : Int} {l : List En} (h : goodW x l = true) (t : ByteArray) : ∀ p ∈ posts l t, 0 ≤ p.f0 ∧ p.f0 < x := by
  have hx : 0 ≤ x ∧ x ≤ 40 := by
    unfold goodW at h
    rw [Bool.and_eq_true, Bool.and_eq_true] at h
    exact of_decide_eq_true h.1.1
  intro p hp
  unfold posts at hp
  cases hf : l.find? (fun e => decide (e.f0 = t)) with
  | none => rw [hf] at hp; cases hp
  | some e =>
    rw [hf] at hp
    obtain ⟨i, hi, rfl⟩ := List.getElem_of_mem (List.mem_of_find?_eq_some hf)
    unfold goodW at h
    rw [Bool.and_eq_true, List.all_eq_true] at h
    have he := h.2 i (by rw [List.mem_range'_1]; omega)
    unfold entOK at he
    simp only [Bool.and_eq_true, rd_en l i hi] at he
    have h4 := he.2
    rw [w64 (by omega) (by omega)] at h4
    have := okFrom_all (x - 1) _ (-1) (by omega) h4 p hp
    omega
set_option maxRecDepth 100000 in
set_option maxHeartbeats 4000000 in
theorem calls (x : Int) (A : Option Addr) (c : Nat) (l : List En) (B : Option Addr) (d : Nat) (ws : List ByteArray) (b : Nat) (w : World) (hcl : ∀ w', Below w.heap.size w w' → w'.cell? ⟨b, 0, none⟩ = some (.int .i64 x) ∧ w'.cell? ⟨b, 1, none⟩ = some (.slice A l.length c)) (hr : Kd.C k102 w A l.length l) (hc : l.length ≤ c) (hl : Small l) (hg : goodW x l = true) (hs : Kd.C Kd.string w B ws.length ws) (hsl : SmallS ws) :
    Calls Try.prog 123 #[.pointer (some ⟨b, 0, none⟩), .slice B ws.length d] w fun e w' => ∃ v0_ : Value, e = .returned v0_ ∧ Kd.R (Kd.int .i64) 3 w' w.heap.size (fun _ => True) v0_ (marks x l ws) ∧ Below w.heap.size w w' := by
  have hx : 0 ≤ x ∧ x ≤ 40 := by
    have h := hg
    unfold goodW at h
    rw [Bool.and_eq_true, Bool.and_eq_true] at h
    exact of_decide_eq_true h.1.1
  obtain ⟨n, hn⟩ : ∃ n : Nat, x = (n : Int) := ⟨x.toNat, by omega⟩
  subst hn
  have HCL := Aside0.mk hcl
  have HR := Aside0.mk hr
  have HC := Aside0.mk hc
  have HL := Aside0.mk hl
  have HL1 := Aside0.mk hl.1
  have HS := Aside0.mk hs
  have HSL := Aside0.mk hsl
  have HSL1 := Aside0.mk hsl.1
  have HRI := Aside0.mk (rise_of_good hg)
  have HNE := Aside0.mk (ne_of_good hg)
  have HPO := Aside0.mk (fun t => posts_ok hg t)
  have HN : Aside0 (n ≤ 40) := ⟨by omega⟩
  have HB := Aside0.mk (Below.refl w.heap.size w)
  obtain ⟨h0, h1⟩ := hcl w (Below.refl _ _)
  clear hcl hr hc hl hs hsl hg hx
  go_enter Try.func123, Try.ntmps123
  have hnn : n ≤ 40 := HN.out
  go_upto_region 2 with (first | ((with_reducible refine gate_dst (N := 14) rfl ?_); go_loud (refine Kd.R_make (Kd.int .i64) _ 3 rfl (N := 14) rfl 28 _ _ rfl (n : Int) rfl rfl Try.underlying28 (.int .i64 0) 8 info3 rfl (by decide) (by omega) 0 (ok := fun _ => True) (okp := fun _ => True) rfl (fun _ hk => hk) trivial (by omega) (by omega) (Below.refl _ _) (Nat.le_refl _) ?_; intro v5 w4 ho5 hb hg_ hnew_; clear hg_ hnew_; rw [Int.toNat_natCast] at ho5; obtain ⟨A5, c5, e5, hl5, hC5⟩ := Kd.R_reads ho5; rw [List.length_replicate] at e5; subst e5; clear hl5 hC5; have HO4 := Aside0.mk ho5; have HB4 := Aside0.mk hb; clear ho5 hb)))
  clear hnn
  go_wp2
  go_loopg [17] ws.length (fun kq v17 w' => ∃ i : Nat, v17 = .int .i64 (i : Int) ∧ i ≤ ws.length ∧ kq = ws.length - i ∧ Aside0 (Kd.R (Kd.int .i64) 3 w' w.heap.size (fun _ => True) (.slice A5 n c5) (marks (n : Int) l (ws.take i))) ∧ Aside0 (Below w.heap.size w w'))
  case atStart => exact ⟨0, rfl, by omega, by omega, HO4, HB4⟩
  case round =>
    obtain ⟨i, rfl, hi, hk, HO, HBr⟩ := hrel
    by_cases hlt : i < ws.length
    · have HI := Aside0.mk hlt
      have p1 : (0 : Int) ≤ (i : Int) := by omega
      have q1 : (i : Int) < (ws.length : Int) := by omega
      obtain ⟨ad, rfl, hx0⟩ := str_at HS.out i hlt
      replace hx0 := (HBr.out.cell (World.block_lt_of_cell? w _ hx0)).trans hx0
      obtain ⟨t, ht⟩ : ∃ t, t = ws[i] := ⟨_, rfl⟩
      rw [← ht] at hx0
      have HT := Aside0.mk (show marks (n : Int) l (ws.take (i + 1)) = incAll (marks (n : Int) l (ws.take i)) (posts l t) by rw [marks_succ _ _ _ _ hlt, ht])
      obtain ⟨o, ho⟩ : ∃ o, o = marks (n : Int) l (ws.take i) := ⟨_, rfl⟩
      have HOL : Aside0 (o.length = n) := ⟨by rw [ho, marks_len]; omega⟩
      rw [← ho] at HO HT
      clear ht ho
      go_wp2_with (first | (go_at_call 93; go_loud ((with_reducible refine (postings_at w A c l t _ b (fun w' hb => (HCL.out w' (below_step HBr.out hb)).2) HBr.out HR.out HC.out HL1.out HRI.out HNE.out).mono ?_); rintro e w5 ⟨Ap, cp, rfl, hcp, hC5, hnil, hb⟩; have HB5 := Aside0.mk (below_step HBr.out hb); have HCP := Aside0.mk hC5; have HO5 := Aside0.mk (Kd.R_below HO.out hb); clear hb hC5 hcp hnil)))
      obtain ⟨ps, hps⟩ : ∃ ps, ps = posts l t := ⟨_, rfl⟩
      rw [← hps]
      have HPS : Aside0 (∀ p ∈ ps, 0 ≤ p.f0 ∧ p.f0 < (n : Int)) := ⟨by rw [hps]; exact HPO.out t⟩
      have HPL : Aside0 (ps.length ≤ 1048576) := ⟨by rw [hps]; exact small_posts HL.out t⟩
      rw [← hps] at HT HCP
      clear hps
      go_loopg [25] ps.length (fun kq v25 w' => ∃ j : Nat, v25 = .int .i64 (j : Int) ∧ j ≤ ps.length ∧ kq = ps.length - j ∧ Aside0 (Kd.R (Kd.int .i64) 3 w' w.heap.size (fun _ => True) (.slice A5 n c5) (incAll o (ps.take j))) ∧ Aside0 (Below w.heap.size w w'))
      case atStart => exact ⟨0, rfl, by omega, by omega, HO5, HB5⟩
      case round =>
        obtain ⟨j, rfl, hj, hk2, HOj, HBj⟩ := hrel
        by_cases hjt : j < ps.length
        · have HJ := Aside0.mk hjt
          have p2 : (0 : Int) ≤ (j : Int) := by omega
          have q2 : (j : Int) < (ps.length : Int) := by omega
          obtain ⟨ad2, rfl, hy0, hy1⟩ := at_T56 HCP.out (j : Int) p2 q2
          replace hy0 := (HBj.out.cell (World.block_lt_of_cell? w _ hy0)).trans hy0
          replace hy1 := (HBj.out.cell (World.block_lt_of_cell? w _ hy1)).trans hy1
          rw [Int.toNat_natCast, rd_get ps j hjt] at hy0 hy1
          obtain ⟨y, hy⟩ : ∃ y, y = ps[j] := ⟨_, rfl⟩
          rw [← hy] at hy0 hy1
          have HY := Aside0.mk (HPS.out y (by rw [hy]; exact List.getElem_mem hjt))
          have HNX := Aside0.mk (show incAll o (ps.take (j + 1)) = inc (incAll o (ps.take j)) y.f0 by rw [incAll_succ _ _ _ hjt, hy])
          clear hy
          obtain ⟨oj, hoj⟩ : ∃ oj, oj = incAll o (ps.take j) := ⟨_, rfl⟩
          have HOJL : Aside0 (oj.length = n) := ⟨by rw [hoj, incAll_len, HOL.out]⟩
          rw [← hoj] at HOj HNX
          clear hoj
          obtain ⟨g, cg, eg, gb, gl, cells, HG⟩ := Kd.R_form HOj.out (by have := HY.out; have := HOJL.out; omega)
          rw [HOJL.out] at eg
          injection eg with e1 e2 e3
          subst e1 e3
          have HR2 := Aside0.mk (Kd.R_alloc HOj.out (.cells #[.int .i64 y.f0, .int .i64 y.f1] 56))
          obtain ⟨hz, hf⟩ := Kd.R_celln 0 HR2.out y.f0 HY.out.1 (by have := HY.out; have := HOJL.out; omega)
          have HP := Aside0.mk (Kd.R_putn HR2.out y.f0 (wrap64 (oj.getD y.f0.toNat 0 + 1)))
          have GB := Aside0.mk gb
          have hlb := HY.out.1
          have hub := HY.out.2
          clear HG gl gb
          trace_state
          go_wp2
          go_roundg (ps.length - (j + 1))
          case measure => have := HJ.out; omega
          case rel => exact ⟨j + 1, by have := HPL.out; have := HJ.out; first | go_num | (rw [w64 (by omega) (by omega)]; go_num), by have := HJ.out; omega, by omega, ⟨by rw [HNX.out]; exact HP.out⟩, ⟨below_set (below_alloc HBj.out _) GB.out⟩⟩
        · obtain rfl : j = ps.length := by omega
          rw [List.take_length] at HOj
          rw [← HT.out] at HOj
          go_wp2
          go_roundg (ws.length - (i + 1))
          case measure => have := HI.out; omega
          case rel => exact ⟨i + 1, by have := HSL1.out; have := HI.out; first | go_num | (rw [w64 (by omega) (by omega)]; go_num), by have := HI.out; omega, by omega, HOj, HBj⟩
    · obtain rfl : i = ws.length := by omega
      rw [List.take_length] at HO
      go_wp2
      go_ret
      exact ⟨_, rfl, HO.out, HBr.out⟩
end Go.Proofs.Ytaomjndfjmfelaa.Cnt
end

section
/- Places that are kept, and rows beside one another. No conditions. -/
namespace Go.Proofs.Ytaomjndfjmfelaa.ByD
set_option linter.unusedVariables false
open Go.RowKit Go.Proofs.Ytaomjndfjmfelaa.PQ Go.Proofs.YtaomjndfjmfelaaW.PrintWords Go.Proofs.YtaomjndfjmfelaaW.PrintLast Go.Proofs.YtaomjndfjmfelaaW.PrintMore Go.Proofs.Ytaomjndfjmfelaa.Pre Go.Proofs.Ytaomjndfjmfelaa.GoodW Go.Proofs.Ytaomjndfjmfelaa.Ask

/-- The places, up to one, whose numbers are as asked. -/
def keepTo (p : Int → Bool) (ms : List Int) (i : Nat) : List Int := ((List.range i).filter (fun j => p (ms.getD j 0))).map (fun (j : Nat) => (j : Int))
def keep (p : Int → Bool) (ms : List Int) : List Int := keepTo p ms ms.length
theorem keepTo_all (p : Int → Bool) (ms : List Int) : keepTo p ms ms.length = keep p ms := rfl
theorem keepTo_succ (p : Int → Bool) (ms : List Int) (i : Nat) : keepTo p ms (i + 1) = keepTo p ms i ++ (if p (ms.getD i 0) = true then [(i : Int)] else []) := by
  unfold keepTo
  rw [List.range_succ, List.filter_append, List.map_append]
  congr 1
  by_cases h : p (ms.getD i 0) = true
  · rw [if_pos h]
    have e : List.filter (fun j => p (ms.getD j 0)) [i] = [i] := List.filter_cons_of_pos (p := fun j => p (ms.getD j 0)) h
    rw [e]
    rfl
  · rw [if_neg h]
    have e : List.filter (fun j => p (ms.getD j 0)) [i] = [] := List.filter_cons_of_neg (p := fun j => p (ms.getD j 0)) h
    rw [e]
    rfl
theorem keepTo_len (p : Int → Bool) (ms : List Int) (i : Nat) : (keepTo p ms i).length ≤ i := by
  unfold keepTo
  rw [List.length_map]
  exact Nat.le_trans (List.length_filter_le _ _) (by simp)
theorem asked_good {x : Int} {l : List En} {ws : List ByteArray} {m : Int} (h : asked x l ws m = true) : goodW x l = true := by
  unfold asked at h
  rw [Bool.and_eq_true, Bool.and_eq_true] at h
  exact h.1.1
theorem good_range {x : Int} {l : List En} (h : goodW x l = true) : 0 ≤ x ∧ x ≤ 40 := by
  unfold goodW at h
  rw [Bool.and_eq_true, Bool.and_eq_true] at h
  exact of_decide_eq_true h.1.1
theorem R_in' {α : Type} {d : Kd α} {e : Nat} {W : World} {base : Nat} {v : Value} {xs : List α} (h : d.R e W base (fun _ => True) v xs) : d.R e W base (fun k => base ≤ k ∧ k < W.heap.size) v xs := Kd.R_mono (Kd.R_bound h) (fun k hk => ⟨hk.2.1, hk.2.2.1⟩)
theorem R_beside {α : Type} {d : Kd α} {e : Nat} {W w4 : World} {base a b : Nat} {u v : Value} {xs : List α} (h : d.R e W base (fun k => a < k ∧ k < b) u xs) (hg : W.grownBy w4 v.ownBlock) (hv : ∀ k, v.ownBlock = some k → k = a ∨ b ≤ k) : d.R e w4 base (fun k => a < k ∧ k < b) u xs :=
  Kd.R_step h (fun k hk hlt => hg.block k hlt (fun e => by have := hv k e.symm; omega))
theorem W0_beside {W0 W w4 : World} {base a b : Nat} {v : Value} (h : Below W0.heap.size W0 W) (hg : W.grownBy w4 v.ownBlock) (hb : ∀ k, v.ownBlock = some k → base ≤ k) (hv : ∀ k, v.ownBlock = some k → k = a ∨ b ≤ k) (ha : W0.heap.size ≤ a) (hbb : W0.heap.size ≤ b) : Below W0.heap.size W0 w4 :=
  h.grown hg h.size (fun k hk => by have := hv k hk; omega)
theorem sz_alloc (w : World) (o : Obj) : w.heap.size < (w.alloc o).heap.size := by simp
theorem at_new (w : World) (o : Obj) : (w.alloc o).heap[w.heap.size]? = some o := by
  show (w.heap.push o)[w.heap.size]? = some o
  simp
theorem empty_row (base : Nat) (w1 w2 : World) (hb : Below (w1.alloc (.cells #[] 3)).heap.size (w1.alloc (.cells #[] 3)) w2) (hle : base ≤ w1.heap.size) : (Kd.int .i64).R 3 w2 base (fun k => k = w1.heap.size ∨ w2.heap.size ≤ k) (.slice (some ⟨w1.heap.size, 0, none⟩) 0 0) [] := by
  have hblk : w2.heap[w1.heap.size]? = some (.cells #[] 3 (0, 0)) := (hb.block _ (by simp)).trans (at_new w1 _)
  refine ⟨fun k hk => .inl ?_, [], ?_, Reps.none _ _⟩
  · have : w1.heap.size = k := by simpa [Value.ownBlock] using hk
    exact this.symm
  · exact ⟨by simp, .inr ⟨w1.heap.size, 0, #[], rfl, hle, hblk, Nat.le_refl _, by decide, by simp, by simp⟩⟩
end Go.Proofs.Ytaomjndfjmfelaa.ByD
end

section
/- The reference's counts of words. No conditions. -/
namespace Go.Proofs.Ytaomjndfjmfelaa.ByP
set_option linter.unusedVariables false
open Go.RowKit Go.Proofs.Ytaomjndfjmfelaa.PQ Go.Proofs.YtaomjndfjmfelaaW.PrintWords Go.Proofs.YtaomjndfjmfelaaW.PrintLast Go.Proofs.Ytaomjndfjmfelaa.Pre Go.Proofs.Ytaomjndfjmfelaa.Posts Go.Proofs.Ytaomjndfjmfelaa.GoodW Go.Proofs.Ytaomjndfjmfelaa.PostW Go.Proofs.Ytaomjndfjmfelaa.Ask Go.Proofs.Ytaomjndfjmfelaa.Cnt Go.Proofs.Ytaomjndfjmfelaa.ByD

theorem spec_posts (l : List En) (hl : Small l) (x : Int) (t : ByteArray) : Evt (fun k => spec_l10Postings.f k x l t) (posts l t) := by
  have hl1 := hl.1
  unfold spec_l10Postings.f
  have key : ∀ (n i : Nat), i + n = l.length → Evt (fun k => spec_l10Postings.l0 k t l (l.length : Int) (i : Int)) (posts (l.drop i) t) := by
    intro n
    induction n with
    | zero =>
      intro i hi
      refine Evt.step (fun k => spec_l10Postings.l0.eq_2 _ _ _ _ k) (Evt.neg (by omega) ((Evt.const _).eq ?_))
      rw [List.drop_of_length_le (by omega)]
      rfl
    | succ n ih =>
      intro i hi
      have hlt : i < l.length := by omega
      refine Evt.step (fun k => spec_l10Postings.l0.eq_2 _ _ _ _ k) (Evt.pos (by omega) (Evt.pos (by omega) (Evt.pos (by omega) ?_)))
      rw [rd_en l i hlt, w64 (n := (i : Int) + 1) (by omega) (by omega), List.drop_eq_getElem_cons hlt]
      by_cases he : l[i].f0 = t
      · refine Evt.pos (by rw [he]) (Evt.bsome (Evt.pos ?_ ((Evt.const _).eq ?_)))
        · have := (hl.2 _ (List.getElem_mem hlt)).2
          simp
          omega
        · unfold posts
          have h_ : (l[i] :: l.drop (i + 1)).find? (fun e => decide (e.f0 = t)) = some l[i] := List.find?_cons_of_pos (decide_eq_true he)
          rw [h_]
          rfl
      · refine Evt.neg (fun e => he (Byt.toList_inj e)) ((ih (i + 1) (by omega)).eq ?_)
        unfold posts
        have h_ : (l[i] :: l.drop (i + 1)).find? (fun e => decide (e.f0 = t)) = (l.drop (i + 1)).find? (fun e => decide (e.f0 = t)) := List.find?_cons_of_neg (by simpa using he)
        rw [h_]
  exact key l.length 0 (by omega)
theorem l1_ev (ws : List ByteArray) (x23 x24 x : Int) (l : List En) (ps : List Po) (hps : ps.length ≤ 1048576) (r : List Int × Bool) : ∀ (n j : Nat) (o : List Int), j + n = ps.length → (∀ p ∈ ps, 0 ≤ p.f0 ∧ p.f0 < (o.length : Int)) →
    Evt (fun k => spec_l10Marks.l0 k (incAll o (ps.drop j)) ws x23 (wrap64 (x24 + 1)) x l) r → Evt (fun k => spec_l10Marks.l1 k o ws x23 x24 ps (ps.length : Int) (j : Int) x l) r := by
  intro n
  induction n with
  | zero =>
    intro j o hj hp h
    rw [List.drop_of_length_le (by omega)] at h
    exact Evt.step (fun k => spec_l10Marks.l1.eq_2 _ _ _ _ _ _ _ _ _ k) (Evt.neg (by omega) h)
  | succ n ih =>
    intro j o hj hp h
    have hlt : j < ps.length := by omega
    have hpj := hp _ (List.getElem_mem hlt)
    refine Evt.step (fun k => spec_l10Marks.l1.eq_2 _ _ _ _ _ _ _ _ _ k) (Evt.pos (by omega) (Evt.pos (by omega) (Evt.pos (by omega) ?_)))
    rw [rd_get ps j hlt, w64 (n := (j : Int) + 1) (by omega) (by omega)]
    refine Evt.pos hpj.1 (Evt.pos hpj.2 (ih (j + 1) (inc o ps[j].f0) (by omega) (by rw [inc_len]; exact hp) ?_))
    rw [List.drop_eq_getElem_cons hlt] at h
    exact h
def foldM (l : List En) (ws : List ByteArray) (o : List Int) : List Int := ws.foldl (fun o t => incAll o (posts l t)) o
theorem l0_ev (x : Int) (l : List En) (hl : Small l) (hg : goodW x l = true) (ws : List ByteArray) (hs : SmallS ws) : ∀ (n i : Nat) (o : List Int), i + n = ws.length → (o.length : Int) = x →
    Evt (fun k => spec_l10Marks.l0 k o ws (ws.length : Int) (i : Int) x l) (if (ws.drop i).any notW = true then ([], false) else (foldM l (ws.drop i) o, true)) := by
  intro n
  induction n with
  | zero =>
    intro i o hi ho
    rw [List.drop_of_length_le (by omega)]
    exact Evt.step (fun k => spec_l10Marks.l0.eq_2 _ _ _ _ _ _ k) (Evt.neg (by omega) (Evt.const _))
  | succ n ih =>
    intro i o hi ho
    have hs1 := hs.1
    have hlt : i < ws.length := by omega
    have hrd : rdOf ByteArray.empty ws (i : Int) = ws[i] := by
      show ws.getD (i : Int).toNat ByteArray.empty = _
      rw [Int.toNat_natCast, List.getD_eq_getElem?_getD, List.getElem?_eq_getElem hlt]
      rfl
    refine Evt.step (fun k => spec_l10Marks.l0.eq_2 _ _ _ _ _ _ k) (Evt.pos (by omega) (Evt.pos (by omega) (Evt.pos (by omega) ?_)))
    rw [hrd, List.drop_eq_getElem_cons hlt, List.any_cons]
    refine Evt.bind (l10Word_ev _ (hs.2 _ (List.getElem_mem hlt))) ?_
    by_cases hw : isW ws[i] = true
    · refine Evt.pos hw (Evt.bind (spec_posts l hl x ws[i]) ?_)
      have e1 : notW ws[i] = false := by unfold notW; rw [hw]; rfl
      rw [e1, Bool.false_or]
      refine l1_ev ws (ws.length : Int) (i : Int) x l (posts l ws[i]) (small_posts hl _) _ (posts l ws[i]).length 0 o (by omega) (fun p hp => ?_) ?_
      · have := posts_ok hg ws[i] p hp
        omega
      · rw [List.drop_zero, w64 (n := (i : Int) + 1) (by omega) (by omega)]
        exact ih (i + 1) (incAll o (posts l ws[i])) (by omega) (by rw [incAll_len]; exact ho)
    · refine Evt.neg hw ((Evt.const _).eq ?_)
      have e1 : notW ws[i] = true := by unfold notW; rw [Bool.eq_false_iff.2 hw]; rfl
      rw [e1, Bool.true_or, if_pos rfl]
theorem marks_ev (x : Int) (l : List En) (hl : Small l) (ws : List ByteArray) (hs : SmallS ws) : Evt (fun k => spec_l10Marks.f k x l ws) (if asked x l ws 20 = true then (marks x l ws, true) else ([], false)) := by
  unfold spec_l10Marks.f asked
  refine Evt.bind (GoodW.spec_ev x l hl) ?_
  by_cases hg : goodW x l = true
  · have hx := good_range hg
    refine Evt.pos hg (Evt.step (fun k => spec_l10Marks.j0.eq_2 _ _ _ _ k) ?_)
    rw [hg, Bool.true_and]
    by_cases h20 : (ws.length : Int) ≤ 20
    · refine Evt.neg (by rw [decide_eq_false (by omega)]; simp) (Evt.pos hx.1 (Evt.pos (by omega) ?_))
      rw [decide_eq_true h20, Bool.true_and]
      refine (l0_ev x l hl hg ws hs ws.length 0 _ (by omega) (by rw [List.length_replicate]; omega)).eq ?_
      rw [List.drop_zero]
      by_cases ha : ws.any notW = true
      · rw [if_pos ha, ha]
        rfl
      · rw [if_neg ha, Bool.eq_false_iff.2 ha]
        rfl
    · refine Evt.pos (decide_eq_true (by omega)) ((Evt.const _).eq ?_)
      rw [decide_eq_false h20]
      rfl
  · refine Evt.neg hg (Evt.step (fun k => spec_l10Marks.j0.eq_2 _ _ _ _ k) (Evt.pos rfl ((Evt.const _).eq ?_)))
    rw [Bool.eq_false_iff.2 hg]
    rfl
end Go.Proofs.Ytaomjndfjmfelaa.ByP
end

section
/- Texts are marked, by hand; texts that came in: taken over and counted. No conditions. -/
namespace Go.Proofs.Ytaomjndfjmfelaa.MkS
set_option linter.unusedVariables false
set_option linter.unusedSimpArgs false
open Go.RowKit Go.Proofs.Ytaomjndfjmfelaa.PQ Go.Proofs.YtaomjndfjmfelaaW.PrintWords Go.Proofs.YtaomjndfjmfelaaW.PrintLast Go.Proofs.YtaomjndfjmfelaaW.PrintMore Go.Proofs.Ytaomjndfjmfelaa.Pre Go.Proofs.Ytaomjndfjmfelaa.Shp Go.Proofs.Ytaomjndfjmfelaa.Ask

set_option maxRecDepth 100000 in
set_option maxHeartbeats 1000000 in
theorem mkS_calls (v : Value) (n : Nat) (m : Nat) (W : World) (hR : Row W 9 n 1 v) (hn : n ≤ 1048576) (hm : m ≤ 4398046511104) :
    Calls Try.prog 25 #[v, .int .i64 (m : Int)] W fun e W' => (∃ r : Int, 0 ≤ r ∧ e = .returned (.int .i64 r)) ∧ Mk (fun k => some k = v.ownBlock) W W' := by
  rcases hR with ⟨rfl, rfl⟩ | ⟨g, cap, cur, rfl, hg, hz⟩
  · go_enter Try.func25, Try.ntmps25
    go_wp2
    go_loopg [1, 5] 1 (fun kq v1 v5 w' => v1 = .int .i64 (m : Int) ∧ v5 = .int .i64 0 ∧ w' = W)
    case atStart => exact ⟨rfl, rfl, rfl⟩
    case round =>
      obtain ⟨rfl, rfl, rfl⟩ := hrel
      go_wp2
      go_ret
      exact ⟨⟨_, by omega, rfl⟩, Mk.refl _ _⟩
  · have HG := Aside0.mk hg
    have HZ := Aside0.mk hz
    have HN := Aside0.mk hn
    have HM := Aside0.mk hm
    clear hg hz hn hm
    go_enter Try.func25, Try.ntmps25
    go_wp2
    go_loopg [1, 5] n (fun kq v1 v5 w' => ∃ (i z : Nat), v1 = .int .i64 (z : Int) ∧ Aside0 (z = m + i) ∧ v5 = .int .i64 (i : Int) ∧ i ≤ n ∧ kq = n - i ∧ Aside0 (Mk (fun k => k = g) W w'))
    case atStart => exact ⟨0, m, rfl, ⟨rfl⟩, rfl, by omega, by omega, ⟨Mk.refl _ _⟩⟩
    case round =>
      obtain ⟨i, z, rfl, HZ2, rfl, hi, hk, HK⟩ := hrel
      by_cases hlt : i < n
      · have HI := Aside0.mk hlt
        obtain ⟨c1, h1, e1⟩ := HK.out.2.2 g cur _ HG.out
        have H1 := Aside0.mk h1
        have E1 := Aside0.mk e1
        clear h1 e1
        obtain ⟨kt, hkt⟩ := (Strs.mT_ev z (by have := HZ2.out; have := HM.out; have := HN.out; omega)).ex
        obtain ⟨tt, ht⟩ : ∃ tt, tt = Strs.mT z := ⟨_, rfl⟩
        rw [← ht] at hkt
        have HT := Aside0.mk hkt
        clear hkt ht
        have p1 : (0 : Int) ≤ (i : Int) := by omega
        have q1 : (i : Int) < (n : Int) := by omega
        have hw1 : wrap64 ((z : Int) + 1) = (z : Int) + 1 := by have := HZ2.out; have := HM.out; have := HN.out; rw [w64 (by omega) (by omega)]
        have hw3 : wrap64 ((i : Int) + 1) = (i : Int) + 1 := by have := HN.out; rw [w64 (by omega) (by omega)]
        go_wp2_with (first | (go_at_call 76; go_loud ((with_reducible refine (laws_markText.calls kt (z : Int) tt _ HT.out).mono ?_); rintro e w2 ⟨rfl, hb⟩; have HK1 := Aside0.mk (HK.out.below hb); have h2 : w2.heap[g]? = some (.cells c1 9 (0, 0)) := (hb.block g (lt_of_some H1.out)).trans H1.out; obtain ⟨hx0, hf0⟩ := cell_at h2 i (by rw [E1.out]; have := HZ.out; have := HI.out; omega); have HK2 := Aside0.mk (HK1.out.setCell (j := i) h2 rfl (.string tt)); clear h2 hb)))
        go_roundg (n - (i + 1))
        case measure => have := HI.out; omega
        case rel => exact ⟨i + 1, z + 1, by go_num, ⟨by have := HZ2.out; omega⟩, by go_num, by have := HI.out; omega, by omega, HK2⟩
      · obtain rfl : i = n := by omega
        go_wp2
        go_ret
        refine ⟨⟨_, by omega, rfl⟩, HK.out.1, HK.out.2.1.mono (fun k hk => ?_), HK.out.2.2⟩
        rw [hk]
        rfl
theorem toS_ev (l : List ByteArray) (hl : l.length ≤ 1048576) : Evt (fun k => laws_toStringS.f k l) l := by
  unfold laws_toStringS.f
  refine Evt.pos (by omega) (Evt.pos (by omega) ?_)
  have h := fill (L := fun k acc i => laws_toStringS.l0 k l acc i) (f := fun i => l.getD i ByteArray.empty) (n := l.length) ?_ ?_ (List.replicate ((l.length : Int)).toNat (⟨#[]⟩ : ByteArray)) (by simp)
  · have e := map_range l ByteArray.empty (fun x => x)
    rw [List.map_id'] at e
    rw [e] at h
    exact h
  · intro acc ha
    refine Evt.step (fun k => laws_toStringS.l0.eq_2 _ _ _ k) (Evt.neg (by omega) (Evt.const _))
  · intro acc i r hi ha hr
    refine Evt.step (fun k => laws_toStringS.l0.eq_2 _ _ _ k) (Evt.pos (by omega) (Evt.pos (by omega) (Evt.pos (by omega) ?_)))
    rw [w64 (n := (i : Int) + 1) (by omega) (by omega)]
    exact hr
theorem szS_ev (l : List ByteArray) (hl : l.length ≤ 9223372036854775807) (hx : ∀ x ∈ l, x.size ≤ 9223372036854775807) (c : Int) (hc0 : 0 ≤ c) (hc1 : c ≤ 1048576) : ∃ r : Int, Evt (fun k => laws_szStringS.f k l c) r ∧ (0 ≤ r → SmallS l) := by
  unfold laws_szStringS.f
  rw [w64 (n := c - (l.length : Int)) (by omega) (by omega)]
  by_cases hbig : (l.length : Int) ≤ c
  · have key : ∀ (m i : Nat) (a : Int), i + m = l.length → 0 ≤ a → a ≤ 1048576 → (∀ x ∈ l.take i, x.size ≤ 1048576) → ∃ r : Int, Evt (fun k => laws_szStringS.l0 k l a (i : Int)) r ∧ (0 ≤ r → SmallS l) := by
      intro m
      induction m with
      | zero =>
        intro i a hi h0 h1 ht
        refine ⟨a, Evt.step (fun k => laws_szStringS.l0.eq_2 _ _ _ k) (Evt.neg (by omega) (Evt.const _)), fun _ => ⟨by omega, ?_⟩⟩
        rwa [List.take_of_length_le (by omega)] at ht
      | succ m ih =>
        intro i a hi h0 h1 ht
        have hi2 : i < l.length := by omega
        have hm := hx _ (List.getElem_mem hi2)
        have hrd : rdOf ByteArray.empty l (i : Int) = l[i] := Strs.rd_get l i hi2
        by_cases hlt : a < l[i].size
        · refine ⟨-1, Evt.step (fun k => laws_szStringS.l0.eq_2 _ _ _ k) (Evt.pos (by omega) (Evt.pos (by omega) ?_)), fun h => by omega⟩
          rw [hrd, w64 (n := a - (l[i].size : Int)) (by omega) (by omega)]
          exact Evt.pos (by omega) (Evt.const _)
        · obtain ⟨r, hr, hb⟩ := ih (i + 1) (a - l[i].size) (by omega) (by omega) (by omega) (by
            intro x hxm
            rw [List.take_succ_eq_append_getElem hi2, List.mem_append, List.mem_singleton] at hxm
            rcases hxm with hxm | rfl
            · exact ht x hxm
            · omega)
          refine ⟨r, Evt.step (fun k => laws_szStringS.l0.eq_2 _ _ _ k) (Evt.pos (by omega) (Evt.pos (by omega) ?_)), hb⟩
          rw [hrd, w64 (n := a - (l[i].size : Int)) (by omega) (by omega), w64 (n := (i : Int) + 1) (by omega) (by omega)]
          exact Evt.neg (by omega) hr
    obtain ⟨r, hr, hb⟩ := key l.length 0 (c - (l.length : Int)) (by omega) (by omega) (by omega) (by simp)
    exact ⟨r, Evt.neg (by omega) hr, hb⟩
  · exact ⟨-1, Evt.pos (by omega) (Evt.const _), fun h => by omega⟩
end Go.Proofs.Ytaomjndfjmfelaa.MkS
end
