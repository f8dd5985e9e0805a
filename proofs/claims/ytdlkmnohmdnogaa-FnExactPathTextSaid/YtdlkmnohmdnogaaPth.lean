/- impl.pathText and impl.PathText, by hand. No conditions. -/
import Derived.Test.YtdlkmnohmdnogaaEsw
import Derived.Test.YtdlkmnohmdnogaaBdr
import Derived.Test.YtdlkmnohmdnogaaPtS
namespace Go.Proofs.Ytdlkmnohmdnogaa.Pth
set_option linter.unusedVariables false
set_option linter.unusedSimpArgs false
open Go.RowKit Go.Lib Go.Proofs.Ytdlkmnohmdnogaa.PQ Go.Proofs.YtdlkmnohmdnogaaW.PrintWords Go.Proofs.YtdlkmnohmdnogaaW.PrintLast Go.Proofs.YtdlkmnohmdnogaaW.PrintMore Go.Proofs.Ytdlkmnohmdnogaa.Pre Go.Proofs.Ytdlkmnohmdnogaa.Esc Go.Proofs.Ytdlkmnohmdnogaa.PtS Go.Proofs.Ytdlkmnohmdnogaa.Bdr Go.Proofs.Ytdlkmnohmdnogaa.Esw

theorem at_later {T e : TypeId} {B b : Nat} {p : Value} {bs : List Value} {w w' : World} (h : BuilderAt T e B b p bs w) (hb : Below w.heap.size w w') : BuilderAt T e B b p bs w' := by
  obtain ⟨hB, v, hbk, hown, hne⟩ := h
  refine ⟨hB, v, blk_below hbk hb, ⟨hown.1, ?_⟩, hne⟩
  rcases hown.2 with h0 | ⟨g, cap, cur, hv, hg, hgk, hr⟩
  · exact .inl h0
  · exact .inr ⟨g, cap, cur, hv, hg, blk_below hgk hb, hr⟩
theorem is_later {T e : TypeId} {B b : Nat} {bs : List Value} {w w' : World} (h : IsBuilder T e B b bs w) (hb : Below w.heap.size w w') : IsBuilder T e B b bs w' := h.elim (fun x => .inl (at_later x hb)) (fun x => .inr (at_later x hb))
theorem cells_next (a : List UInt8) (s : List UInt8) : byteCells a ++ strCells ((⟨#[47]⟩ : ByteArray) ++ mk s) = byteCells (a ++ (47 :: s)) := by
  have h : (⟨#[47]⟩ : ByteArray) ++ mk s = mk (47 :: s) := mk_append [47] s
  rw [h, byteCells_append]
  rfl
/-- The builder behind so many names: never written, or used. -/
def Bd (w : World) (b : Nat) (l : List ByteArray) : Prop :=
  (l = [] ∧ w.heap[b]? = some (.cells #[.pointer none, .slice none 0 0] 35 (0, 0))) ∨ (l ≠ [] ∧ BuilderAt 35 5 b b (.pointer (some ⟨b, 0, none⟩)) (byteCells (ptxt l)) w)
theorem Bd.is {w : World} {b : Nat} {l : List ByteArray} (h : Bd w b l) : IsBuilder 35 5 b b (byteCells (ptxt l)) w := by
  rcases h with ⟨rfl, h⟩ | ⟨_, h⟩
  · exact .inl ⟨Nat.le_refl _, _, h, World.ownsRow_nil _ _ _ _, by simp [Value.ownBlock]⟩
  · exact .inr h
theorem esc_mk (s : ByteArray) : esc s = mk (eL s.data.toList) := rfl

set_option maxHeartbeats 2000000 in
set_option maxRecDepth 100000 in
theorem text_calls (A : Option Addr) (c : Nat) (l : List ByteArray) (w : World) (hr : Kd.C Kd.string w A l.length l) (hl : l.length ≤ 60) (hz : ∀ s ∈ l, s.size ≤ 1048576) :
    Calls Try.prog 11 #[.slice A l.length c] w fun e w' => e = .returned (.string (mk (ptxt l))) ∧ Below w.heap.size w w' := by
  have HR := Aside0.mk hr
  have HL := Aside0.mk hl
  have HZ := Aside0.mk hz
  clear hr hl hz
  go_enter Try.func11, Try.ntmps11
  go_wp2
  go_loopg [9] l.length (fun kq v9 w' => ∃ i : Nat, v9 = .int .i64 (i : Int) ∧ i ≤ l.length ∧ kq = l.length - i ∧ Aside0 (Bd w' w.heap.size (l.take i)) ∧ Aside0 (Below w.heap.size w w') ∧ Aside0 (w.heap.size < w'.heap.size))
  case atStart =>
    refine ⟨0, rfl, by omega, by omega, ⟨.inl ⟨rfl, ?_⟩⟩, ⟨below_alloc (Below.refl _ _) _⟩, ⟨by simp⟩⟩
    exact blk_new w _
  case round =>
    obtain ⟨i, rfl, hi, hk, HBD, HB, HW⟩ := hrel
    by_cases hlt : i < l.length
    · have HI := Aside0.mk hlt
      have p1 : (0 : Int) ≤ (i : Int) := by omega
      have q1 : (i : Int) < (l.length : Int) := by omega
      obtain ⟨ad, rfl, hx⟩ := Kd.at_string HR.out (i : Int) p1 q1
      replace hx := (HB.out.cell (World.block_lt_of_cell? w _ hx)).trans hx
      rw [rd_get l i hlt, Int.toNat_natCast] at hx
      obtain ⟨x, hxe⟩ : ∃ x, x = l[i] := ⟨_, rfl⟩
      rw [← hxe] at hx
      have HX : Aside0 (x.size ≤ 1048576) := ⟨by rw [hxe]; exact HZ.out _ (List.getElem_mem hlt)⟩
      have HNX : Aside0 (ptxt (l.take (i + 1)) = ptxt (l.take i) ++ (47 :: eL x.data.toList)) := ⟨by rw [hxe]; exact ptxt_next l i hlt⟩
      have HNE : Aside0 (l.take (i + 1) ≠ []) := ⟨by intro e; have := congrArg List.length e; rw [List.length_take, List.length_nil] at this; omega⟩
      have HLN : Aside0 ((byteCells (ptxt (l.take i))).length + ((⟨#[47]⟩ : ByteArray) ++ mk (eL x.data.toList)).size ≤ 140737488355328) := ⟨by
        have h1 := (ptxt_len (l.take i) (fun s hs => HZ.out s (List.mem_of_mem_take hs))).2
        have h2 := List.length_take_le i l
        have h3 := HL.out
        have h4 := eL_len x.data.toList
        have h5 := odd_le x.data.toList
        have h6 : x.data.toList.length = x.size := rfl
        have h7 := HX.out
        rw [byteCells_length, ByteArray.size_append, mk_size]
        have h8 : (⟨#[47]⟩ : ByteArray).size = 1 := rfl
        omega⟩
      have hw1 : wrap64 ((i : Int) + 1) = (i : Int) + 1 := w64 (by omega) (by have := HL.out; omega)
      have HW1 := Aside0.mk hw1
      have hss : (9223372036854775807 < 1 + (mk (eL x.data.toList)).size) = False := eq_false (by clear hw1; have h := HLN.out; rw [ByteArray.size_append] at h; have h8 : (⟨#[47]⟩ : ByteArray).size = 1 := rfl; omega)
      clear hxe
      go_wp2_with (first | (go_at_call 16; go_loud ((with_reducible refine (escaped_calls x _ HX.out).mono ?_); rintro e w2 ⟨rfl, hd⟩; rw [esc_mk]; have HB2 := Aside0.mk (below_step HB.out hd); have HD2 := Aside0.mk (is_later HBD.out.is hd); have HW2 := Aside0.mk (Nat.lt_of_lt_of_le HW.out hd.size); clear hd)) | (go_at_call 15; go_loud ((with_reducible refine (write_calls w.heap.size w.heap.size (byteCells (ptxt (l.take i))) _ _ HD2.out HLN.out (Nat.le_of_lt HW2.out)).mono ?_); rintro e w3 ⟨rfl, h3, hd⟩; have HB3 := Aside0.mk (HB2.out.trans hd); have HD3 := Aside0.mk h3; have HW3 := Aside0.mk (Nat.lt_of_lt_of_le HW2.out hd.size); clear hd h3)))
      go_roundg (l.length - (i + 1))
      case measure => have := HI.out; clear hw1; omega
      case rel => exact ⟨i + 1, by rw [HW1.out]; rfl, by have := HI.out; clear hw1; omega, rfl, ⟨.inr ⟨HNE.out, by rw [HNX.out, ← cells_next]; exact HD3.out⟩⟩, HB3, HW3⟩
    · obtain rfl : i = l.length := by omega
      have hta : l.take l.length = l := List.take_length
      rw [hta] at HBD
      rcases HBD.out with ⟨h0, hbk⟩ | ⟨hne, hat⟩
      · have HE := Aside0.mk h0
        have HK := Aside0.mk hbk
        clear hta h0 hbk
        go_wp2_with (go_at_call 17; go_loud ((with_reducible refine (string_nil w.heap.size w.heap.size _ _ HK.out).mono ?_); rintro e w2 ⟨rfl, hd⟩; have HB2 := Aside0.mk (HB.out.trans hd); clear hd))
        go_ret
        exact ⟨by rw [HE.out]; rfl, HB2.out⟩
      · have HE := Aside0.mk hne
        have HK := Aside0.mk hat
        have HP : Aside0 (ptxt l ≠ []) := ⟨by
          intro e
          have h := (ptxt_len l HZ.out).1
          rw [e] at h
          exact hne (List.eq_nil_of_length_eq_zero (Nat.le_zero.1 h))⟩
        clear hta hne hat
        go_wp2_with (go_at_call 17; go_loud ((with_reducible refine (string_calls w.heap.size w.heap.size _ (ptxt l) _ HK.out HP.out).mono ?_); rintro e w2 ⟨rfl, hd⟩; have HB2 := Aside0.mk (HB.out.trans hd); clear hd))
        go_ret
        exact ⟨rfl, HB2.out⟩

def notS (s : ByteArray) : Bool := !okS s
theorem lit_calls (s : ByteArray) (w : World) (hs : s.size ≤ 1048576) : Calls Try.prog 13 #[.string s] w fun e w' => e = .returned (.bool (notS s)) ∧ Below w.heap.size w w' := by
  obtain ⟨k, hk⟩ := (stringOK_ev s hs).ex
  have E := Aside0.mk hk
  have hnot : ∀ (x : Bool) (w : World), (Op.unary .not (.bool x)).run Try.prog w = .ok (.bool (!x)) w := fun _ _ => rfl
  clear hk hs
  unfold notS
  go_enter Try.func13, Try.ntmps13
  go_wp2_with (go_at_call 14; go_loud ((with_reducible refine (impl_stringOK.calls k s (okS s) _ E.out).mono ?_); rintro e w2 ⟨rfl, hd⟩; have HB2 := Aside0.mk hd.below; clear hd))
  go_ret
  exact ⟨rfl, HB2.out⟩
set_option maxHeartbeats 2000000 in
set_option maxRecDepth 100000 in
theorem index_calls (A : Option Addr) (c : Nat) (l : List ByteArray) (w : World) (hr : Kd.C Kd.string w A l.length l) (hl : l.length ≤ 1048576) (hz : ∀ s ∈ l, s.size ≤ 1048576) :
    Calls Try.prog 18 #[.slice A l.length c, .func (.func 13) #[] #[]] w fun e w' => ∃ n : Int, e = .returned (.int .i64 n) ∧ decide (0 ≤ n) = l.any notS ∧ Below w.heap.size w w' := by
  have HR := Aside0.mk hr
  have HL := Aside0.mk hl
  have HZ := Aside0.mk hz
  clear hr hl hz
  go_enter Try.func18, Try.ntmps18
  go_wp2
  go_loopg [8] l.length (fun kq v8 w' => ∃ i : Nat, v8 = .int .i64 (i : Int) ∧ i ≤ l.length ∧ kq = l.length - i ∧ Aside0 ((l.take i).any notS = false) ∧ Aside0 (Below w.heap.size w w'))
  case atStart => exact ⟨0, rfl, by omega, by omega, ⟨by simp⟩, ⟨Below.refl _ _⟩⟩
  case round =>
    obtain ⟨i, rfl, hi, hk, HE, HB⟩ := hrel
    by_cases hlt : i < l.length
    · have HI := Aside0.mk hlt
      have p1 : (0 : Int) ≤ (i : Int) := by omega
      have q1 : (i : Int) < (l.length : Int) := by omega
      obtain ⟨ad, rfl, hx⟩ := Kd.at_string HR.out (i : Int) p1 q1
      replace hx := (HB.out.cell (World.block_lt_of_cell? w _ hx)).trans hx
      rw [rd_get l i hlt, Int.toNat_natCast] at hx
      obtain ⟨x, hxe⟩ : ∃ x, x = l[i] := ⟨_, rfl⟩
      rw [← hxe] at hx
      have HX : Aside0 (x.size ≤ 1048576) := ⟨by rw [hxe]; exact HZ.out _ (List.getElem_mem hlt)⟩
      have HT : Aside0 ((l.take (i + 1)).any notS = notS x) := ⟨by rw [List.take_succ_eq_append_getElem hlt, List.any_append, HE.out, ← hxe]; simp⟩
      have HM : Aside0 (notS x = true → l.any notS = true) := ⟨fun h => List.any_eq_true.2 ⟨l[i], List.getElem_mem hlt, by rw [← hxe]; exact h⟩⟩
      have HW1 : Aside0 (wrap64 ((i : Int) + 1) = (i : Int) + 1) := ⟨w64 (by omega) (by have := HL.out; omega)⟩
      clear hxe
      obtain ⟨b, hb⟩ : ∃ b, b = notS x := ⟨_, rfl⟩
      have HBB := Aside0.mk hb
      clear hb
      cases b with
      | true =>
        go_wp2_with (first | (go_at_call 13; go_loud ((with_reducible refine (lit_calls x _ HX.out).mono ?_); rintro e w2 ⟨rfl, hb⟩; rw [← HBB.out]; have HB2 := Aside0.mk (below_step HB.out hb); clear hb)))
        go_ret
        exact ⟨(i : Int), rfl, by rw [HM.out HBB.out.symm]; exact decide_eq_true (by omega), HB2.out⟩
      | false =>
        go_wp2_with (first | (go_at_call 13; go_loud ((with_reducible refine (lit_calls x _ HX.out).mono ?_); rintro e w2 ⟨rfl, hb⟩; rw [← HBB.out]; have HB2 := Aside0.mk (below_step HB.out hb); clear hb)))
        go_roundg (l.length - (i + 1))
        case measure => have := HI.out; omega
        case rel => exact ⟨i + 1, by rw [HW1.out]; rfl, by have := HI.out; omega, rfl, ⟨HT.out.trans HBB.out.symm⟩, HB2⟩
    · obtain rfl : i = l.length := by omega
      go_wp2
      go_ret
      exact ⟨-1, rfl, by have h_ := HE.out; rw [List.take_length] at h_; rw [h_]; decide, HB.out⟩
theorem contains_calls (A : Option Addr) (c : Nat) (l : List ByteArray) (w : World) (hr : Kd.C Kd.string w A l.length l) (hl : l.length ≤ 1048576) (hz : ∀ s ∈ l, s.size ≤ 1048576) :
    Calls Try.prog 12 #[.slice A l.length c, .func (.func 13) #[] #[]] w fun e w' => e = .returned (.bool (l.any notS)) ∧ Below w.heap.size w w' := by
  have H := Aside0.mk (index_calls A c l w hr hl hz)
  clear hr hl hz
  go_enter Try.func12, Try.ntmps12
  go_wp2_with (go_at_call 18; go_loud ((with_reducible refine H.out.mono ?_); rintro e w2 ⟨n, rfl, hn, hb⟩; have HN := Aside0.mk hn; have HB2 := Aside0.mk hb; clear hn hb))
  go_ret
  exact ⟨congrArg (fun b => Ending.returned (Value.bool b)) HN.out, HB2.out⟩

/-- What both sides answer. -/
def ans (l : List ByteArray) : ByteArray × Bool := if l.length > 60 ∨ (ptxt l).length > 60 ∨ l.any notS = true then (⟨#[]⟩, false) else (mk (ptxt l), true)
theorem path_calls (A : Option Addr) (c : Nat) (l : List ByteArray) (w : World) (hr : Kd.C Kd.string w A l.length l) (hl : l.length ≤ 1048576) (hz : ∀ s ∈ l, s.size ≤ 1048576) :
    Calls Try.prog 7 #[.slice A l.length c] w fun e w' => e = .returned (.tuple #[.string (ans l).1, .bool (ans l).2]) ∧ Below w.heap.size w w' := by
  have HR := Aside0.mk hr
  have HL := Aside0.mk hl
  have HZ := Aside0.mk hz
  by_cases h1 : l.length > 60
  · have hd : decide ((60 : Int) < (l.length : Int)) = true := decide_eq_true (by omega)
    have he : ans l = (⟨#[]⟩, false) := if_pos (.inl h1)
    rw [he]
    clear hr hl hz h1 he
    go_enter Try.func7, Try.ntmps7
    go_wp2
    go_ret2
    exact ⟨rfl, Below.refl _ _⟩
  · have hd : decide ((60 : Int) < (l.length : Int)) = false := decide_eq_false (by omega)
    have H60 : Aside0 (l.length ≤ 60) := ⟨by omega⟩
    obtain ⟨t, ht⟩ : ∃ t, t = mk (ptxt l) := ⟨_, rfl⟩
    have HT := Aside0.mk ht
    by_cases h2 : t.size > 60
    · have hd2 : decide ((60 : Int) < (t.size : Int)) = true := decide_eq_true (by omega)
      have he : ans l = (⟨#[]⟩, false) := if_pos (.inr (.inl (by rw [ht, mk_size] at h2; exact h2)))
      rw [he]
      clear hr hl hz h1 h2 he ht
      go_enter Try.func7, Try.ntmps7
      go_wp2_with (go_at_call 11; go_loud ((with_reducible refine (text_calls A c l _ HR.out H60.out HZ.out).mono ?_); rintro e w2 ⟨rfl, hb⟩; rw [← HT.out]; have HB2 := Aside0.mk hb; clear hb))
      go_ret2
      exact ⟨rfl, HB2.out⟩
    · have hd2 : decide ((60 : Int) < (t.size : Int)) = false := decide_eq_false (by omega)
      obtain ⟨b, hb⟩ : ∃ b, b = l.any notS := ⟨_, rfl⟩
      have HBB := Aside0.mk hb
      have he : ans l = if b = true then (⟨#[]⟩, false) else (t, true) := by
        unfold ans
        rw [ht, mk_size] at h2
        rw [ht, hb]
        cases l.any notS with
        | true => rw [if_pos (.inr (.inr rfl))]; rfl
        | false => rw [if_neg (fun h => h.elim h1 (fun h => h.elim h2 (fun h => by cases h)))]; rfl
      rw [he]
      clear hr hl hz h1 h2 he ht hb
      cases b with
      | true =>
        go_enter Try.func7, Try.ntmps7
        go_wp2_with (first | (go_at_call 11; go_loud ((with_reducible refine (text_calls A c l _ HR.out H60.out HZ.out).mono ?_); rintro e w2 ⟨rfl, hb⟩; rw [← HT.out]; have HB2 := Aside0.mk hb; clear hb)) | (go_at_call 12; go_loud ((with_reducible refine (contains_calls A c l _ (Kd.C_below HR.out HB2.out) HL.out HZ.out).mono ?_); rintro e w3 ⟨rfl, hb⟩; rw [← HBB.out]; have HB3 := Aside0.mk (below_step HB2.out hb); clear hb)))
        go_ret2
        exact ⟨rfl, HB3.out⟩
      | false =>
        go_enter Try.func7, Try.ntmps7
        go_wp2_with (first | (go_at_call 11; go_loud ((with_reducible refine (text_calls A c l _ HR.out H60.out HZ.out).mono ?_); rintro e w2 ⟨rfl, hb⟩; rw [← HT.out]; have HB2 := Aside0.mk hb; clear hb)) | (go_at_call 12; go_loud ((with_reducible refine (contains_calls A c l _ (Kd.C_below HR.out HB2.out) HL.out HZ.out).mono ?_); rintro e w3 ⟨rfl, hb⟩; rw [← HBB.out]; have HB3 := Aside0.mk (below_step HB2.out hb); clear hb)))
        go_ret2
        exact ⟨rfl, HB3.out⟩
end Go.Proofs.Ytdlkmnohmdnogaa.Pth
