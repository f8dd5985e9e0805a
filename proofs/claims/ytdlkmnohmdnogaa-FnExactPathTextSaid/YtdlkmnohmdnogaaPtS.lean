/- Texts that may be names; a path's text: the reference's side. No conditions. -/
import Derived.Test.YtdlkmnohmdnogaaBytes
import Derived.Test.YtdlkmnohmdnogaaEsc
import Derived.Test.YtdlkmnohmdnogaaPQspecl1Printed
import Derived.Test.YtdlkmnohmdnogaaPQspecl3Text
import Derived.Test.YtdlkmnohmdnogaaPQimplstringOK
namespace Go.Proofs.Ytdlkmnohmdnogaa.PtS
set_option linter.unusedVariables false
set_option linter.unusedSimpArgs false
open Go.RowKit Go.Proofs.Ytdlkmnohmdnogaa.PQ Go.Proofs.YtdlkmnohmdnogaaW.PrintWords Go.Proofs.YtdlkmnohmdnogaaW.PrintLast Go.Proofs.Ytdlkmnohmdnogaa.Pre Go.Proofs.Ytdlkmnohmdnogaa.Esc

def okb (b : UInt8) : Bool := decide (32 ≤ b.toNat ∧ b.toNat ≤ 126)
/-- A text that may be a name. -/
def okS (s : ByteArray) : Bool := s.data.toList.all okb && decide (s.size ≤ 24)
theorem bt_at (s : ByteArray) (i : Nat) (h : i < s.size) : bt s (i : Int) = ((s.data.toList[i]'h).toNat : Int) := by
  rw [← Byt.bytesOf_get s i h]
  simp [bytesOf]
theorem printed_ev (s : ByteArray) (hs : s.size ≤ 1048576) : Evt (fun k => spec_l1Printed.f k s) (okS s) := by
  unfold spec_l1Printed.f
  have key : ∀ (m i : Nat), i + m = s.size → Evt (fun k => spec_l1Printed.l0 k s (i : Int)) ((s.data.toList.drop i).all okb && decide (s.size ≤ 24)) := by
    intro m
    induction m with
    | zero =>
      intro i hi
      refine Evt.step (fun k => spec_l1Printed.l0.eq_2 _ _ k) (Evt.neg (by omega) ((Evt.const _).eq ?_))
      rw [List.drop_eq_nil_of_le (by show s.data.size ≤ i; have : s.data.size = s.size := rfl; omega), List.all_nil, Bool.true_and]
      exact decide_eq_decide.2 (by omega)
    | succ m ih =>
      intro i hi
      have hlt : i < s.size := by omega
      refine Evt.step (fun k => spec_l1Printed.l0.eq_2 _ _ k) (Evt.pos (by omega) (Evt.pos (by omega) ?_))
      rw [w64 (n := (i : Int) + 1) (by omega) (by omega), bt_at s i hlt, List.drop_eq_getElem_cons (show i < s.data.toList.length from hlt), List.all_cons]
      obtain ⟨c, hc⟩ : ∃ c, c = s.data.toList[i]'hlt := ⟨_, rfl⟩
      rw [← hc]
      by_cases h1 : ((c.toNat : Nat) : Int) < 32
      · refine Evt.pos h1 ((Evt.const _).eq ?_)
        have : okb c = false := decide_eq_false (by omega)
        rw [this]
        rfl
      · by_cases h2 : ((c.toNat : Nat) : Int) > 126
        · refine Evt.neg h1 (Evt.pos h2 ((Evt.const _).eq ?_))
          have : okb c = false := decide_eq_false (by omega)
          rw [this]
          rfl
        · refine Evt.neg h1 (Evt.neg h2 ((ih (i + 1) (by omega)).eq ?_))
          have : okb c = true := decide_eq_true (by omega)
          rw [this, Bool.true_and]
  exact key s.size 0 (by omega)
theorem stringOK_ev (s : ByteArray) (hs : s.size ≤ 1048576) : Evt (fun k => impl_stringOK.f k s) (okS s) := by
  unfold impl_stringOK.f okS
  by_cases h : (s.size : Int) > 24
  · refine Evt.pos h ((Evt.const _).eq ?_)
    rw [decide_eq_false (show ¬ s.size ≤ 24 by omega), Bool.and_false]
  · have key : ∀ (m i : Nat), i + m = s.size → Evt (fun k => impl_stringOK.l0 k s (s.size : Int) (i : Int)) ((s.data.toList.drop i).all okb) := by
      intro m
      induction m with
      | zero =>
        intro i hi
        refine Evt.step (fun k => impl_stringOK.l0.eq_2 _ _ _ k) (Evt.neg (by omega) ((Evt.const _).eq ?_))
        rw [List.drop_eq_nil_of_le (by show s.data.size ≤ i; have : s.data.size = s.size := rfl; omega), List.all_nil]
      | succ m ih =>
        intro i hi
        have hlt : i < s.size := by omega
        refine Evt.step (fun k => impl_stringOK.l0.eq_2 _ _ _ k) (Evt.pos (by omega) (Evt.pos (by omega) (Evt.pos (by omega) ?_)))
        rw [w64 (n := (i : Int) + 1) (by omega) (by omega), bt_at s i hlt, List.drop_eq_getElem_cons (show i < s.data.toList.length from hlt), List.all_cons]
        obtain ⟨c, hc⟩ : ∃ c, c = s.data.toList[i]'hlt := ⟨_, rfl⟩
        rw [← hc]
        by_cases h1 : ((c.toNat : Nat) : Int) < 32
        · refine Evt.pos h1 ((Evt.const _).eq ?_)
          have : okb c = false := decide_eq_false (by omega)
          rw [this]
          rfl
        · by_cases h2 : ((c.toNat : Nat) : Int) > 126
          · refine Evt.neg h1 (Evt.pos h2 ((Evt.const _).eq ?_))
            have : okb c = false := decide_eq_false (by omega)
            rw [this]
            rfl
          · refine Evt.neg h1 (Evt.neg h2 ((ih (i + 1) (by omega)).eq ?_))
            have : okb c = true := decide_eq_true (by omega)
            rw [this, Bool.true_and]
    rw [decide_eq_true (show s.size ≤ 24 by omega), Bool.and_true]
    exact Evt.neg h (key s.size 0 (by omega))

/-- A text of these bytes. -/
def mk (l : List UInt8) : ByteArray := ⟨l.toArray⟩
theorem mk_append (a b : List UInt8) : mk a ++ mk b = mk (a ++ b) := by
  apply ByteArray.ext
  show (mk a ++ mk b).data = _
  rw [ByteArray.data_append]
  show a.toArray ++ b.toArray = (a ++ b).toArray
  simp
theorem mk_size (l : List UInt8) : (mk l).size = l.length := by
  show l.toArray.size = _
  simp
theorem mk_self (s : ByteArray) : mk s.data.toList = s := rfl
theorem one_at (s : ByteArray) (i : Nat) (h : i < s.size) : s.extract i (i + 1) = mk [s.data.toList[i]'h] := by
  apply ByteArray.ext
  rw [ByteArray.data_extract]
  apply Array.ext'
  show (s.data.extract i (i + 1)).toList = [s.data.toList[i]]
  rw [Array.toList_extract, List.extract_eq_take_drop, Nat.add_sub_cancel_left, List.drop_eq_getElem_cons (show i < s.data.toList.length from h)]
  rfl
/-- The bytes of a path of these names. -/
def ptxt (l : List ByteArray) : List UInt8 := l.flatMap fun n => 47 :: eL n.data.toList
theorem ptxt_next (l : List ByteArray) (i : Nat) (h : i < l.length) : ptxt (l.take (i + 1)) = ptxt (l.take i) ++ (47 :: eL (l[i]).data.toList) := by
  unfold ptxt
  rw [take_next l i h, List.flatMap_append, List.flatMap_cons, List.flatMap_nil, List.append_nil]
theorem ptxt_len (l : List ByteArray) (hz : ∀ s ∈ l, s.size ≤ 1048576) : l.length ≤ (ptxt l).length ∧ (ptxt l).length ≤ l.length * 2097153 := by
  induction l with
  | nil => exact ⟨Nat.le_refl _, Nat.le_refl _⟩
  | cons s l ih =>
    have h1 := ih (fun x hx => hz x (List.mem_cons_of_mem _ hx))
    have h2 : (ptxt (s :: l)).length = (eL s.data.toList).length + 1 + (ptxt l).length := by
      show ((47 :: eL s.data.toList) ++ ptxt l).length = _
      rw [List.length_append, List.length_cons]
    have h3 := eL_len s.data.toList
    have h4 := odd_le s.data.toList
    have h5 : s.data.toList.length = s.size := rfl
    have h6 := hz s (List.mem_cons_self ..)
    rw [List.length_cons, Nat.add_mul]
    omega
theorem rd_get (l : List ByteArray) (i : Nat) (h : i < l.length) : rdOf ByteArray.empty l (i : Int) = l[i] := by
  unfold rdOf
  simp [h]
theorem text_ev (l : List ByteArray) (hl : l.length ≤ 1048576) (hz : ∀ s ∈ l, s.size ≤ 1048576) : Evt (fun k => spec_l3Text.f k l) (mk (ptxt l)) := by
  unfold spec_l3Text.f
  have inner : ∀ (s : ByteArray) (acc : List UInt8) (j : Nat) (r : ByteArray), s.size ≤ 1048576 → acc.length ≤ 4398046511104 → j < l.length →
      (Evt (fun k => spec_l3Text.l0 k (mk (acc ++ eL s.data.toList)) l (l.length : Int) ((j + 1 : Nat) : Int)) r) → Evt (fun k => spec_l3Text.l1 k (mk acc) s 0 l (l.length : Int) (j : Int)) r := by
    intro s acc j r hs ha hj hr
    have key : ∀ (m i : Nat), i + m = s.size → Evt (fun k => spec_l3Text.l1 k (mk (acc ++ eL (s.data.toList.take i))) s (i : Int) l (l.length : Int) (j : Int)) r := by
      intro m
      induction m with
      | zero =>
        intro i hi
        refine Evt.step (fun k => spec_l3Text.l1.eq_2 _ _ _ _ _ _ k) (Evt.neg (by omega) ?_)
        rw [w64 (n := (j : Int) + 1) (by omega) (by omega), List.take_of_length_le (by show s.data.size ≤ i; have : s.data.size = s.size := rfl; omega)]
        exact hr
      | succ m ih =>
        intro i hi
        have hlt : i < s.size := by omega
        have hlen : (acc ++ eL (s.data.toList.take i)).length ≤ 4398046511104 + 2097152 := by
          rw [List.length_append, eL_len]
          have := odd_take_le s.data.toList i
          have := odd_le s.data.toList
          have h5 : s.data.toList.length = s.size := rfl
          have := List.length_take_le i s.data.toList
          omega
        have hih := ih (i + 1) (by omega)
        rw [eL_next s.data.toList i hlt, ← List.append_assoc] at hih
        refine Evt.step (fun k => spec_l3Text.l1.eq_2 _ _ _ _ _ _ k) (Evt.pos (by omega) (Evt.pos (by omega) ?_))
        rw [w64 (n := (i : Int) + 1) (by omega) (by omega), bt_at s i hlt]
        have hone := one_at s i hlt
        obtain ⟨c, hc⟩ : ∃ c, c = s.data.toList[i]'hlt := ⟨_, rfl⟩
        rw [← hc] at hih hone ⊢
        rw [← mk_append] at hih
        by_cases h1 : c = 126
        · subst h1
          exact Evt.pos rfl (Evt.pos (by rw [mk_size]; omega) hih)
        · refine Evt.neg (fun e => h1 (UInt8.toNat_inj.1 (Int.natCast_inj.1 e))) ?_
          by_cases h2 : c = 47
          · subst h2
            exact Evt.pos rfl (Evt.pos (by rw [mk_size]; omega) hih)
          · have he : e1 c = [c] := by simp [e1, h1, h2]
            rw [he] at hih
            have hx : s.extract (i : Int).toNat ((i : Int) + 1).toNat = mk [c] := hone
            rw [hx]
            exact Evt.neg (fun e => h2 (UInt8.toNat_inj.1 (Int.natCast_inj.1 e))) (Evt.pos (by omega) (Evt.pos (by omega) (Evt.pos (by rw [mk_size, mk_size, List.length_singleton]; omega) hih)))
    have h0 := key s.size 0 (by omega)
    rw [List.take_zero] at h0
    have h1 : acc ++ eL [] = acc := by show acc ++ [] = acc; rw [List.append_nil]
    rw [h1] at h0
    exact h0
  have key : ∀ (m i : Nat), i + m = l.length → Evt (fun k => spec_l3Text.l0 k (mk (ptxt (l.take i))) l (l.length : Int) (i : Int)) (mk (ptxt l)) := by
    intro m
    induction m with
    | zero =>
      intro i hi
      refine Evt.step (fun k => spec_l3Text.l0.eq_2 _ _ _ _ k) (Evt.neg (by omega) ((Evt.const _).eq ?_))
      rw [List.take_of_length_le (by omega)]
    | succ m ih =>
      intro i hi
      have hlt : i < l.length := by omega
      have hih := ih (i + 1) (by omega)
      rw [ptxt_next l i hlt, show ptxt (l.take i) ++ (47 :: eL (l[i]).data.toList) = (ptxt (l.take i) ++ [47]) ++ eL (l[i]).data.toList by simp] at hih
      have hb := (ptxt_len (l.take i) (fun s hs => hz s (List.mem_of_mem_take hs))).2
      have hb2 : (ptxt (l.take i)).length ≤ 2199024304128 := by
        have := List.length_take_le i l
        omega
      refine Evt.step (fun k => spec_l3Text.l0.eq_2 _ _ _ _ k) (Evt.pos (by omega) (Evt.pos (by omega) (Evt.pos (by omega) (Evt.pos (by rw [mk_size]; omega) ?_))))
      rw [rd_get l i hlt]
      have hm : mk (ptxt (l.take i)) ++ (⟨#[47]⟩ : ByteArray) = mk (ptxt (l.take i) ++ [47]) := mk_append _ [47]
      rw [hm]
      exact inner l[i] _ i _ (hz _ (List.getElem_mem hlt)) (by rw [List.length_append, List.length_singleton]; omega) hlt hih
  exact key l.length 0 (by omega)
end Go.Proofs.Ytdlkmnohmdnogaa.PtS
