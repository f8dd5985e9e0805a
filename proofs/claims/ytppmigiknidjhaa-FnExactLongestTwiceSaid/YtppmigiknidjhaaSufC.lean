/- What neighbours have in common: the reference's functions and the program's functions. No conditions. -/
import Derived.Test.YtppmigiknidjhaaSufP
import Derived.Test.YtppmigiknidjhaaBytes
import Derived.Test.YtppmigiknidjhaaPQspecl12Common
import Derived.Test.YtppmigiknidjhaaPQspecl12Is
import Derived.Test.YtppmigiknidjhaaPQspecCommonOf
import Derived.Test.YtppmigiknidjhaaPQspecDistinctIn
import Derived.Test.YtppmigiknidjhaaPQspecIsSuffixes
import Derived.Test.YtppmigiknidjhaaPQspecSuffixesOf
import Derived.Test.YtppmigiknidjhaaPQimplCommonOf
import Derived.Test.YtppmigiknidjhaaPQimplDistinctIn
import Derived.Test.YtppmigiknidjhaaPQimplSuffixesOf
namespace Go.Proofs.Ytppmigiknidjhaa.Suf
set_option linter.unusedVariables false
open Go.RowKit Go.Proofs.Ytppmigiknidjhaa.PQ Go.Proofs.YtppmigiknidjhaaW.PrintWords Go.Proofs.YtppmigiknidjhaaW.PrintLast Go.Proofs.Ytppmigiknidjhaa.Pre Go.Proofs.Ytppmigiknidjhaa.Srt

theorem same_ev (a b : List Int) (hl : a.length ≤ 1048576) : Evt (fun k => spec_l12Same.f k a b) (decide (a = b)) := by
  unfold spec_l12Same.f
  by_cases hn : a.length = b.length
  · refine Evt.pos (by omega) ?_
    have key : ∀ (m i : Nat), i + m = a.length → a.take i = b.take i → Evt (fun k => spec_l12Same.l0 k a b (a.length : Int) (i : Int)) (decide (a = b)) := by
      intro m
      induction m with
      | zero =>
        intro i hi ht
        refine Evt.step (fun k => spec_l12Same.l0.eq_2 _ _ _ _ k) (Evt.neg (by omega) ((Evt.const _).eq ?_))
        rw [List.take_of_length_le (by omega), List.take_of_length_le (by omega)] at ht
        exact (decide_eq_true ht).symm
      | succ m ih =>
        intro i hi ht
        refine Evt.step (fun k => spec_l12Same.l0.eq_2 _ _ _ _ k) (Evt.pos (by omega) (Evt.pos (by omega) (Evt.pos (by omega) (Evt.pos (by omega) ?_))))
        rw [Ints.rd_get a i (by omega), Ints.rd_get b i (by omega), w64 (n := (i : Int) + 1) (by omega) (by omega)]
        by_cases he : a[i] = b[i]
        · refine Evt.pos he (ih (i + 1) (by omega) ?_)
          rw [List.take_succ_eq_append_getElem (by omega), List.take_succ_eq_append_getElem (by omega), ht, he]
        · refine Evt.neg he ((Evt.const _).eq ?_)
          refine (decide_eq_false ?_).symm
          intro e
          subst e
          exact he rfl
    exact key a.length 0 (by omega) rfl
  · refine Evt.neg (by omega) ((Evt.const _).eq ?_)
    refine (decide_eq_false ?_).symm
    intro e
    rw [e] at hn
    exact hn rfl
theorem equal_ev (a b : List Int) (hl : a.length ≤ 1048576) : Evt (fun k => slices_Equal_int_int.f k a b) (decide (a = b)) := by
  unfold slices_Equal_int_int.f
  by_cases hn : a.length = b.length
  · refine Evt.pos (by omega) ?_
    have key : ∀ (m i : Nat), i + m = a.length → a.take i = b.take i → Evt (fun k => slices_Equal_int_int.l0 k a b (a.length : Int) (i : Int)) (decide (a = b)) := by
      intro m
      induction m with
      | zero =>
        intro i hi ht
        refine Evt.step (fun k => slices_Equal_int_int.l0.eq_2 _ _ _ _ k) (Evt.neg (by omega) ((Evt.const _).eq ?_))
        rw [List.take_of_length_le (by omega), List.take_of_length_le (by omega)] at ht
        exact (decide_eq_true ht).symm
      | succ m ih =>
        intro i hi ht
        refine Evt.step (fun k => slices_Equal_int_int.l0.eq_2 _ _ _ _ k) (Evt.pos (by omega) (Evt.pos (by omega) (Evt.pos (by omega) (Evt.pos (by omega) ?_))))
        rw [Ints.rd_get a i (by omega), Ints.rd_get b i (by omega), w64 (n := (i : Int) + 1) (by omega) (by omega)]
        by_cases he : a[i] = b[i]
        · refine Evt.pos he (ih (i + 1) (by omega) ?_)
          rw [List.take_succ_eq_append_getElem (by omega), List.take_succ_eq_append_getElem (by omega), ht, he]
        · refine Evt.neg he ((Evt.const _).eq ?_)
          refine (decide_eq_false ?_).symm
          intro e
          subst e
          exact he rfl
    exact key a.length 0 (by omega) rfl
  · refine Evt.neg (by omega) ((Evt.const _).eq ?_)
    refine (decide_eq_false ?_).symm
    intro e
    rw [e] at hn
    exact hn rfl

/-- How many bytes two lists have in common at their beginnings. -/
def comL : List Int → List Int → Nat
  | x :: xs, y :: ys => if x = y then comL xs ys + 1 else 0
  | _, _ => 0
theorem comL_le : ∀ a b : List Int, comL a b ≤ a.length ∧ comL a b ≤ b.length
  | [], _ => by simp [comL]
  | _ :: _, [] => by simp [comL]
  | x :: xs, y :: ys => by
    have := comL_le xs ys
    unfold comL
    split
    · simp only [List.length_cons]
      omega
    · simp
def com (a b : ByteArray) : Nat := comL (bytesOf a) (bytesOf b)
theorem com_le (a b : ByteArray) : com a b ≤ a.size ∧ com a b ≤ b.size := by
  have := comL_le (bytesOf a) (bytesOf b)
  rw [bytesOf_length, bytesOf_length] at this
  exact this
theorem drop_bt (a : ByteArray) (i : Nat) (h : i < a.size) : (bytesOf a).drop i = bt a (i : Int) :: (bytesOf a).drop (i + 1) := by
  rw [List.drop_eq_getElem_cons (by rw [bytesOf_length]; exact h), Byt.bytesOf_get a i h]
theorem drop_end (a : ByteArray) (i : Nat) (h : a.size ≤ i) : (bytesOf a).drop i = [] := by
  rw [List.drop_eq_nil_iff, bytesOf_length]
  exact h
theorem specCom_ev (a b : ByteArray) (ha : a.size ≤ 1048576) : Evt (fun k => spec_l12Common.f k a b) (com a b : Int) := by
  unfold spec_l12Common.f
  have key : ∀ (m i : Nat), i + m = a.size → Evt (fun k => spec_l12Common.l0 k a b (i : Int)) ((i + comL ((bytesOf a).drop i) ((bytesOf b).drop i) : Nat) : Int) := by
    intro m
    induction m with
    | zero =>
      intro i hi
      rw [drop_end a i (by omega)]
      refine Evt.step (fun k => spec_l12Common.l0.eq_2 _ _ _ k) (Evt.neg (by omega) ((Evt.const _).eq ?_))
      simp [comL]
    | succ m ih =>
      intro i hi
      refine Evt.step (fun k => spec_l12Common.l0.eq_2 _ _ _ k) (Evt.pos (by omega) ?_)
      rw [drop_bt a i (by omega)]
      by_cases hb : i < b.size
      · rw [drop_bt b i hb]
        refine Evt.pos (by omega) (Evt.pos (by omega) ?_)
        simp only [comL]
        by_cases he : bt a (i : Int) = bt b (i : Int)
        · rw [if_pos he]
          refine Evt.pos he ?_
          rw [w64 (n := (i : Int) + 1) (by omega) (by omega)]
          refine (ih (i + 1) (by omega)).eq ?_
          omega
        · rw [if_neg he]
          exact Evt.neg he ((Evt.const _).eq (by simp))
      · rw [drop_end b i (by omega)]
        exact Evt.neg (by omega) ((Evt.const _).eq (by simp [comL]))
  refine (key a.size 0 (by omega)).eq ?_
  simp [com]
theorem implCom_ev (a b : ByteArray) (ha : a.size ≤ 1048576) : Evt (fun k => impl_common.f k a b) (com a b : Int) := by
  unfold impl_common.f
  have key : ∀ (m i : Nat), i + m = a.size → Evt (fun k => impl_common.l0 k a b (i : Int)) ((i + comL ((bytesOf a).drop i) ((bytesOf b).drop i) : Nat) : Int) := by
    intro m
    induction m with
    | zero =>
      intro i hi
      rw [drop_end a i (by omega)]
      refine Evt.step (fun k => impl_common.l0.eq_2 _ _ _ k) (Evt.neg (by omega) ((Evt.const _).eq ?_))
      simp [comL]
    | succ m ih =>
      intro i hi
      refine Evt.step (fun k => impl_common.l0.eq_2 _ _ _ k) (Evt.pos (by omega) ?_)
      rw [drop_bt a i (by omega)]
      by_cases hb : i < b.size
      · rw [drop_bt b i hb]
        refine Evt.pos (by omega) (Evt.pos (by omega) ?_)
        simp only [comL]
        by_cases he : bt a (i : Int) = bt b (i : Int)
        · rw [if_pos he]
          refine Evt.pos he ?_
          rw [w64 (n := (i : Int) + 1) (by omega) (by omega)]
          refine (ih (i + 1) (by omega)).eq ?_
          omega
        · rw [if_neg he]
          exact Evt.neg he ((Evt.const _).eq (by simp))
      · rw [drop_end b i (by omega)]
        exact Evt.neg (by omega) ((Evt.const _).eq (by simp [comL]))
  refine (key a.size 0 (by omega)).eq ?_
  simp [com]

/-- What a place has in common with the one ahead. -/
def comAt (s : ByteArray) (l : List Int) (i : Nat) : Int := if i = 0 then 0 else (com (suf s (l.getD (i - 1) 0).toNat) (suf s (l.getD i 0).toNat) : Int)
def coms (s : ByteArray) (l : List Int) : List Int := (List.range l.length).map (comAt s l)
def Within (s : ByteArray) (l : List Int) : Prop := ∀ x ∈ l, ∃ i : Nat, x = (i : Int) ∧ i ≤ s.size
theorem within_get {s : ByteArray} {l : List Int} (h : Within s l) (i : Nat) (hi : i < l.length) : 0 ≤ rd l (i : Int) ∧ rd l (i : Int) ≤ (s.size : Int) ∧ rd l (i : Int) = l.getD i 0 := by
  obtain ⟨j, e, hj⟩ := h _ (List.getElem_mem hi)
  rw [Ints.rd_get l i hi]
  refine ⟨by omega, by omega, by simp [hi]⟩
theorem ext_suf (s : ByteArray) (i : Nat) : s.extract i s.size = suf s i := rfl
theorem suf_le (s : ByteArray) (i : Nat) : (suf s i).size ≤ s.size := by
  unfold suf
  rw [ByteArray.size_extract]
  omega
theorem commons_ev (s : ByteArray) (hs : s.size ≤ 1048576) (l : List Int) (hl : l.length ≤ 1048576) (hw : Within s l) : Evt (fun k => impl_commons.f k s l) (coms s l) := by
  unfold impl_commons.f
  refine Evt.pos (by omega) (Evt.pos (by omega) ?_)
  by_cases hz : l.length = 0
  · have e : l = [] := List.eq_nil_of_length_eq_zero hz
    subst e
    exact Evt.step (fun k => impl_commons.l0.eq_2 _ _ _ _ k) (Evt.neg (by simp) (Evt.const _))
  · have h := fillFrom (L := fun k acc i => impl_commons.l0 k s l acc i) (f := comAt s l) (n := l.length) 1 (by omega) ?_ ?_ (List.replicate ((l.length : Int)).toNat 0) (by simp) ?_
    · exact h
    · intro acc ha
      exact Evt.step (fun k => impl_commons.l0.eq_2 _ _ _ _ k) (Evt.neg (by omega) (Evt.const _))
    · intro acc i r hi1 hi ha hr
      obtain ⟨a1, a2, a3⟩ := within_get hw (i - 1) (by omega)
      obtain ⟨b1, b2, b3⟩ := within_get hw i hi
      have ei : ((i - 1 : Nat) : Int) = (i : Int) - 1 := by omega
      rw [ei] at a1 a2 a3
      refine Evt.step (fun k => impl_commons.l0.eq_2 _ _ _ _ k) (Evt.pos (by omega) ?_)
      rw [w64 (n := (i : Int) - 1) (by omega) (by omega), w64 (n := (i : Int) + 1) (by omega) (by omega), a3, b3]
      rw [a3] at a1 a2
      rw [b3] at b1 b2
      refine Evt.pos (by omega) (Evt.pos (by omega) (Evt.pos a1 (Evt.pos a2 (Evt.pos (by omega) (Evt.pos b1 (Evt.pos b2 ?_))))))
      rw [ext_suf, ext_suf]
      refine Evt.bind (implCom_ev _ _ (Nat.le_trans (suf_le _ _) hs)) (Evt.pos (by omega) ?_)
      have e : comAt s l i = (com (suf s (l.getD (i - 1) 0).toNat) (suf s (l.getD i 0).toNat) : Int) := by
        unfold comAt
        rw [if_neg (by omega)]
      rw [← e]
      exact hr
    · intro j hj
      obtain rfl : j = 0 := by omega
      rw [List.getElem?_replicate, if_pos (by omega)]
      rfl
theorem specIs_ev (s : ByteArray) (l : List Int) (hl : l.length ≤ 1048576) : Evt (fun k => spec_l12Is.f k s l) (decide (s.size ≤ 120 ∧ l = sufs s)) := by
  unfold spec_l12Is.f
  by_cases h : s.size ≤ 120
  · refine Evt.pos (by omega) (Evt.bind (spec_suffixes s (by omega)) (Evt.bind (same_ev l (sufs s) hl) ((Evt.const _).eq ?_)))
    simp [h]
  · refine Evt.neg (by omega) ((Evt.const _).eq ?_)
    simp [h]
theorem implIs_ev (s : ByteArray) (l : List Int) : Evt (fun k => impl_IsSuffixes.f k s l) (if s.size ≤ 120 then (decide (l = sufs s), true) else (false, false)) := by
  unfold impl_IsSuffixes.f
  by_cases h : s.size ≤ 120
  · rw [if_pos h, impl_suffixes_eq s (by omega)]
    refine Evt.neg (by omega) (Evt.bsome (Evt.bind (equal_ev (sufs s) l (by rw [sufs_len]; omega)) ((Evt.const _).eq ?_)))
    exact congrArg (fun b => (b, true)) (decide_eq_decide.2 eq_comm)
  · rw [if_neg h]
    exact Evt.pos (by omega) (Evt.const _)
theorem implIs2_ev (s : ByteArray) (l : List Int) : Evt (fun k => impl_isSuffixes.f k s l) (decide (s.size ≤ 120 ∧ l = sufs s)) := by
  unfold impl_isSuffixes.f
  refine Evt.bind (implIs_ev s l) ?_
  by_cases h : s.size ≤ 120
  · rw [if_pos h]
    by_cases e : l = sufs s
    · exact Evt.pos (by simpa using e) ((Evt.const _).eq (by simp [h, e]))
    · exact Evt.neg (by simpa using e) ((Evt.const _).eq (by simp [h, e]))
  · rw [if_neg h]
    exact Evt.neg (by simp) ((Evt.const _).eq (by simp [h]))
theorem sufs_within (s : ByteArray) : Within s (sufs s) := by
  intro x hx
  obtain ⟨i, e, hi⟩ := sufs_mem s x hx
  exact ⟨i, e, by omega⟩
/-- What both tell of the places in common. -/
def ansCom (s : ByteArray) (l : List Int) : List Int × Bool := if s.size ≤ 120 ∧ l = sufs s then (coms s l, true) else ([], false)
theorem ansCom_len (s : ByteArray) (l : List Int) : (ansCom s l).1.length ≤ 120 := by
  unfold ansCom
  split
  · rename_i h
    simp only [coms, List.length_map, List.length_range]
    rw [h.2, sufs_len]
    exact h.1
  · simp
theorem implComOf_ev (s : ByteArray) (l : List Int) : Evt (fun k => impl_CommonOf.f k s l) (ansCom s l) := by
  unfold impl_CommonOf.f ansCom
  refine Evt.bind (implIs2_ev s l) ?_
  by_cases h : s.size ≤ 120 ∧ l = sufs s
  · rw [if_pos h]
    refine Evt.pos (by simpa using h) (Evt.bind (commons_ev s (by omega) l (by rw [h.2, sufs_len]; omega) (by rw [h.2]; exact sufs_within s)) (Evt.const _))
  · rw [if_neg h]
    exact Evt.neg (by simpa using h) (Evt.const _)
theorem specComOf_ev (s : ByteArray) (l : List Int) (hl : l.length ≤ 1048576) : Evt (fun k => spec_CommonOf.f k s l) (ansCom s l) := by
  unfold spec_CommonOf.f ansCom
  refine Evt.bind (specIs_ev s l hl) ?_
  by_cases h : s.size ≤ 120 ∧ l = sufs s
  · rw [if_pos h]
    refine Evt.pos (by simpa using h) ?_
    have hs := h.1
    have hw : Within s l := by rw [h.2]; exact sufs_within s
    have hll : l.length ≤ 120 := by rw [h.2, sufs_len]; exact hs
    have key : ∀ (m i : Nat), i + m = l.length → Evt (fun k => spec_CommonOf.l0 k s l ((List.range i).map (comAt s l)) l (l.length : Int) (i : Int)) (coms s l, true) := by
      intro m
      induction m with
      | zero =>
        intro i hi
        refine Evt.step (fun k => spec_CommonOf.l0.eq_2 _ _ _ _ _ _ k) (Evt.neg (by omega) ((Evt.const _).eq ?_))
        rw [show i = l.length by omega]
        rfl
      | succ m ih =>
        intro i hi
        have hr := ih (i + 1) (by omega)
        rw [List.range_succ, List.map_append, List.map_singleton] at hr
        refine Evt.step (fun k => spec_CommonOf.l0.eq_2 _ _ _ _ _ _ k) (Evt.pos (by omega) (Evt.pos (by omega) (Evt.pos (by omega) ?_)))
        rw [w64 (n := (i : Int) + 1) (by omega) (by omega)]
        by_cases hi0 : 0 < i
        · obtain ⟨a1, a2, a3⟩ := within_get hw (i - 1) (by omega)
          obtain ⟨b1, b2, b3⟩ := within_get hw i (by omega)
          have ei : ((i - 1 : Nat) : Int) = (i : Int) - 1 := by omega
          rw [ei] at a1 a2 a3
          rw [w64 (n := (i : Int) - 1) (by omega) (by omega), a3, b3]
          rw [a3] at a1 a2
          rw [b3] at b1 b2
          refine Evt.pos (by omega) (Evt.pos (by omega) (Evt.pos (by omega) (Evt.pos a1 (Evt.pos a2 (Evt.pos b1 (Evt.pos b2 ?_))))))
          rw [ext_suf, ext_suf]
          refine Evt.bind (specCom_ev _ _ (Nat.le_trans (suf_le _ _) (by omega))) (Evt.pos (by simp; omega) ?_)
          have e : comAt s l i = (com (suf s (l.getD (i - 1) 0).toNat) (suf s (l.getD i 0).toNat) : Int) := by
            unfold comAt
            rw [if_neg (by omega)]
          rw [← e]
          exact hr
        · obtain rfl : i = 0 := by omega
          exact Evt.neg (by omega) (Evt.pos (by simp) hr)
    exact key l.length 0 (by omega)
  · rw [if_neg h]
    exact Evt.neg (by simpa using h) (Evt.const _)

/-- How many unlike texts are told of by the first places. -/
def distTo (s : ByteArray) (l : List Int) : Nat → Int
  | 0 => 0
  | i + 1 => distTo s l i + ((s.size : Int) - l.getD i 0) - comAt s l i
theorem dist_bound (s : ByteArray) (l : List Int) (hs : s.size ≤ 120) (hw : Within s l) : ∀ i, i ≤ l.length → -(120 * (i : Int)) ≤ distTo s l i ∧ distTo s l i ≤ 120 * (i : Int) := by
  intro i
  induction i with
  | zero => intro _; simp [distTo]
  | succ i ih =>
    intro hi
    have h := ih (by omega)
    obtain ⟨a1, a2, a3⟩ := within_get hw i (by omega)
    rw [a3] at a1 a2
    have hc : 0 ≤ comAt s l i ∧ comAt s l i ≤ (s.size : Int) - l.getD i 0 := by
      unfold comAt
      split
      · omega
      · have := (com_le (suf s (l.getD (i - 1) 0).toNat) (suf s (l.getD i 0).toNat)).2
        rw [suf_size s (l.getD i 0).toNat (by omega)] at this
        omega
    simp only [distTo]
    omega
def ansDist (s : ByteArray) : Int × Bool := if s.size ≤ 120 then (distTo s (sufs s) s.size, true) else (0, false)
theorem at_bound (s : ByteArray) (l : List Int) (hw : Within s l) (i : Nat) (hi : i < l.length) : 0 ≤ comAt s l i ∧ comAt s l i ≤ (s.size : Int) - l.getD i 0 := by
  obtain ⟨a1, a2, a3⟩ := within_get hw i hi
  rw [a3] at a1 a2
  unfold comAt
  split
  · omega
  · have := (com_le (suf s (l.getD (i - 1) 0).toNat) (suf s (l.getD i 0).toNat)).2
    rw [suf_size s (l.getD i 0).toNat (by omega)] at this
    omega
theorem specDist_ev (s : ByteArray) : Evt (fun k => spec_DistinctIn.f k s) (ansDist s) := by
  unfold spec_DistinctIn.f ansDist
  by_cases hs : s.size ≤ 120
  · rw [if_pos hs]
    refine Evt.neg (by omega) (Evt.bind (spec_suffixes s (by omega)) ?_)
    have hw := sufs_within s
    have hll : (sufs s).length = s.size := sufs_len s
    generalize sufs s = l at *
    have key : ∀ (m i : Nat), i + m = l.length → Evt (fun k => spec_DistinctIn.l0 k s l (distTo s l i) l (l.length : Int) (i : Int)) (distTo s l s.size, true) := by
      intro m
      induction m with
      | zero =>
        intro i hi
        refine Evt.step (fun k => spec_DistinctIn.l0.eq_2 _ _ _ _ _ _ k) (Evt.neg (by omega) ((Evt.const _).eq ?_))
        rw [show i = s.size by omega]
      | succ m ih =>
        intro i hi
        have hb := dist_bound s l hs hw i (by omega)
        have hc := at_bound s l hw i (by omega)
        have hr := ih (i + 1) (by omega)
        simp only [distTo] at hr
        obtain ⟨b1, b2, b3⟩ := within_get hw i (by omega)
        refine Evt.step (fun k => spec_DistinctIn.l0.eq_2 _ _ _ _ _ _ k) (Evt.pos (by omega) (Evt.pos (by omega) (Evt.pos (by omega) ?_)))
        rw [w64 (n := (i : Int) + 1) (by omega) (by omega), b3]
        rw [b3] at b1 b2
        rw [w64 (n := (s.size : Int) - l.getD i 0) (by omega) (by omega), w64 (n := distTo s l i + ((s.size : Int) - l.getD i 0)) (by omega) (by omega)]
        by_cases hi0 : 0 < i
        · obtain ⟨a1, a2, a3⟩ := within_get hw (i - 1) (by omega)
          have ei : ((i - 1 : Nat) : Int) = (i : Int) - 1 := by omega
          rw [ei] at a1 a2 a3
          rw [w64 (n := (i : Int) - 1) (by omega) (by omega), a3]
          rw [a3] at a1 a2
          refine Evt.pos (by omega) (Evt.pos (by omega) (Evt.pos (by omega) (Evt.pos a1 (Evt.pos a2 (Evt.pos b1 (Evt.pos b2 ?_))))))
          rw [ext_suf, ext_suf]
          have e : comAt s l i = (com (suf s (l.getD (i - 1) 0).toNat) (suf s (l.getD i 0).toNat) : Int) := by
            unfold comAt
            rw [if_neg (by omega)]
          refine Evt.bind ((specCom_ev _ _ (Nat.le_trans (suf_le _ _) (by omega))).eq e.symm) ?_
          rw [w64 (by omega) (by omega)]
          exact hr
        · obtain rfl : i = 0 := by omega
          have e : comAt s l 0 = 0 := rfl
          rw [e, Int.sub_zero] at hr
          exact Evt.neg (by omega) hr
    exact key l.length 0 (by omega)
  · rw [if_neg hs]
    exact Evt.pos (by omega) (Evt.const _)
/-- What both answer. -/
def ansSuf (s : ByteArray) : List Int × Bool := if s.size ≤ 120 then (sufs s, true) else ([], false)
theorem ansSuf_len (s : ByteArray) : (ansSuf s).1.length ≤ 120 := by
  unfold ansSuf
  split
  · rw [sufs_len]
    assumption
  · simp
theorem specSuf_ev (s : ByteArray) : Evt (fun k => spec_SuffixesOf.f k s) (ansSuf s) := by
  unfold spec_SuffixesOf.f ansSuf
  by_cases h : s.size ≤ 120
  · rw [if_pos h]
    exact Evt.neg (by omega) (Evt.bind (spec_suffixes s (by omega)) (Evt.const _))
  · rw [if_neg h]
    exact Evt.pos (by omega) (Evt.const _)
theorem implSuf_ev (s : ByteArray) : impl_SuffixesOf.f s = some (ansSuf s) := by
  unfold impl_SuffixesOf.f ansSuf
  by_cases h : s.size ≤ 120
  · rw [if_neg (by omega), if_pos h, impl_suffixes_eq s (by omega)]
    rfl
  · rw [if_pos (by omega), if_neg h]
theorem implDist_ev (s : ByteArray) : Evt (fun k => impl_DistinctIn.f k s) (ansDist s) := by
  unfold impl_DistinctIn.f
  rw [implSuf_ev]
  refine Evt.bsome ?_
  unfold ansSuf ansDist
  by_cases hs : s.size ≤ 120
  · rw [if_pos hs, if_pos hs]
    have hw := sufs_within s
    have hll : (sufs s).length = s.size := sufs_len s
    refine Evt.pos rfl (Evt.bind (commons_ev s (by omega) (sufs s) (by omega) hw) ?_)
    show Evt (fun k => impl_DistinctIn.l0 k s (sufs s) 0 (coms s (sufs s)) ((coms s (sufs s)).length : Int) 0) _
    generalize sufs s = l at *
    have hcl : (coms s l).length = l.length := by simp [coms]
    rw [hcl]
    have key : ∀ (m i : Nat), i + m = l.length → Evt (fun k => impl_DistinctIn.l0 k s l (distTo s l i) (coms s l) (l.length : Int) (i : Int)) (distTo s l s.size, true) := by
      intro m
      induction m with
      | zero =>
        intro i hi
        refine Evt.step (fun k => impl_DistinctIn.l0.eq_2 _ _ _ _ _ _ k) (Evt.neg (by omega) ((Evt.const _).eq ?_))
        rw [show i = s.size by omega]
      | succ m ih =>
        intro i hi
        have hb := dist_bound s l hs hw i (by omega)
        have hc := at_bound s l hw i (by omega)
        have hr := ih (i + 1) (by omega)
        simp only [distTo] at hr
        obtain ⟨b1, b2, b3⟩ := within_get hw i (by omega)
        have e : rd (coms s l) (i : Int) = comAt s l i := by
          rw [Ints.rd_get _ i (by omega)]
          simp [coms]
        refine Evt.step (fun k => impl_DistinctIn.l0.eq_2 _ _ _ _ _ _ k) (Evt.pos (by omega) (Evt.pos (by omega) (Evt.pos (by omega) (Evt.pos (by omega) ?_))))
        rw [w64 (n := (i : Int) + 1) (by omega) (by omega), b3, e]
        rw [b3] at b1 b2
        rw [w64 (n := (s.size : Int) - l.getD i 0) (by omega) (by omega), w64 (n := (s.size : Int) - l.getD i 0 - comAt s l i) (by omega) (by omega), w64 (by omega) (by omega)]
        rw [show distTo s l i + ((s.size : Int) - l.getD i 0 - comAt s l i) = distTo s l i + ((s.size : Int) - l.getD i 0) - comAt s l i by omega]
        exact hr
    exact key l.length 0 (by omega)
  · rw [if_neg hs, if_neg hs]
    exact Evt.neg (by simp) (Evt.const _)
end Go.Proofs.Ytppmigiknidjhaa.Suf
