/- Several texts in one: what the claim's last text rests on. No conditions. -/
import Derived.Test.YtcngebfcpobnnaaMRh11
import Derived.Test.YtcngebfcpobnnaaMRh14
import Derived.Test.YtcngebfcpobnnaaMRh0
import Derived.Test.YtcngebfcpobnnaaMRh7
import Derived.Test.YtcngebfcpobnnaaMRh8
import Derived.Test.YtcngebfcpobnnaaMRh13
import Derived.Test.YtcngebfcpobnnaaMRh9
section
namespace Go.Proofs.Ytcngebfcpobnnaa.Com
set_option linter.unusedVariables false
open Go.RowKit Go.Proofs.Ytcngebfcpobnnaa.PQ Go.Proofs.YtcngebfcpobnnaaW.PrintWords Go.Proofs.YtcngebfcpobnnaaW.PrintLast Go.Proofs.Ytcngebfcpobnnaa.Pre Go.Proofs.Ytcngebfcpobnnaa.CmpL
/-- How many bytes two lists have in common at their beginnings. -/
def comL : List Int → List Int → Nat
 | x :: xs, y :: ys => if x = y then comL xs ys + 1 else 0
 | _, _ => 0
theorem comL_le : ∀ a b : List Int, comL a b ≤ a.length ∧ comL a b ≤ b.length
 | [], _ => by simp [comL]
 | _ :: _, [] => by simp [comL]
 | x :: xs, y :: ys => by
  have := comL_le xs ys
  unfold comL
  split
  ·
   simp only [List.length_cons]
   omega
  ·
   simp
def com (a b : ByteArray) : Nat := comL (bytesOf a) (bytesOf b)
theorem com_le (a b : ByteArray) : com a b ≤ a.size ∧ com a b ≤ b.size := by
 have := comL_le (bytesOf a) (bytesOf b)
 rw [bytesOf_length, bytesOf_length] at this
 exact this
theorem drop_bt (a : ByteArray) (i : Nat) (h : i < a.size) : (bytesOf a).drop i = bt a (i : Int) :: (bytesOf a).drop (i + 1) := by
 rw [List.drop_eq_getElem_cons (by rw [bytesOf_length]; exact h), Byt.bytesOf_get a i h]
theorem drop_end (a : ByteArray) (i : Nat) (h : a.size ≤ i) : (bytesOf a).drop i = [] := by
 rw [List.drop_eq_nil_iff, bytesOf_length]
 exact h
theorem specCom_ev (a b : ByteArray) (ha : a.size ≤ 1048576) : Evt (fun k => spec_l12Common.f k a b) (com a b : Int) := by
 unfold spec_l12Common.f
 have key : ∀ (m i : Nat), i + m = a.size → Evt (fun k => spec_l12Common.l0 k a b (i : Int)) ((i + comL ((bytesOf a).drop i) ((bytesOf b).drop i) : Nat) : Int) := by
  intro m
  induction m with
  | zero =>
   intro i hi
   rw [drop_end a i (by omega)]
   refine Evt.step (fun k => spec_l12Common.l0.eq_2 _ _ _ k) (Evt.neg (by omega) ((Evt.const _).eq ?_))
   simp [comL]
  | succ m ih =>
   intro i hi
   refine Evt.step (fun k => spec_l12Common.l0.eq_2 _ _ _ k) (Evt.pos (by omega) ?_)
   rw [drop_bt a i (by omega)]
   by_cases hb : i < b.size
   ·
    rw [drop_bt b i hb]
    refine Evt.pos (by omega) (Evt.pos (by omega) ?_)
    simp only [comL]
    by_cases he : bt a (i : Int) = bt b (i : Int)
    ·
     rw [if_pos he]
     refine Evt.pos he ?_
     rw [w64 (n := (i : Int) + 1) (by omega) (by omega)]
     refine (ih (i + 1) (by omega)).eq ?_
     omega
    ·
     rw [if_neg he]
     exact Evt.neg he ((Evt.const _).eq (by simp))
   ·
    rw [drop_end b i (by omega)]
    exact Evt.neg (by omega) ((Evt.const _).eq (by simp [comL]))
 refine (key a.size 0 (by omega)).eq ?_
 simp [com]
theorem implCom_ev (a b : ByteArray) (ha : a.size ≤ 1048576) : Evt (fun k => impl_common.f k a b) (com a b : Int) := by
 unfold impl_common.f
 have key : ∀ (m i : Nat), i + m = a.size → Evt (fun k => impl_common.l0 k a b (i : Int)) ((i + comL ((bytesOf a).drop i) ((bytesOf b).drop i) : Nat) : Int) := by
  intro m
  induction m with
  | zero =>
   intro i hi
   rw [drop_end a i (by omega)]
   refine Evt.step (fun k => impl_common.l0.eq_2 _ _ _ k) (Evt.neg (by omega) ((Evt.const _).eq ?_))
   simp [comL]
  | succ m ih =>
   intro i hi
   refine Evt.step (fun k => impl_common.l0.eq_2 _ _ _ k) (Evt.pos (by omega) ?_)
   rw [drop_bt a i (by omega)]
   by_cases hb : i < b.size
   ·
    rw [drop_bt b i hb]
    refine Evt.pos (by omega) (Evt.pos (by omega) ?_)
    simp only [comL]
    by_cases he : bt a (i : Int) = bt b (i : Int)
    ·
     rw [if_pos he]
     refine Evt.pos he ?_
     rw [w64 (n := (i : Int) + 1) (by omega) (by omega)]
     refine (ih (i + 1) (by omega)).eq ?_
     omega
    ·
     rw [if_neg he]
     exact Evt.neg he ((Evt.const _).eq (by simp))
   ·
    rw [drop_end b i (by omega)]
    exact Evt.neg (by omega) ((Evt.const _).eq (by simp [comL]))
 refine (key a.size 0 (by omega)).eq ?_
 simp [com]

theorem comL_take : ∀ a b : List Int, a.take (comL a b) = b.take (comL a b)
 | x :: xs, y :: ys => by
  unfold comL
  by_cases h : x = y
  ·
   rw [if_pos h, List.take_succ_cons, List.take_succ_cons, comL_take xs ys, h]
  ·
   rw [if_neg h]
   rfl
 | [], _ => by simp [comL]
 | _ :: _, [] => by simp [comL]
theorem comL_ne : ∀ a b : List Int, ∀ h1 : comL a b < a.length, ∀ h2 : comL a b < b.length, a[comL a b] ≠ b[comL a b]
 | x :: xs, y :: ys, h1, h2 => by
  by_cases h : x = y
  ·
   have e : comL (x :: xs) (y :: ys) = comL xs ys + 1 := by
    conv => lhs; unfold comL
    rw [if_pos h]
   have h3 : comL xs ys < xs.length := by rw [e] at h1; simpa using h1
   have h4 : comL xs ys < ys.length := by rw [e] at h2; simpa using h2
   have := comL_ne xs ys h3 h4
   simp only [e, List.getElem_cons_succ]
   exact this
  ·
   have e : comL (x :: xs) (y :: ys) = 0 := by
    conv => lhs; unfold comL
    rw [if_neg h]
   simp only [e, List.getElem_cons_zero]
   exact h
 | [], _, h1, h2 => by cases h1
 | _ :: _, [], h1, h2 => by cases h2
theorem com_take (a b : ByteArray) : a.extract 0 (com a b) = b.extract 0 (com a b) := by
 apply Byt.bytesOf_inj
 rw [Byt.bytesOf_take, Byt.bytesOf_take]
 exact comL_take _ _
theorem com_ne (a b : ByteArray) (h1 : com a b < a.size) (h2 : com a b < b.size) : bt a (com a b : Int) ≠ bt b (com a b : Int) := by
 have h3 : comL (bytesOf a) (bytesOf b) < (bytesOf a).length := by rw [bytesOf_length]; exact h1
 have h4 : comL (bytesOf a) (bytesOf b) < (bytesOf b).length := by rw [bytesOf_length]; exact h2
 have := comL_ne (bytesOf a) (bytesOf b) h3 h4
 rw [← Byt.bytesOf_get a _ h1, ← Byt.bytesOf_get b _ h2]
 exact this
/-- What begins at a place. -/
def suf (s : ByteArray) (i : Nat) : ByteArray := s.extract i s.size
theorem suf_size (s : ByteArray) (i : Nat) (h : i ≤ s.size) : (suf s i).size = s.size - i := by
 unfold suf
 rw [ByteArray.size_extract]
 omega
theorem suf_0 (s : ByteArray) : suf s 0 = s := by
 apply Byt.bytesOf_inj
 unfold suf
 rw [Byt.bytesOf_drop, List.drop_zero]
theorem comL_comm : ∀ a b : List Int, comL a b = comL b a
 | [], [] => rfl
 | [], _ :: _ => rfl
 | _ :: _, [] => rfl
 | x :: xs, y :: ys => by
  unfold comL
  by_cases h : x = y
  ·
   rw [if_pos h, if_pos h.symm, comL_comm xs ys]
  ·
   rw [if_neg h, if_neg (fun e => h e.symm)]
theorem com_comm (a b : ByteArray) : com a b = com b a := comL_comm _ _
theorem comL_self : ∀ a : List Int, comL a a = a.length
 | [] => rfl
 | x :: xs => by
  unfold comL
  rw [if_pos rfl, comL_self xs, List.length_cons]
theorem com_self (a : ByteArray) : com a a = a.size := by
 unfold com
 rw [comL_self, bytesOf_length]
theorem comL_max : ∀ (k : Nat) (a b : List Int), k ≤ a.length → k ≤ b.length → a.take k = b.take k → k ≤ comL a b
 | 0, _, _, _, _, _ => Nat.zero_le _
 | k + 1, [], _, h, _, _ => by simp at h
 | k + 1, _ :: _, [], _, h, _ => by simp at h
 | k + 1, x :: xs, y :: ys, h1, h2, h => by
  rw [List.take_succ_cons, List.take_succ_cons] at h
  injection h with h3 h4
  unfold comL
  rw [if_pos h3]
  have := comL_max k xs ys (by simpa using h1) (by simpa using h2) h4
  omega
theorem com_max {k : Nat} {a b : ByteArray} (h1 : k ≤ a.size) (h2 : k ≤ b.size) (h : a.extract 0 k = b.extract 0 k) : k ≤ com a b := by
 have h := congrArg bytesOf h
 rw [Byt.bytesOf_take, Byt.bytesOf_take] at h
 exact comL_max k _ _ (by rw [bytesOf_length]; exact h1) (by rw [bytesOf_length]; exact h2) h
theorem comL_drop : ∀ (k : Nat) (a b : List Int), k ≤ comL a b → comL a b = k + comL (a.drop k) (b.drop k)
 | 0, a, b, _ => by simp
 | k + 1, [], b, h => by simp [comL] at h
 | k + 1, _ :: _, [], h => by simp [comL] at h
 | k + 1, x :: xs, y :: ys, h => by
  have h0 : comL (x :: xs) (y :: ys) = if x = y then comL xs ys + 1 else 0 := by conv => lhs; unfold comL
  rw [h0] at h ⊢
  by_cases e : x = y
  ·
   rw [if_pos e] at h ⊢
   have := comL_drop k xs ys (by omega)
   rw [List.drop_succ_cons, List.drop_succ_cons]
   omega
  ·
   rw [if_neg e] at h
   omega
theorem com_suf {k : Nat} {a b : ByteArray} (h : k ≤ com a b) : com a b = k + com (suf a k) (suf b k) := by
 unfold com suf
 rw [Byt.bytesOf_drop, Byt.bytesOf_drop]
 exact comL_drop k _ _ h
theorem bt_take {k i : Nat} {a b : ByteArray} (h : a.extract 0 k = b.extract 0 k) (hi : i < k) (h1 : k ≤ a.size) (h2 : k ≤ b.size) : bt a (i : Int) = bt b (i : Int) := by
 have h := congrArg bytesOf h
 rw [Byt.bytesOf_take, Byt.bytesOf_take] at h
 rw [← Byt.bytesOf_get a i (by omega), ← Byt.bytesOf_get b i (by omega)]
 have h3 := congrArg (fun l => l[i]?) h
 simp only [List.getElem?_take, if_pos hi] at h3
 rw [List.getElem?_eq_getElem (by rw [bytesOf_length]; omega), List.getElem?_eq_getElem (by rw [bytesOf_length]; omega)] at h3
 exact Option.some.inj h3
theorem take_next {k : Nat} {a b : ByteArray} (h : a.extract 0 k = b.extract 0 k) (h1 : k < a.size) (h2 : k < b.size) (h3 : bt a (k : Int) = bt b (k : Int)) : a.extract 0 (k + 1) = b.extract 0 (k + 1) := by
 apply Byt.bytesOf_inj
 have h := congrArg bytesOf h
 rw [Byt.bytesOf_take, Byt.bytesOf_take] at *
 rw [List.take_succ_eq_append_getElem (by rw [bytesOf_length]; exact h1), List.take_succ_eq_append_getElem (by rw [bytesOf_length]; exact h2), h, Byt.bytesOf_get a k h1, Byt.bytesOf_get b k h2, h3]
theorem take_all (a : ByteArray) {k : Nat} (h : a.size ≤ k) : a.extract 0 k = a := by
 apply Byt.bytesOf_inj
 rw [Byt.bytesOf_take, List.take_of_length_le (by rw [bytesOf_length]; exact h)]
theorem take_cut (a : ByteArray) {k m : Nat} (h1 : k ≤ m) (h2 : m ≤ a.size) : a.extract 0 k ++ a.extract k m = a.extract 0 m := by
 apply Byt.bytesOf_inj
 rw [Byt.app_bytes, Byt.bytesOf_take, Byt.bytesOf_take, Byt.bytesOf_mid]
 conv => rhs; rw [show m = k + (m - k) by omega, List.take_add]
theorem toL_take (a : ByteArray) (k : Nat) : (a.extract 0 k).toList = a.toList.take k := by
 rw [ByteArray.toList_eq, ByteArray.toList_eq, ByteArray.data_extract, Array.toList_extract]
 simp [List.extract_eq_take_drop]
theorem toL_len (a : ByteArray) : a.toList.length = a.size := by
 rw [ByteArray.toList_eq]
 exact data_length a
theorem lt_iff (a b : ByteArray) : ltS a b = true ↔ a.toList < b.toList := by
 rw [ltS_eq, decide_eq_true_eq]
/-- What stands between two texts begins as both do. -/
theorem between {a n z : ByteArray} {k : Nat} (h1 : ltS a n = true) (h2 : ltS n z = true) (ha : k ≤ a.size) (hz : k ≤ z.size) (h : a.extract 0 k = z.extract 0 k) : k ≤ n.size ∧ n.extract 0 k = a.extract 0 k := by
 have h3 := DisC.sandwich (a.toList.take k) ((lt_iff _ _).1 h1) ((lt_iff _ _).1 h2) (List.take_prefix _ _) (by rw [← toL_take, h, toL_take]; exact List.take_prefix _ _)
 have h4 := h3.length_le
 rw [List.length_take, toL_len, toL_len] at h4
 have h5 := List.prefix_iff_eq_take.1 h3
 rw [List.length_take, toL_len, Nat.min_eq_left ha] at h5
 refine ⟨by omega, Byt.toList_inj ?_⟩
 rw [toL_take, toL_take, h5]
/-- What begins another one does not stand behind it. -/
theorem not_behind {a n : ByteArray} (h : ltS a n = true) (hn : n.size ≤ a.size) : n ≠ a.extract 0 n.size := by
 intro e
 have h1 := (lt_iff _ _).1 h
 have h2 := congrArg ByteArray.toList e
 rw [toL_take] at h2
 have h3 : n.toList <+: a.toList := by
  rw [h2]
  exact List.take_prefix _ _
 exact absurd h1 (List.not_lt.2 h3.le)
end Go.Proofs.Ytcngebfcpobnnaa.Com
end

section
namespace Go.Proofs.Ytcngebfcpobnnaa.Rx
set_option linter.unusedVariables false
open Go.RowKit Go.Proofs.Ytcngebfcpobnnaa.PQ Go.Proofs.YtcngebfcpobnnaaW.PrintWords Go.Proofs.YtcngebfcpobnnaaW.PrintLast Go.Proofs.Ytcngebfcpobnnaa.Pre Go.Proofs.Ytcngebfcpobnnaa.CmpL Go.Proofs.Ytcngebfcpobnnaa.Com
abbrev Eg := S64
/-- A name that goes on as another one does. -/
def same (a : ByteArray) (known : Nat) (n : ByteArray) : Bool := decide (bt n (known : Int) = bt a (known : Int))
/-- The edges below one, put behind others. -/
def bld : Nat → List ByteArray → Nat → Nat → List Eg → List Eg
 | 0, _, _, _, out => out
 | _ + 1, [], _, _, out => out
 | f + 1, a :: rest, known, up, out =>
  bld f (rest.drop (rest.takeWhile (same a known)).length) known up
   (bld f (if a.size = com a ((rest.takeWhile (same a known)).getLastD a) then rest.takeWhile (same a known) else a :: rest.takeWhile (same a known)) (com a ((rest.takeWhile (same a known)).getLastD a)) out.length
    (out ++ [⟨a.extract known (com a ((rest.takeWhile (same a known)).getLastD a)), decide (a.size = com a ((rest.takeWhile (same a known)).getLastD a)), (up : Int)⟩]))
/-- Rising names that are alike so far and go on. -/
structure Ok (l : List ByteArray) (known : Nat) : Prop where
 rise : l.Pairwise (fun a b => ltS a b = true)
 more : ∀ n ∈ l, known < n.size
 alike : ∀ n ∈ l, ∀ m ∈ l, n.extract 0 known = m.extract 0 known
theorem Ok.sub {l m : List ByteArray} {known : Nat} (h : Ok l known) (hs : m.Sublist l) : Ok m known :=
 ⟨h.rise.sublist hs, fun n hn => h.more n (hs.subset hn), fun n hn k hk => h.alike n (hs.subset hn) k (hs.subset hk)⟩
/-- What is still to be told. -/
def left (l : List ByteArray) (known : Nat) : Nat := (l.map (fun n => n.size - known)).sum
theorem left_cons (a : ByteArray) (l : List ByteArray) (known : Nat) : left (a :: l) known = (a.size - known) + left l known := by simp [left]
theorem left_sub {l m : List ByteArray} (hs : m.Sublist l) (known : Nat) : left m known ≤ left l known := by
 induction hs with
 | slnil => exact Nat.le_refl _
 | cons a _ ih => rw [left_cons]; omega
 | cons_cons a _ ih => rw [left_cons, left_cons]; omega
theorem left_mono (l : List ByteArray) {k m : Nat} (h : k ≤ m) : left l m ≤ left l k := by
 induction l with
 | nil => exact Nat.le_refl _
 | cons a l ih => rw [left_cons, left_cons]; omega
theorem getLastD_mem {α : Type} (l : List α) (a : α) : l.getLastD a = a ∧ l = [] ∨ l.getLastD a ∈ l := by
 cases l with
 | nil => exact .inl ⟨rfl, rfl⟩
 | cons b l =>
  right
  have e : (b :: l).getLastD a = (b :: l).getLast (by simp) := rfl
  rw [e]
  exact List.getLast_mem _
/-- What a group of names has in common. -/
structure Grp (a : ByteArray) (rest : List ByteArray) (known : Nat) (g : List ByteArray) (whole : Nat) : Prop where
 sub : g.Sublist rest
 le : whole ≤ a.size
 lt : known < whole
 all : ∀ n ∈ g, whole < n.size ∧ n.extract 0 whole = a.extract 0 whole
 ends : a.size ≠ whole → whole < (g.getLastD a).size ∧ g ≠ [] ∧ bt a (whole : Int) ≠ bt (g.getLastD a) (whole : Int)
theorem grp {a : ByteArray} {rest : List ByteArray} {known : Nat} (h : Ok (a :: rest) known) : Grp a rest known (rest.takeWhile (same a known)) (com a ((rest.takeWhile (same a known)).getLastD a)) := by
 have hsub : (rest.takeWhile (same a known)).Sublist rest := List.takeWhile_sublist _
 have hsm : ∀ n ∈ rest.takeWhile (same a known), bt n (known : Int) = bt a (known : Int) := fun n hn => by
  have := List.all_takeWhile (p := same a known) (l := rest)
  rw [List.all_eq_true] at this
  exact of_decide_eq_true (this n hn)
 generalize rest.takeWhile (same a known) = g at *
 have hr := List.pairwise_cons.1 h.rise
 have hg : ∀ n ∈ g, ltS a n = true ∧ known < n.size ∧ n.extract 0 (known + 1) = a.extract 0 (known + 1) := fun n hn => by
  have h1 := h.more n (List.mem_cons_of_mem _ (hsub.subset hn))
  have h2 := h.more a List.mem_cons_self
  exact ⟨hr.1 n (hsub.subset hn), h1, take_next (h.alike _ (List.mem_cons_of_mem _ (hsub.subset hn)) _ List.mem_cons_self) h1 h2 (hsm n hn)⟩
 have ha := h.more a List.mem_cons_self
 obtain ⟨z, hz⟩ : ∃ z, z = g.getLastD a := ⟨_, rfl⟩
 have hzz : z = a ∨ (z ∈ g) := by
  rcases getLastD_mem g a with ⟨e, _⟩ | hm
  ·
   exact .inl (hz.trans e)
  ·
   exact .inr (hz ▸ hm)
 have hzk : known < z.size ∧ z.extract 0 (known + 1) = a.extract 0 (known + 1) := by
  rcases hzz with rfl | hm
  ·
   exact ⟨ha, rfl⟩
  ·
   exact (hg z hm).2
 have hk : known + 1 ≤ com a z := com_max ha hzk.1 hzk.2.symm
 have hc := com_le a z
 have ht := com_take a z
 rw [← hz]
 refine ⟨hsub, hc.1, hk, fun n hn => ?_, fun hne => ?_⟩
 ·
  have h1 := hg n hn
  have h2 : com a z ≤ n.size ∧ n.extract 0 (com a z) = a.extract 0 (com a z) := by
   by_cases e : n = z
   ·
    rw [e]
    exact ⟨hc.2, ht.symm⟩
   ·
    refine between h1.1 ?_ hc.1 hc.2 ht
    obtain ⟨s, t, hst⟩ := List.append_of_mem hn
    have hzt : z ∈ t := by
     have e1 : z = (n :: t).getLast (by simp) := by
      rw [hz, hst]
      cases s with
      | nil => rfl
      | cons b s =>
       show ((b :: s) ++ n :: t).getLastD a = _
       rw [List.cons_append]
       show (b :: (s ++ n :: t)).getLast _ = _
       rw [List.getLast_cons (by simp), List.getLast_append_of_ne_nil _ (by simp)]
     cases t with
     | nil => exact absurd e1.symm e
     | cons b t =>
      rw [e1, List.getLast_cons (by simp)]
      exact List.getLast_mem _
    have hp := hr.2.sublist hsub
    rw [hst, List.pairwise_append] at hp
    exact (List.pairwise_cons.1 hp.2.1).1 z hzt
  refine ⟨?_, h2.2⟩
  by_cases e : n.size = com a z
  ·
   exact absurd (by rw [e, ← h2.2, take_all n (by omega)]) (not_behind h1.1 (by omega))
  ·
   omega
 ·
  have h1 : com a z < a.size := by omega
  have hgn : g ≠ [] := by
   intro e
   rw [e] at hz
   have : z = a := hz
   rw [this, com_self] at hne
   exact hne rfl
  have hzg : z ∈ g := by
   rcases getLastD_mem g a with ⟨_, e⟩ | hm
   ·
    exact absurd e hgn
   ·
    exact hz ▸ hm
  have h2 : com a z < z.size := by
   by_cases e : z.size = com a z
   ·
    exact absurd (by rw [e, ht, take_all z (by omega)]) (not_behind (hg z hzg).1 (by omega))
   ·
    have := hc.2
    omega
  exact ⟨by rw [← hz]; exact h2, hgn, by rw [← hz]; exact com_ne a z h1 h2⟩
/-- The names that go on below. -/
theorem Grp.ok {a : ByteArray} {rest g : List ByteArray} {known whole : Nat} (h : Ok (a :: rest) known) (hg : Grp a rest known g whole) : Ok (if a.size = whole then g else a :: g) whole := by
 have h1 : Ok (a :: g) known := h.sub (List.Sublist.cons_cons _ hg.sub)
 have hall : ∀ n ∈ a :: g, n.extract 0 whole = a.extract 0 whole := fun n hn => by
  rcases List.mem_cons.1 hn with rfl | hn
  ·
   rfl
  ·
   exact (hg.all n hn).2
 split
 ·
  exact ⟨(List.pairwise_cons.1 h1.rise).2, fun n hn => (hg.all n hn).1, fun n hn m hm => (hg.all n hn).2.trans (hg.all m hm).2.symm⟩
 ·
  refine ⟨h1.rise, fun n hn => ?_, fun n hn m hm => (hall n hn).trans (hall m hm).symm⟩
  rcases List.mem_cons.1 hn with rfl | hn
  ·
   have := hg.le
   omega
  ·
   exact (hg.all n hn).1
theorem Grp.left_lt {a : ByteArray} {rest g : List ByteArray} {known whole : Nat} (h : Ok (a :: rest) known) (hg : Grp a rest known g whole) : left (if a.size = whole then g else a :: g) whole < left (a :: rest) known := by
 have h0 := h.more a List.mem_cons_self
 have h1 := left_sub hg.sub known
 have h2 := left_mono g (Nat.le_of_lt hg.lt)
 have h3 := hg.lt
 have h4 := hg.le
 rw [left_cons]
 split
 ·
  omega
 ·
  rw [left_cons]
  omega
theorem rest_lt {a : ByteArray} {rest : List ByteArray} {known : Nat} (h : Ok (a :: rest) known) (k : Nat) : left (rest.drop k) known < left (a :: rest) known := by
 have h0 := h.more a List.mem_cons_self
 have h1 := left_sub (List.drop_sublist k rest) known
 rw [left_cons]
 omega

/-- The texts so far, and the names. -/
def next (s : List ByteArray × List ByteArray) (e : Eg) : List ByteArray × List ByteArray :=
 (s.1 ++ [s.1.getD e.f2.toNat ⟨#[]⟩ ++ e.f0], if e.f1 = true then s.2 ++ [s.1.getD e.f2.toNat ⟨#[]⟩ ++ e.f0] else s.2)
def run (es : List Eg) (s : List ByteArray × List ByteArray) : List ByteArray × List ByteArray := es.foldl next s
theorem run_app (a b : List Eg) (s : List ByteArray × List ByteArray) : run (a ++ b) s = run b (run a s) := List.foldl_append
theorem run_len (es : List Eg) (s : List ByteArray × List ByteArray) : (run es s).1.length = s.1.length + es.length := by
 induction es generalizing s with
 | nil => rfl
 | cons e es ih =>
  show (run es (next s e)).1.length = _
  rw [ih]
  simp [next]
  omega
theorem take_drop_tw {α : Type} (p : α → Bool) (l : List α) : l.takeWhile p ++ l.drop (l.takeWhile p).length = l := by
 have h : l.drop (l.takeWhile p).length = l.dropWhile p := by
  induction l with
  | nil => rfl
  | cons a l ih =>
   by_cases h : p a = true
   ·
    simp [h, ih]
   ·
    simp [h]
 rw [h, List.takeWhile_append_dropWhile]
theorem drop_tw {α : Type} (p : α → Bool) (l : List α) : l.drop (l.takeWhile p).length = l.dropWhile p := by
 have h := take_drop_tw p l
 have h2 := List.takeWhile_append_dropWhile (p := p) (l := l)
 exact List.append_cancel_left (h.trans h2.symm)
theorem others {a : ByteArray} {rest : List ByteArray} {known : Nat} (hok : Ok (a :: rest) known) : ∀ n ∈ rest.drop (rest.takeWhile (same a known)).length, bt n (known : Int) ≠ bt a (known : Int) := by
 intro n hn e
 rw [drop_tw] at hn
 cases hd : rest.dropWhile (same a known) with
 | nil => rw [hd] at hn; cases hn
 | cons b t =>
  have hb : same a known b = false := by
   have := List.head?_dropWhile_not (same a known) rest
   rw [hd] at this
   simpa using this
  have hsub : List.Sublist (b :: t) rest := hd ▸ List.dropWhile_sublist _
  have hbm : b ∈ rest := hsub.subset List.mem_cons_self
  have hnm : n ∈ rest := by rw [hd] at hn; exact hsub.subset hn
  have hr := List.pairwise_cons.1 hok.rise
  have ha1 := hok.more a List.mem_cons_self
  have hb1 := hok.more b (List.mem_cons_of_mem _ hbm)
  have hn1 := hok.more n (List.mem_cons_of_mem _ hnm)
  have hb2 : bt b (known : Int) ≠ bt a (known : Int) := of_decide_eq_false hb
  rw [hd] at hn
  rcases List.mem_cons.1 hn with rfl | hn
  ·
   exact hb2 e
  ·
   have hlt : ltS b n = true := (List.pairwise_cons.1 (hr.2.sublist hsub)).1 n hn
   have h1 := take_next (hok.alike _ List.mem_cons_self _ (List.mem_cons_of_mem _ hnm)) ha1 hn1 e.symm
   have h2 := between (hr.1 b hbm) hlt (k := known + 1) (by omega) (by omega) h1
   exact hb2 (bt_take h2.2 (Nat.lt_succ_self _) h2.1 (by omega))
/-- What each new edge is. -/
structure New (l : List ByteArray) (known up : Nat) (at_ : Nat) (e : Eg) (i : Nat) : Prop where
 text : ∃ n ∈ l, ∃ x y, known ≤ x ∧ x < y ∧ y ≤ n.size ∧ e.f0 = n.extract x y
 up0 : 0 ≤ e.f2 ∧ e.f2 < (at_ + i : Nat)
 up1 : e.f2 = (up : Int) ∧ (∃ n ∈ l, bt n (known : Int) = bt e.f0 0) ∨ (at_ : Int) ≤ e.f2
theorem bt_extract (n : ByteArray) {x y i : Nat} (h1 : i < y - x) (h2 : y ≤ n.size) : bt (n.extract x y) (i : Int) = bt n ((x + i : Nat) : Int) := by
 have h3 : i < (n.extract x y).size := by rw [ByteArray.size_extract]; omega
 rw [← Byt.bytesOf_get _ i h3, ← Byt.bytesOf_get n (x + i) (by omega)]
 have : (bytesOf (n.extract x y))[i]? = (bytesOf n)[x + i]? := by
  rw [Byt.bytesOf_mid, List.getElem?_take, if_pos h1, List.getElem?_drop]
 rw [List.getElem?_eq_getElem (by rw [bytesOf_length]; exact h3), List.getElem?_eq_getElem (by rw [bytesOf_length]; omega)] at this
 exact Option.some.inj this
/-- All that is known of the edges that are built. -/
theorem bld_all : ∀ (f : Nat) (l : List ByteArray) (known up : Nat) (out : List Eg) (T N : List ByteArray), Ok l known → left l known ≤ f → T.length = out.length → up < out.length → (∀ n ∈ l, T.getD up ⟨#[]⟩ = n.extract 0 known) →
  ∃ E, bld f l known up out = out ++ E ∧ (∃ T', run E (T, N) = (T ++ T', N ++ l) ∧ ∀ t ∈ T', ∃ n ∈ l, t.size ≤ n.size) ∧ (∀ (i : Nat) (h : i < E.length), New l known up out.length E[i] i)
   ∧ E.Pairwise (fun x y => x.f2 = y.f2 → bt x.f0 0 ≠ bt y.f0 0) ∧ (l = [] → E = [])
   ∧ (l ≠ [] → E.length + 1 ≤ 2 * l.length) ∧ (∀ a m, l = a :: m → bt a (known : Int) ≠ bt (m.getLastD a) (known : Int) → E.length + 2 ≤ 2 * l.length)
 | f, [], known, up, out, T, N, _, _, _, _, _ => by
  refine ⟨[], ?_, ⟨[], by simp [run], fun t h => by cases h⟩, fun i h => by simp at h, List.Pairwise.nil, fun _ => rfl, fun h => absurd rfl h, fun a m h => by cases h⟩
  cases f <;> simp [bld]
 | 0, a :: rest, known, up, out, T, N, hok, hl, _, _, _ => by
  have := hok.more a List.mem_cons_self
  rw [left_cons] at hl
  omega
 | f + 1, a :: rest, known, up, out, T, N, hok, hl, hT, hup, hpre => by
  have hg := grp hok
  have hsplit := take_drop_tw (same a known) rest
  have hother := others hok
  have hsm : ∀ n ∈ rest.takeWhile (same a known), bt n (known : Int) = bt a (known : Int) := fun n hn => by
   have := List.all_takeWhile (p := same a known) (l := rest)
   rw [List.all_eq_true] at this
   exact of_decide_eq_true (this n hn)
  simp only [bld]
  generalize rest.takeWhile (same a known) = g at *
  generalize com a (g.getLastD a) = whole at *
  have ha := hok.more a List.mem_cons_self
  have hlt := hg.lt
  have hle := hg.le
  have hL1 := hg.left_lt hok
  have hL2 := rest_lt hok g.length
  have ht : T.getD up ⟨#[]⟩ ++ a.extract known whole = a.extract 0 whole := by rw [hpre a List.mem_cons_self]; exact take_cut a (by omega) hle
  obtain ⟨e, he⟩ : ∃ e : Eg, e = ⟨a.extract known whole, decide (a.size = whole), (up : Int)⟩ := ⟨_, rfl⟩
  obtain ⟨N1, hN1⟩ : ∃ N1, N1 = if a.size = whole then N ++ [a.extract 0 whole] else N := ⟨_, rfl⟩
  have hnx : next (T, N) e = (T ++ [a.extract 0 whole], N1) := by
   rw [he, hN1]
   unfold next
   simp only [Int.toNat_natCast, ht, decide_eq_true_eq]
  rw [← he]
  obtain ⟨E1, h1, ⟨T1, hr1, ht1⟩, hn1, hs1, hz1, hc1, hd1⟩ := bld_all f (if a.size = whole then g else a :: g) whole out.length (out ++ [e]) (T ++ [a.extract 0 whole]) N1 (hg.ok hok) (by omega) (by simp [hT]) (by simp) (fun n hn => by
   rw [List.getD_eq_getElem?_getD, List.getElem?_append_right (by omega), hT, Nat.sub_self]
   show a.extract 0 whole = _
   have hn2 : n ∈ a :: g := by
    split at hn
    ·
     exact List.mem_cons_of_mem _ hn
    ·
     exact hn
   rcases List.mem_cons.1 hn2 with rfl | hn2
   ·
    rfl
   ·
    exact (hg.all n hn2).2.symm)
  have hN2 : N1 ++ (if a.size = whole then g else a :: g) = N ++ (a :: g) := by
   rw [hN1]
   split
   ·
    rename_i e
    rw [take_all a (by omega), List.append_assoc]
    rfl
   ·
    rfl
  rw [hN2] at hr1
  rw [h1]
  obtain ⟨E2, h2, ⟨T2, hr2, ht2⟩, hn2, hs2, hz2, hc2, hd2⟩ := bld_all f (rest.drop g.length) known up (out ++ [e] ++ E1) (T ++ [a.extract 0 whole] ++ T1) (N ++ (a :: g)) (hok.sub ((List.drop_sublist _ _).cons _)) (by omega) (by
   have := run_len E1 (T ++ [a.extract 0 whole], N1)
   rw [hr1] at this
   simp at this ⊢
   omega) (by simp; omega) (fun n hn => by
   rw [List.append_assoc, List.getD_eq_getElem?_getD, List.getElem?_append_left (by omega), ← List.getD_eq_getElem?_getD]
   exact hpre n (List.mem_cons_of_mem _ (List.mem_of_mem_drop hn)))
  rw [h2]
  have hlen : rest.length = g.length + (rest.drop g.length).length := by
   have := congrArg List.length hsplit
   rw [List.length_append] at this
   omega
  have hlE1 := run_len E1 (T ++ [a.extract 0 whole], N1)
  rw [hr1] at hlE1
  have m1 : ∀ x ∈ E1, (out.length : Int) ≤ x.f2 ∧ x.f2 < ((out.length + 1 + E1.length : Nat) : Int) := fun x hx => by
   obtain ⟨i, hi, rfl⟩ := List.getElem_of_mem hx
   have h := hn1 i hi
   have h0 := h.up0
   have hl : (out ++ [e]).length = out.length + 1 := by simp
   rw [hl] at h0
   refine ⟨?_, by omega⟩
   rcases h.up1 with ⟨h1, _⟩ | h1
   ·
    omega
   ·
    rw [hl] at h1
    omega
  have hl2 : (out ++ [e] ++ E1).length = out.length + 1 + E1.length := by simp only [List.length_append, List.length_singleton]
  have m2 : ∀ x ∈ E2, (x.f2 = (up : Int) ∧ ∃ n ∈ rest.drop g.length, bt n (known : Int) = bt x.f0 0) ∨ ((out.length + 1 + E1.length : Nat) : Int) ≤ x.f2 := fun x hx => by
   obtain ⟨i, hi, rfl⟩ := List.getElem_of_mem hx
   have h := (hn2 i hi).up1
   rw [hl2] at h
   exact h
  have he0 : bt e.f0 0 = bt a (known : Int) := by
   rw [he]
   exact bt_extract a (x := known) (y := whole) (i := 0) (by omega) hle
  have he2 : e.f2 = (up : Int) := by rw [he]
  have hsz1 : E1.length ≤ 2 * g.length := by
   by_cases e1 : a.size = whole
   ·
    rw [if_pos e1] at hz1 hc1
    by_cases e2 : g = []
    ·
     rw [hz1 e2]
     exact Nat.zero_le _
    ·
     have := hc1 e2
     omega
   ·
    rw [if_neg e1] at hd1
    have := hd1 a g rfl (hg.ends e1).2.2
    simp only [List.length_cons] at this
    omega
  have hsz2 : E2.length ≤ 2 * (rest.drop g.length).length := by
   by_cases e2 : rest.drop g.length = []
   ·
    rw [hz2 e2]
    exact Nat.zero_le _
   ·
    have := hc2 e2
    omega
  refine ⟨e :: (E1 ++ E2), by simp, ⟨[a.extract 0 whole] ++ T1 ++ T2, ?_, ?_⟩, ?_, ?_, (fun h => by cases h), fun _ => ?_, ?_⟩
  ·
   show run (E1 ++ E2) (next (T, N) e) = _
   rw [hnx, run_app, hr1, hr2, List.append_assoc, List.append_assoc, List.append_assoc]
   conv => rhs; rw [← hsplit]
   simp
  ·
   intro t ht
   rcases List.mem_append.1 ht with ht | ht
   ·
    rcases List.mem_append.1 ht with ht | ht
    ·
     rw [List.mem_singleton.1 ht]
     exact ⟨a, List.mem_cons_self, by rw [ByteArray.size_extract]; omega⟩
    ·
     obtain ⟨n, hn, hs⟩ := ht1 t ht
     have hn2 : n ∈ a :: g := by
      split at hn
      ·
       exact List.mem_cons_of_mem _ hn
      ·
       exact hn
     rcases List.mem_cons.1 hn2 with rfl | hn2
     ·
      exact ⟨n, List.mem_cons_self, hs⟩
     ·
      exact ⟨n, List.mem_cons_of_mem _ (hg.sub.subset hn2), hs⟩
   ·
    obtain ⟨n, hn, hs⟩ := ht2 t ht
    exact ⟨n, List.mem_cons_of_mem _ (List.mem_of_mem_drop hn), hs⟩
  ·
   intro i hi
   cases i with
   | zero =>
    refine ⟨⟨a, List.mem_cons_self, known, whole, Nat.le_refl _, hlt, hle, by show e.f0 = _; rw [he]⟩, ?_, .inl ⟨he2, a, List.mem_cons_self, he0.symm⟩⟩
    show 0 ≤ e.f2 ∧ e.f2 < _
    rw [he2]
    omega
   | succ i =>
    by_cases h : i < E1.length
    ·
     have hx := hn1 i h
     have e1 : (e :: (E1 ++ E2))[i + 1] = E1[i] := by
      rw [List.getElem_cons_succ, List.getElem_append_left h]
     rw [e1]
     obtain ⟨n, hn, x, y, hx1, hx2, hx3, hx4⟩ := hx.text
     have h0 := hx.up0
     have hm := m1 _ (List.getElem_mem h)
     have hl : (out ++ [e]).length = out.length + 1 := by simp
     rw [hl] at h0
     refine ⟨⟨n, ?_, x, y, by omega, hx2, hx3, hx4⟩, ⟨h0.1, by omega⟩, .inr hm.1⟩
     have hn2 : n ∈ a :: g := by
      split at hn
      ·
       exact List.mem_cons_of_mem _ hn
      ·
       exact hn
     rcases List.mem_cons.1 hn2 with rfl | hn2
     ·
      exact List.mem_cons_self
     ·
      exact List.mem_cons_of_mem _ (hg.sub.subset hn2)
    ·
     have h3 : i - E1.length < E2.length := by simp at hi; omega
     have hx := hn2 (i - E1.length) h3
     have e1 : (e :: (E1 ++ E2))[i + 1] = E2[i - E1.length] := by
      rw [List.getElem_cons_succ, List.getElem_append_right (by omega)]
     rw [e1]
     obtain ⟨n, hn, x, y, hx1, hx2, hx3, hx4⟩ := hx.text
     have h0 := hx.up0
     rw [hl2] at h0
     refine ⟨⟨n, List.mem_cons_of_mem _ (List.mem_of_mem_drop hn), x, y, hx1, hx2, hx3, hx4⟩, ⟨h0.1, by omega⟩, ?_⟩
     rcases m2 _ (List.getElem_mem h3) with ⟨h1, m, hm, h2⟩ | h1
     ·
      exact .inl ⟨h1, m, List.mem_cons_of_mem _ (List.mem_of_mem_drop hm), h2⟩
     ·
      exact .inr (by omega)
  ·
   refine List.pairwise_cons.2 ⟨fun x hx h => ?_, List.pairwise_append.2 ⟨hs1, hs2, fun x hx y hy h => ?_⟩⟩
   ·
    rw [he2] at h
    rcases List.mem_append.1 hx with hx | hx
    ·
     have := m1 x hx
     omega
    ·
     rcases m2 x hx with ⟨_, m, hm, h2⟩ | h1
     ·
      rw [he0, ← h2]
      exact fun e => hother m hm e.symm
     ·
      omega
   ·
    have h1 := m1 x hx
    rcases m2 y hy with ⟨h2, _⟩ | h2 <;> omega
  ·
   simp only [List.length_cons, List.length_append]
   omega
  ·
   intro a' m' hm hne
   injection hm with e1 e2
   subst e1
   subst e2
   have hr0 : rest.drop g.length ≠ [] := by
    intro e2
    rw [e2, List.append_nil] at hsplit
    rw [← hsplit] at hne
    rcases getLastD_mem g a with ⟨e3, _⟩ | hm
    ·
     rw [e3] at hne
     exact hne rfl
    ·
     exact hne (hsm _ hm).symm
   have := hc2 hr0
   simp only [List.length_cons, List.length_append]
   omega
end Go.Proofs.Ytcngebfcpobnnaa.Rx
end

section
namespace Go.Proofs.Ytcngebfcpobnnaa.Rx
set_option linter.unusedVariables false
set_option linter.unusedSimpArgs false
open Go.RowKit Go.Proofs.Ytcngebfcpobnnaa.PQ Go.Proofs.YtcngebfcpobnnaaW.PrintWords Go.Proofs.YtcngebfcpobnnaaW.PrintLast Go.Proofs.Ytcngebfcpobnnaa.Pre Go.Proofs.Ytcngebfcpobnnaa.CmpL Go.Proofs.Ytcngebfcpobnnaa.Com
theorem rd_str (l : List ByteArray) (i : Nat) (h : i < l.length) : rdOf ByteArray.empty l (i : Int) = l[i] := by
 show l.getD (i : Int).toNat ByteArray.empty = _
 rw [Int.toNat_natCast, List.getD_eq_getElem?_getD, List.getElem?_eq_getElem h]
 rfl
theorem rd_eg (l : List Eg) (i : Nat) (h : i < l.length) : rd_T64 l (i : Int) = l[i] := by
 unfold rd_T64
 simp [h]
theorem bld_nil (f : Nat) (known up : Nat) (out : List Eg) : bld f [] known up out = out := by cases f <;> rfl
/-- How many edges there are. -/
theorem bld_len (f : Nat) (l : List ByteArray) (known up : Nat) (out : List Eg) (h : Ok l known) (hl : left l known ≤ f) (hup : up < out.length) : ∃ E, bld f l known up out = out ++ E ∧ E.length ≤ 2 * l.length := by
 cases l with
 | nil => exact ⟨[], by rw [bld_nil, List.append_nil], Nat.zero_le _⟩
 | cons a l =>
  obtain ⟨E, h1, _, _, _, _, h2, _⟩ := bld_all f (a :: l) known up out (List.replicate out.length (a.extract 0 known)) [] h hl (by simp) hup (fun n hn => by
   rw [List.getD_eq_getElem?_getD, List.getElem?_replicate, if_pos hup]
   exact h.alike _ List.mem_cons_self _ hn)
  exact ⟨E, h1, by have := h2 (by simp); omega⟩
theorem group_at {a : ByteArray} {rest : List ByteArray} {known : Nat} : ∀ i (h : i < 1 + (rest.takeWhile (same a known)).length), ∃ h2 : i < (a :: rest).length, bt (a :: rest)[i] (known : Int) = bt a (known : Int)
 | 0, h => ⟨by simp, rfl⟩
 | i + 1, h => by
  have hl := (List.takeWhile_sublist (same a known) (l := rest)).length_le
  refine ⟨by rw [List.length_cons]; omega, ?_⟩
  rw [List.getElem_cons_succ]
  have h2 : i < (rest.takeWhile (same a known)).length := by omega
  have h3 : rest[i]'(by omega) = (rest.takeWhile (same a known))[i] := by
   have := take_drop_tw (same a known) rest
   have e : rest[i]? = (rest.takeWhile (same a known))[i]? := by
    conv => lhs; rw [← this]
    rw [List.getElem?_append_left h2]
   rw [List.getElem?_eq_getElem (by omega), List.getElem?_eq_getElem h2] at e
   exact Option.some.inj e
  rw [h3]
  have := List.all_takeWhile (p := same a known) (l := rest)
  rw [List.all_eq_true] at this
  exact of_decide_eq_true (this _ (List.getElem_mem h2))
theorem group_end {a : ByteArray} {rest : List ByteArray} {known : Nat} (hok : Ok (a :: rest) known) (h : 1 + (rest.takeWhile (same a known)).length < (a :: rest).length) : bt ((a :: rest)[1 + (rest.takeWhile (same a known)).length]) (known : Int) ≠ bt a (known : Int) := by
 refine others hok _ ?_
 have e : (a :: rest)[1 + (rest.takeWhile (same a known)).length] = (rest.drop (rest.takeWhile (same a known)).length)[0]'(by rw [List.length_drop]; rw [List.length_cons] at h; omega) := by
  rw [List.getElem_drop]
  simp only [Nat.add_comm 1, List.getElem_cons_succ, Nat.add_zero]
 rw [e]
 exact List.getElem_mem _
theorem group_last {a : ByteArray} {rest : List ByteArray} {known : Nat} (h : (rest.takeWhile (same a known)).length < (a :: rest).length) : (a :: rest)[(rest.takeWhile (same a known)).length] = (rest.takeWhile (same a known)).getLastD a := by
 have hs := take_drop_tw (same a known) rest
 generalize rest.takeWhile (same a known) = g at *
 have e : (a :: rest)[g.length]? = some (g.getLastD a) := by
  rw [← hs, ← List.cons_append]
  rw [List.getElem?_append_left (by simp)]
  cases g with
  | nil => rfl
  | cons b g =>
   rw [List.length_cons, List.getElem?_cons_succ]
   show (b :: g)[g.length]? = some ((b :: g).getLast (by simp))
   rw [List.getLast_eq_getElem, List.getElem?_eq_getElem (by simp)]
   rfl
 rw [List.getElem?_eq_getElem h] at e
 exact Option.some.inj e
theorem take_group {a : ByteArray} {rest : List ByteArray} {known : Nat} : (a :: rest).take (1 + (rest.takeWhile (same a known)).length) = a :: rest.takeWhile (same a known) ∧ (a :: rest).drop (1 + (rest.takeWhile (same a known)).length) = rest.drop (rest.takeWhile (same a known)).length := by
 have hs := take_drop_tw (same a known) rest
 rw [Nat.add_comm, List.take_succ_cons, List.drop_succ_cons]
 refine ⟨?_, rfl⟩
 congr 1
 have : rest.take (rest.takeWhile (same a known)).length = (rest.takeWhile (same a known) ++ rest.drop (rest.takeWhile (same a known)).length).take (rest.takeWhile (same a known)).length := by rw [hs]
 rw [this, List.take_left]
theorem left_app (l m : List ByteArray) (known : Nat) : left (l ++ m) known = left l known + left m known := by simp [left]
theorem left_ge {l : List ByteArray} {known : Nat} (h : ∀ n ∈ l, known < n.size) : l.length ≤ left l known := by
 induction l with
 | nil => exact Nat.zero_le _
 | cons a l ih =>
  have h1 := h a List.mem_cons_self
  have h2 := ih (fun n hn => h n (List.mem_cons_of_mem _ hn))
  rw [left_cons, List.length_cons]
  omega
theorem beq_nat (a b : Nat) : ((a : Int) == (b : Int)) = decide (a = b) := by
 rw [Bool.eq_iff_iff, beq_iff_eq, decide_eq_true_eq]
 omega
theorem rd_last (l : List Eg) (e : Eg) : rd_T64 (l ++ [e]) (l.length : Int) = e := by
 rw [rd_eg _ _ (by simp)]
 simp
theorem grow_ev : ∀ (f : Nat) (l : List ByteArray) (known up : Nat) (out : List Eg), Ok l known → left l known ≤ f → (∀ n ∈ l, n.size ≤ 1048576) → up < out.length → out.length + 3 * left l known ≤ 1048576 →
  Evt (fun k => impl_grow.l0 k out l (known : Int) (up : Int)) (bld f l known up out)
 | f, [], known, up, out, _, _, _, _, _ => by
  rw [bld_nil]
  exact Evt.step (fun k => impl_grow.l0.eq_2 _ _ _ _ k) (Evt.neg (by simp) (Evt.const _))
 | 0, a :: rest, known, up, out, hok, hl, _, _, _ => by
  have := hok.more a List.mem_cons_self
  rw [left_cons] at hl
  omega
 | f + 1, a :: rest, known, up, out, hok, hl, hsz, hup, hlen => by
  have hg := grp hok
  have hgat := group_at (a := a) (rest := rest) (known := known)
  have hgend := group_end hok
  have hglast := group_last (a := a) (rest := rest) (known := known)
  obtain ⟨htk, hdr⟩ := take_group (a := a) (rest := rest) (known := known)
  have hrest := rest_lt hok (rest.takeWhile (same a known)).length
  simp only [bld]
  generalize hG : rest.takeWhile (same a known) = g at *
  obtain ⟨z, hz⟩ : ∃ z, z = g.getLastD a := ⟨_, rfl⟩
  rw [← hz] at hg hglast ⊢
  have hca := com_le a z
  obtain ⟨whole, hw⟩ : ∃ w, w = com a z := ⟨_, rfl⟩
  rw [← hw] at hg hca ⊢
  have hgl : g.length ≤ rest.length := hg.sub.length_le
  have hL1 := hg.left_lt hok
  have hlt := hg.lt
  have hle := hg.le
  have hzr : z ∈ a :: rest := by
   rcases getLastD_mem g a with ⟨e, _⟩ | hm
   ·
    rw [hz, e]
    exact List.mem_cons_self
   ·
    rw [hz]
    exact List.mem_cons_of_mem _ (hg.sub.subset hm)
  have hza := hsz z hzr
  have haa := hsz a List.mem_cons_self
  have hmz := hok.more z hzr
  have hma := hok.more a List.mem_cons_self
  have hn1 : g.length < (a :: rest).length := by rw [List.length_cons]; omega
  have hsp := take_drop_tw (same a known) rest
  rw [hG] at hsp
  have hleft : left (a :: rest) known = left (a :: g) known + left (rest.drop g.length) known := by
   conv => lhs; rw [← hsp]
   rw [← List.cons_append, left_app]
  have hlg := left_ge (l := a :: g) (known := known) (fun n hn => hok.more n (by
   rcases List.mem_cons.1 hn with rfl | hn
   ·
    exact List.mem_cons_self
   ·
    exact List.mem_cons_of_mem _ (hg.sub.subset hn)))
  have hlr := left_ge hok.more
  rw [List.length_cons] at hlg hlr
  have hj : Evt (fun k => impl_grow.j2 k out (a :: rest) (known : Int) (up : Int) ((1 + g.length : Nat) : Int))
    (bld f (rest.drop g.length) known up (bld f (if a.size = whole then g else a :: g) whole out.length (out ++ [⟨a.extract known whole, decide (a.size = whole), (up : Int)⟩]))) := by
   refine Evt.step (fun k => impl_grow.j2.eq_2 _ _ _ _ _ k) ?_
   have e0 : rdOf ByteArray.empty (a :: rest) 0 = a := rd_str (a :: rest) 0 (by simp)
   have e1 : wrap64 (((1 + g.length : Nat) : Int) - 1) = (g.length : Int) := by rw [w64 (by omega) (by omega)]; omega
   rw [e0, e1, rd_str (a :: rest) g.length hn1, hglast hn1]
   clear e0 e1
   refine Evt.pos (by simp) (Evt.pos (by omega) (Evt.pos (by omega) (Evt.pos (by omega) (Evt.pos (by rw [List.length_cons]; omega) (Evt.pos (by omega) ?_)))))
   rw [Int.toNat_natCast]
   have hcs := com_suf (k := known) (a := a) (b := z) (by rw [← hw]; omega)
   refine Evt.bind ((implCom_ev _ _ (by rw [ByteArray.size_extract]; omega)).eq (b := ((whole - known : Nat) : Int)) ?_) ?_
   ·
    rw [← hw] at hcs
    show (com (suf a known) (suf z known) : Int) = _
    omega
   have e2 : wrap64 ((known : Int) + ((whole - known : Nat) : Int)) = (whole : Int) := by rw [w64 (by omega) (by omega)]; omega
   rw [e2]
   clear e2
   refine Evt.pos (by omega) (Evt.pos (by omega) (Evt.pos (by omega) (Evt.bsome (Evt.pos (by omega) (Evt.pos (by rw [List.length_cons]; omega) (Evt.bsome (Evt.pos (by omega) (Evt.pos (by simp; omega) ?_))))))))
   rw [Int.toNat_natCast, Int.toNat_natCast, htk, hdr, beq_nat, rd_last]
   have hok1 := hg.ok hok
   obtain ⟨E1, hE1, hE1l⟩ := bld_len f (if a.size = whole then g else a :: g) whole out.length (out ++ [⟨a.extract known whole, decide (a.size = whole), (up : Int)⟩]) hok1 (by omega) (by simp)
   have hbl : (bld f (if a.size = whole then g else a :: g) whole out.length (out ++ [⟨a.extract known whole, decide (a.size = whole), (up : Int)⟩])).length ≤ out.length + 1 + 2 * g.length + 2 := by
    rw [hE1, List.length_append, List.length_append, List.length_singleton]
    split at hE1l
    ·
     omega
    ·
     rw [List.length_cons] at hE1l
     omega
   have hup2 : up < (bld f (if a.size = whole then g else a :: g) whole out.length (out ++ [⟨a.extract known whole, decide (a.size = whole), (up : Int)⟩])).length := by
    rw [hE1, List.length_append, List.length_append]
    omega
   have h2 := grow_ev f (rest.drop g.length) known up (bld f (if a.size = whole then g else a :: g) whole out.length (out ++ [⟨a.extract known whole, decide (a.size = whole), (up : Int)⟩])) (hok.sub ((List.drop_sublist _ _).cons _)) (by omega) (fun n hn => hsz n (List.mem_cons_of_mem _ (List.mem_of_mem_drop hn))) hup2 (by omega)
   by_cases hs : a.size = whole
   ·
    have h1 := grow_ev f g whole out.length (out ++ [⟨a.extract known whole, decide (a.size = whole), (up : Int)⟩]) (by rw [if_pos hs] at hok1; exact hok1) (by rw [if_pos hs] at hL1; omega) (fun n hn => hsz n (List.mem_cons_of_mem _ (hg.sub.subset hn))) (by simp) (by rw [if_pos hs] at hL1; simp; omega)
    refine Evt.pos (decide_eq_true hs) (Evt.pos (by simp; omega) ?_)
    rw [if_pos hs] at h2 ⊢
    exact Evt.bind (Evt.step (fun k => impl_grow.f.eq_2 _ _ _ _ k) h1) h2
   ·
    have h1 := grow_ev f (a :: g) whole out.length (out ++ [⟨a.extract known whole, decide (a.size = whole), (up : Int)⟩]) (by rw [if_neg hs] at hok1; exact hok1) (by rw [if_neg hs] at hL1; omega) (fun n hn => by
     rcases List.mem_cons.1 hn with rfl | hn
     ·
      exact haa
     ·
      exact hsz n (List.mem_cons_of_mem _ (hg.sub.subset hn))) (by simp) (by rw [if_neg hs] at hL1; simp; omega)
    refine Evt.neg (by show ¬ decide (a.size = whole) = true; rw [decide_eq_false hs]; simp) ?_
    rw [if_neg hs] at h2 ⊢
    exact Evt.bind (Evt.step (fun k => impl_grow.f.eq_2 _ _ _ _ k) h1) h2
  have key : ∀ (m i : Nat), i + m = 1 + g.length → 1 ≤ i → Evt (fun k => impl_grow.l1 k out (a :: rest) (known : Int) (up : Int) (i : Int)) (bld f (rest.drop g.length) known up (bld f (if a.size = whole then g else a :: g) whole out.length (out ++ [⟨a.extract known whole, decide (a.size = whole), (up : Int)⟩]))) := by
   have e0 : rdOf ByteArray.empty (a :: rest) 0 = a := rd_str (a :: rest) 0 (by simp)
   intro m
   induction m with
   | zero =>
    intro i hi h1
    obtain rfl : i = 1 + g.length := by omega
    refine Evt.step (fun k => impl_grow.l1.eq_2 _ _ _ _ _ k) ?_
    by_cases hlt2 : 1 + g.length < (a :: rest).length
    ·
     have hm := hok.more _ (List.getElem_mem hlt2)
     have hne := hgend hlt2
     rw [rd_str (a :: rest) (1 + g.length) hlt2, e0]
     exact Evt.pos (by omega) (Evt.pos (by omega) (Evt.pos (by omega) (Evt.pos (by omega) (Evt.pos (by simp) (Evt.pos (by omega) (Evt.neg hne hj))))))
    ·
     exact Evt.neg (by omega) hj
   | succ m ih =>
    intro i hi h1
    obtain ⟨h2, h3⟩ := hgat i (by omega)
    have hm := hok.more _ (List.getElem_mem h2)
    refine Evt.step (fun k => impl_grow.l1.eq_2 _ _ _ _ _ k) ?_
    rw [rd_str (a :: rest) i h2, e0, w64 (n := (i : Int) + 1) (by omega) (by rw [List.length_cons] at h2; omega)]
    exact Evt.pos (by omega) (Evt.pos (by omega) (Evt.pos (by omega) (Evt.pos (by omega) (Evt.pos (by simp) (Evt.pos (by omega) (Evt.pos h3 (ih (i + 1) (by omega) (by omega))))))))
  refine Evt.step (fun k => impl_grow.l0.eq_2 _ _ _ _ k) (Evt.pos (by simp) ?_)
  exact key g.length 1 (by omega) (Nat.le_refl _)
/-- What is left of names. -/
def sufs (l : List ByteArray) (known : Nat) : List ByteArray := l.map (fun n => suf n known)
theorem sufs_len (l : List ByteArray) (known : Nat) : (sufs l known).length = l.length := by simp [sufs]
theorem rd_sufs (l : List ByteArray) (known i : Nat) (h : i < l.length) : rdOf ByteArray.empty (sufs l known) (i : Int) = suf l[i] known := by
 rw [rd_str _ i (by rw [sufs_len]; exact h)]
 simp [sufs]
theorem bt_suf (n : ByteArray) (known : Nat) (h : known < n.size) : bt (suf n known) 0 = bt n (known : Int) := by
 have := bt_extract n (x := known) (y := n.size) (i := 0) (by omega) (Nat.le_refl _)
 exact this
theorem suf_suf (n : ByteArray) (k w : Nat) (h : k ≤ w) : (suf n k).extract (w - k) (suf n k).size = suf n w := by
 apply Byt.bytesOf_inj
 unfold suf
 rw [Byt.bytesOf_drop, Byt.bytesOf_drop, Byt.bytesOf_drop, List.drop_drop, show k + (w - k) = w by omega]
theorem suf_take (n : ByteArray) (k w : Nat) (h : k ≤ w) (hw : w ≤ n.size) : (suf n k).extract 0 (w - k) = n.extract k w := by
 apply Byt.bytesOf_inj
 unfold suf
 rw [Byt.bytesOf_take, Byt.bytesOf_drop, Byt.bytesOf_mid]
theorem suf_empty (n : ByteArray) (k : Nat) (h : k ≤ n.size) : ((suf n k).toList == ([] : List UInt8)) = decide (n.size = k) := by
 rw [Bool.eq_iff_iff, beq_iff_eq, decide_eq_true_eq, Byt.toList_nil_iff, suf_size n k h]
 omega
theorem spec_ev : ∀ (f : Nat) (l : List ByteArray) (known up : Nat) (out : List Eg), Ok l known → left l known ≤ f → (∀ n ∈ l, n.size ≤ 1048576) → up < out.length → out.length + 3 * left l known ≤ 1048576 →
  Evt (fun k => spec_l13Build.l0 k (sufs l known) out (up : Int)) (bld f l known up out)
 | f, [], known, up, out, _, _, _, _, _ => by
  rw [bld_nil]
  exact Evt.step (fun k => spec_l13Build.l0.eq_2 _ _ _ k) (Evt.neg (by simp [sufs]) (Evt.const _))
 | 0, a :: rest, known, up, out, hok, hl, _, _, _ => by
  have := hok.more a List.mem_cons_self
  rw [left_cons] at hl
  omega
 | f + 1, a :: rest, known, up, out, hok, hl, hsz, hup, hlen => by
  have hg := grp hok
  have hgat := group_at (a := a) (rest := rest) (known := known)
  have hgend := group_end hok
  obtain ⟨htk, hdr⟩ := take_group (a := a) (rest := rest) (known := known)
  have hrest := rest_lt hok (rest.takeWhile (same a known)).length
  have hsp := take_drop_tw (same a known) rest
  simp only [bld]
  generalize hG : rest.takeWhile (same a known) = g at *
  obtain ⟨z, hz⟩ : ∃ z, z = g.getLastD a := ⟨_, rfl⟩
  rw [← hz] at hg ⊢
  have hca := com_le a z
  obtain ⟨whole, hw⟩ : ∃ w, w = com a z := ⟨_, rfl⟩
  rw [← hw] at hg hca ⊢
  have hgl : g.length ≤ rest.length := hg.sub.length_le
  have hL1 := hg.left_lt hok
  have hlt := hg.lt
  have hle := hg.le
  have hgm : ∀ n ∈ a :: g, n ∈ a :: rest := fun n hn => by
   rcases List.mem_cons.1 hn with rfl | hn
   ·
    exact List.mem_cons_self
   ·
    exact List.mem_cons_of_mem _ (hg.sub.subset hn)
  have hleft : left (a :: rest) known = left (a :: g) known + left (rest.drop g.length) known := by
   conv => lhs; rw [← hsp]
   rw [← List.cons_append, left_app]
  have hlg := left_ge (l := a :: g) (known := known) (fun n hn => hok.more n (hgm n hn))
  have hlr := left_ge hok.more
  have haa := hsz a List.mem_cons_self
  have hma := hok.more a List.mem_cons_self
  rw [List.length_cons] at hlg hlr
  have hsa : (suf a known).size = a.size - known := suf_size a known (by omega)
  have hok1 := hg.ok hok
  have hall : ∀ n ∈ a :: g, whole ≤ n.size ∧ n.extract 0 whole = a.extract 0 whole := fun n hn => by
   rcases List.mem_cons.1 hn with rfl | hn
   ·
    exact ⟨hle, rfl⟩
   ·
    exact ⟨Nat.le_of_lt (hg.all n hn).1, (hg.all n hn).2⟩
  obtain ⟨W, hW⟩ : ∃ W, W = whole - known := ⟨_, rfl⟩
  have hcs : ∀ n ∈ a :: g, W ≤ com (suf n known) (suf a known) := fun n hn => by
   have h1 := com_max (hall n hn).1 hle (hall n hn).2
   have h2 := com_suf (k := known) (a := n) (b := a) (by omega)
   omega
  have hcz : com (suf z known) (suf a known) = W := by
   have h2 := com_suf (k := known) (a := a) (b := z) (by omega)
   rw [com_comm (suf z known)]
   omega
  obtain ⟨R, hR⟩ : ∃ R, R = bld f (rest.drop g.length) known up (bld f (if a.size = whole then g else a :: g) whole out.length (out ++ [⟨a.extract known whole, decide (a.size = whole), (up : Int)⟩])) := ⟨_, rfl⟩
  have hcall : Evt (fun k => (spec_l13Build.f k (sufs (a :: g) whole) (a.extract known whole) (up : Int) out)) (bld f (if a.size = whole then g else a :: g) whole out.length (out ++ [⟨a.extract known whole, decide (a.size = whole), (up : Int)⟩])) := by
   refine Evt.step (fun k => spec_l13Build.f.eq_2 _ _ _ _ k) (Evt.pos (by simp [sufs]) (Evt.pos (by simp [sufs]) ?_))
   have e0 : rdOf ByteArray.empty (sufs (a :: g) whole) 0 = suf a whole := rd_sufs (a :: g) whole 0 (by simp)
   rw [e0, suf_empty a whole hle]
   refine Evt.step (fun k => spec_l13Build.j0.eq_2 _ _ _ _ _ _ _ k) ?_
   by_cases hs : a.size = whole
   ·
    rw [if_pos hs] at hok1 hL1
    refine Evt.pos (decide_eq_true hs) (Evt.pos (by simp [sufs]; omega) (Evt.step (fun k => spec_l13Build.j1.eq_2 _ _ _ _ _ _ k) (Evt.pos (by omega) ?_)))
    rw [if_pos hs, decide_eq_true hs]
    exact spec_ev f g whole out.length _ hok1 (by omega) (fun n hn => hsz n (hgm n (List.mem_cons_of_mem _ hn))) (by simp) (by simp; omega)
   ·
    rw [if_neg hs] at hok1 hL1
    refine Evt.neg (by rw [decide_eq_false hs]; simp) (Evt.step (fun k => spec_l13Build.j1.eq_2 _ _ _ _ _ _ k) (Evt.pos (by omega) ?_))
    rw [if_neg hs, decide_eq_false hs]
    exact spec_ev f (a :: g) whole out.length _ hok1 (by omega) (fun n hn => hsz n (hgm n hn)) (by simp) (by simp; omega)
  have hnext : Evt (fun k => spec_l13Build.l0 k (sufs (rest.drop g.length) known) (bld f (if a.size = whole then g else a :: g) whole out.length (out ++ [⟨a.extract known whole, decide (a.size = whole), (up : Int)⟩])) (up : Int)) R := by
   rw [hR]
   obtain ⟨E1, hE1, hE1l⟩ := bld_len f (if a.size = whole then g else a :: g) whole out.length (out ++ [⟨a.extract known whole, decide (a.size = whole), (up : Int)⟩]) hok1 (by omega) (by simp)
   have hbl : (bld f (if a.size = whole then g else a :: g) whole out.length (out ++ [⟨a.extract known whole, decide (a.size = whole), (up : Int)⟩])).length ≤ out.length + 1 + 2 * g.length + 2 := by
    rw [hE1, List.length_append, List.length_append, List.length_singleton]
    split at hE1l
    ·
     omega
    ·
     rw [List.length_cons] at hE1l
     omega
   have hup2 : up < (bld f (if a.size = whole then g else a :: g) whole out.length (out ++ [⟨a.extract known whole, decide (a.size = whole), (up : Int)⟩])).length := by
    rw [hE1, List.length_append, List.length_append]
    omega
   exact spec_ev f (rest.drop g.length) known up _ (hok.sub ((List.drop_sublist _ _).cons _)) (by omega) (fun n hn => hsz n (List.mem_cons_of_mem _ (List.mem_of_mem_drop hn))) hup2 (by omega)
  rw [← hR]
  have htk2 : (sufs (a :: rest) known).take (1 + g.length) = sufs (a :: g) known := by unfold sufs; rw [← List.map_take, htk]
  have hdr2 : (sufs (a :: rest) known).drop (1 + g.length) = sufs (rest.drop g.length) known := by unfold sufs; rw [← List.map_drop, hdr]
  have hlr2 : (sufs (a :: rest) known).length = rest.length + 1 := by rw [sufs_len, List.length_cons]
  have e0 : rdOf ByteArray.empty (sufs (a :: rest) known) 0 = suf a known := rd_sufs (a :: rest) known 0 (by simp)
  -- what is left of the group
  have h3 : ∀ (m i : Nat), i + m = g.length + 1 → Evt (fun k => spec_l13Build.l3 k (sufs (a :: rest) known) out (up : Int) ((1 + g.length : Nat) : Int) (W : Int) (sufs ((a :: g).take i) whole) (sufs (a :: g) known) ((sufs (a :: g) known).length : Int) (i : Int)) R := by
   intro m
   induction m with
   | zero =>
    intro i hi
    refine Evt.step (fun k => spec_l13Build.l3.eq_2 _ _ _ _ _ _ _ _ _ k) (Evt.neg (by rw [sufs_len, List.length_cons]; omega) (Evt.pos (by rw [hlr2]; omega) ?_))
    rw [e0, List.take_of_length_le (by rw [List.length_cons]; omega)]
    refine Evt.pos (by omega) (Evt.pos (by omega) ?_)
    rw [Int.toNat_natCast, hW, suf_take a known whole (by omega) hle]
    refine Evt.bind hcall (Evt.pos (by omega) (Evt.pos (by rw [hlr2]; omega) ?_))
    rw [Int.toNat_natCast, hdr2]
    exact hnext
   | succ m ih =>
    intro i hi
    have hi2 : i < (a :: g).length := by rw [List.length_cons]; omega
    have hr := ih (i + 1) (by omega)
    rw [List.take_succ_eq_append_getElem hi2] at hr
    have hn := List.getElem_mem hi2
    have hal := hall _ hn
    have hss := suf_size (a :: g)[i] known (by omega)
    refine Evt.step (fun k => spec_l13Build.l3.eq_2 _ _ _ _ _ _ _ _ _ k) (Evt.pos (by rw [sufs_len]; omega) (Evt.pos (by omega) (Evt.pos (by rw [sufs_len]; omega) (Evt.pos (by omega) ?_))))
    rw [rd_sufs (a :: g) known i hi2, w64 (n := (i : Int) + 1) (by omega) (by omega)]
    refine Evt.pos (by omega) (Evt.pos (by rw [sufs_len, List.length_take]; omega) ?_)
    rw [Int.toNat_natCast, hW, suf_suf _ known whole (by omega)]
    have e1 : sufs ((a :: g).take i ++ [(a :: g)[i]]) whole = sufs ((a :: g).take i) whole ++ [suf (a :: g)[i] whole] := by unfold sufs; rw [List.map_append]; rfl
    rw [e1] at hr
    rw [hW] at hr
    exact hr
  -- how much the group has in common
  have h2 : ∀ (m i x : Nat), i + m = g.length → W ≤ x → x ≤ a.size - known → (∀ j (h : j < g.length), j < i → x ≤ com (suf g[j] known) (suf a known)) →
    Evt (fun k => spec_l13Build.l2 k (sufs (a :: rest) known) out (up : Int) ((1 + g.length : Nat) : Int) (x : Int) (sufs g known) ((sufs g known).length : Int) (i : Int)) R := by
   intro m
   induction m with
   | zero =>
    intro i x hi h1 h2 h4
    have hx : x = W := by
     rcases getLastD_mem g a with ⟨e1, e2⟩ | hm
     ·
      have e3 : z = a := hz.trans e1
      rw [e3, com_self] at hw
      omega
     ·
      obtain ⟨j, hj, e⟩ := List.getElem_of_mem hm
      have := h4 j hj (by omega)
      rw [e, ← hz, hcz] at this
      omega
    subst hx
    refine Evt.step (fun k => spec_l13Build.l2.eq_2 _ _ _ _ _ _ _ _ k) (Evt.neg (by rw [sufs_len]; omega) (Evt.pos (by omega) (Evt.pos (by rw [hlr2]; omega) (Evt.bsome ?_))))
    rw [Int.toNat_natCast, htk2]
    exact h3 (g.length + 1) 0 (by omega)
   | succ m ih =>
    intro i x hi h1 h2 h4
    have hi2 : i < g.length := by omega
    have hgi := hgm g[i] (List.mem_cons_of_mem _ (List.getElem_mem hi2))
    have hsi := suf_size g[i] known (by have := hok.more _ hgi; omega)
    have hbi := hsz _ hgi
    refine Evt.step (fun k => spec_l13Build.l2.eq_2 _ _ _ _ _ _ _ _ k) (Evt.pos (by rw [sufs_len]; omega) (Evt.pos (by omega) (Evt.pos (by rw [sufs_len]; omega) (Evt.pos (by rw [hlr2]; omega) ?_))))
    rw [rd_sufs g known i hi2, e0, w64 (n := (i : Int) + 1) (by omega) (by omega)]
    refine Evt.bind (specCom_ev _ _ (by omega)) ?_
    have hci := hcs g[i] (List.mem_cons_of_mem _ (List.getElem_mem hi2))
    have hcl := com_le (suf g[i] known) (suf a known)
    obtain ⟨c, hc⟩ : ∃ c, c = com (suf g[i] known) (suf a known) := ⟨_, rfl⟩
    rw [← hc] at hci hcl ⊢
    by_cases hlt2 : c < x
    ·
     refine Evt.pos (by omega) (ih (i + 1) c (by omega) hci (by omega) (fun j hj hji => ?_))
     by_cases e : j = i
     ·
      subst e
      exact Nat.le_of_eq hc
     ·
      have := h4 j hj (by omega)
      omega
    ·
     refine Evt.neg (by omega) (ih (i + 1) x (by omega) h1 h2 (fun j hj hji => ?_))
     by_cases e : j = i
     ·
      subst e
      rw [← hc]
      omega
     ·
      exact h4 j hj (by omega)
  have hj : Evt (fun k => spec_l13Build.j4 k (sufs (a :: rest) known) out (up : Int) ((1 + g.length : Nat) : Int)) R := by
   refine Evt.step (fun k => spec_l13Build.j4.eq_2 _ _ _ _ k) (Evt.pos (by rw [hlr2]; omega) (Evt.pos (by omega) (Evt.pos (by rw [hlr2]; omega) (Evt.bsome ?_))))
   rw [Int.toNat_natCast, htk2, e0, hsa]
   have e1 : (sufs (a :: g) known).drop 1 = sufs g known := rfl
   rw [e1]
   exact h2 g.length 0 (a.size - known) (by omega) (by omega) (Nat.le_refl _) (fun j _ h => absurd h (Nat.not_lt_zero _))
  have key : ∀ (m i : Nat), i + m = 1 + g.length → 1 ≤ i → Evt (fun k => spec_l13Build.l1 k (sufs (a :: rest) known) out (up : Int) (i : Int)) R := by
   intro m
   induction m with
   | zero =>
    intro i hi h1
    obtain rfl : i = 1 + g.length := by omega
    refine Evt.step (fun k => spec_l13Build.l1.eq_2 _ _ _ _ k) ?_
    by_cases hlt2 : 1 + g.length < (a :: rest).length
    ·
     have hm := hok.more _ (List.getElem_mem hlt2)
     have hne := hgend hlt2
     have hs1 := suf_size (a :: rest)[1 + g.length] known (by omega)
     rw [rd_sufs (a :: rest) known (1 + g.length) hlt2, e0]
     exact Evt.pos (by rw [sufs_len]; omega) (Evt.pos (by omega) (Evt.pos (by omega) (Evt.pos (by rw [hlr2]; omega) (Evt.pos (by omega) (Evt.neg (by rw [bt_suf _ known hm, bt_suf _ known hma]; exact hne) hj)))))
    ·
     exact Evt.neg (by rw [sufs_len]; omega) hj
   | succ m ih =>
    intro i hi h1
    obtain ⟨h2, h3⟩ := hgat i (by omega)
    have hm := hok.more _ (List.getElem_mem h2)
    have hs1 := suf_size (a :: rest)[i] known (by omega)
    refine Evt.step (fun k => spec_l13Build.l1.eq_2 _ _ _ _ k) ?_
    rw [rd_sufs (a :: rest) known i h2, e0, w64 (n := (i : Int) + 1) (by omega) (by rw [List.length_cons] at h2; omega)]
    exact Evt.pos (by rw [sufs_len]; omega) (Evt.pos (by omega) (Evt.pos (by omega) (Evt.pos (by rw [hlr2]; omega) (Evt.pos (by omega) (Evt.pos (by rw [bt_suf _ known hm, bt_suf _ known hma]; exact h3) (ih (i + 1) (by omega) (by omega)))))))
  refine Evt.step (fun k => spec_l13Build.l0.eq_2 _ _ _ k) (Evt.pos (by rw [hlr2]; omega) ?_)
  exact key g.length 1 (by omega) (Nat.le_refl _)
end Go.Proofs.Ytcngebfcpobnnaa.Rx
end

section
namespace Go.Proofs.Ytcngebfcpobnnaa.RxL
set_option linter.unusedVariables false
set_option linter.unusedSimpArgs false
open Go.RowKit Go.Proofs.Ytcngebfcpobnnaa.PQ Go.Proofs.YtcngebfcpobnnaaW.PrintWords Go.Proofs.YtcngebfcpobnnaaW.PrintLast Go.Proofs.Ytcngebfcpobnnaa.Pre Go.Proofs.Ytcngebfcpobnnaa.Rx Go.Proofs.Ytcngebfcpobnnaa.Strs
abbrev Ll := S80
def cvE (x : Ll) : Eg := ⟨x.f0, x.f1, x.f2⟩
theorem to_ev (l : List Ll) (hl : l.length ≤ 1048576) : Evt (fun k => laws_toRadix.f k l) (l.map cvE) := by
 unfold laws_toRadix.f
 refine Evt.bind (a := l.map cvE) ?_ (Evt.const _)
 unfold laws_toEdgeS.f
 refine Evt.pos (by omega) (Evt.pos (by omega) ?_)
 have h := fill (L := fun k acc i => laws_toEdgeS.l0 k l acc i) (f := fun i => cvE (l.getD i z80)) (n := l.length) ?_ ?_ (List.replicate ((l.length : Int)).toNat z64) (by simp)
 ·
  rw [map_range] at h
  exact h
 ·
  intro acc ha
  refine Evt.step (fun k => laws_toEdgeS.l0.eq_2 _ _ _ k) (Evt.neg (by omega) (Evt.const _))
 ·
  intro acc i r hi ha hr
  refine Evt.step (fun k => laws_toEdgeS.l0.eq_2 _ _ _ k) (Evt.pos (by omega) (Evt.pos (by omega) ?_))
  unfold laws_toEdge.f
  refine Evt.bsome (Evt.pos (by omega) ?_)
  rw [w64 (n := (i : Int) + 1) (by omega) (by omega)]
  exact hr
theorem eq_ev (l : List Eg) (hl : l.length ≤ 1048576) : Evt (fun k => laws_eqRadix.f k l l) true := by
 unfold laws_eqRadix.f
 refine Evt.bind (a := true) ?_ (Evt.pos rfl (Evt.const _))
 unfold laws_eqEdgeS.f
 refine Evt.pos rfl ?_
 have key : ∀ (m i : Nat), i + m = l.length → Evt (fun k => laws_eqEdgeS.l0 k l l (i : Int)) true := by
  intro m
  induction m with
  | zero => intro i hi; exact Evt.step (fun k => laws_eqEdgeS.l0.eq_2 _ _ _ k) (Evt.neg (by omega) (Evt.const _))
  | succ m ih =>
   intro i hi
   refine Evt.step (fun k => laws_eqEdgeS.l0.eq_2 _ _ _ k) (Evt.pos (by omega) (Evt.pos (by omega) (Evt.pos (by omega) ?_)))
   have e : ∀ (x : ByteArray) (p : Bool) (q : Int), laws_eqEdge.f x p q x p q = some true := fun x p q => by unfold laws_eqEdge.f; simp
   rw [e]
   refine Evt.bsome (Evt.pos rfl ?_)
   rw [w64 (n := (i : Int) + 1) (by omega) (by omega)]
   exact ih (i + 1) (by omega)
 exact key l.length 0 (by omega)
theorem sz_one (y : Ll) (h0 : y.f0.size ≤ 9223372036854775807) (a : Int) (ha : 0 ≤ a) (hb : a ≤ 1048576) : ∃ t, laws_szEdge.f y.f0 y.f1 y.f2 a = some t ∧ t ≤ 1048576 ∧ (0 ≤ t → y.f0.size ≤ 1048576) := by
 unfold laws_szEdge.f
 rw [w64 (n := a - (y.f0.size : Int)) (by omega) (by omega)]
 by_cases c : a - (y.f0.size : Int) < 0
 ·
  exact ⟨-1, if_pos c, by omega, fun h => by omega⟩
 ·
  exact ⟨_, if_neg c, by omega, fun h => by omega⟩
def Small (l : List Ll) : Prop := l.length ≤ 1048576 ∧ ∀ x ∈ l, x.f0.size ≤ 1048576
theorem sz_ev (l : List Ll) (hl : l.length ≤ 9223372036854775807) (hx : ∀ x ∈ l, x.f0.size ≤ 9223372036854775807) : ∃ t, Evt (fun k => laws_szRadix.f k l 1048576) t ∧ (0 ≤ t → Small l) := by
 have main : ∃ t, Evt (fun k => laws_szEdgeS.f k l 1048576) t ∧ (0 ≤ t → Small l) := by
  unfold laws_szEdgeS.f
  rw [w64 (n := 1048576 - (l.length : Int)) (by omega) (by omega)]
  by_cases hs : l.length ≤ 1048576
  ·
   have key : ∀ (m i : Nat) (a : Int), i + m = l.length → 0 ≤ a → a ≤ 1048576 → (∀ j (h : j < l.length), j < i → l[j].f0.size ≤ 1048576) → ∃ t, Evt (fun k => laws_szEdgeS.l0 k l a (i : Int)) t ∧ (0 ≤ t → ∀ x ∈ l, x.f0.size ≤ 1048576) := by
    intro m
    induction m with
    | zero =>
     intro i a hi h0 h1 hj
     refine ⟨a, Evt.step (fun k => laws_szEdgeS.l0.eq_2 _ _ _ k) (Evt.neg (by omega) (Evt.const _)), fun _ x hx => ?_⟩
     obtain ⟨j, hjl, rfl⟩ := List.mem_iff_getElem.1 hx
     exact hj j hjl (by omega)
    | succ m ih =>
     intro i a hi h0 h1 hj
     have hil : i < l.length := by omega
     have er : rd_T80 l (i : Int) = l[i] := by
      unfold rd_T80
      simp [hil]
     obtain ⟨t, ht, ht1, ht2⟩ := sz_one l[i] (hx l[i] (List.getElem_mem hil)) a h0 h1
     by_cases hc : t < 0
     ·
      refine ⟨-1, Evt.step (fun k => laws_szEdgeS.l0.eq_2 _ _ _ k) (Evt.pos (by omega) (Evt.pos (by omega) ?_)), fun h => by omega⟩
      rw [er, ht]
      exact Evt.bsome (Evt.pos hc (Evt.const _))
     ·
      obtain ⟨u, hu, hu2⟩ := ih (i + 1) t (by omega) (by omega) ht1 (fun j h hji => by
       by_cases e : j = i
       ·
        subst e
        exact ht2 (by omega)
       ·
        exact hj j h (by omega))
      refine ⟨u, Evt.step (fun k => laws_szEdgeS.l0.eq_2 _ _ _ k) (Evt.pos (by omega) (Evt.pos (by omega) ?_)), hu2⟩
      rw [er, ht]
      refine Evt.bsome (Evt.neg hc ?_)
      rw [w64 (n := (i : Int) + 1) (by omega) (by omega)]
      exact hu
   obtain ⟨t, h1, h2⟩ := key l.length 0 (1048576 - (l.length : Int)) (by omega) (by omega) (by omega) (fun j _ h => absurd h (Nat.not_lt_zero _))
   exact ⟨t, Evt.neg (by omega) h1, fun h => ⟨hs, h2 h⟩⟩
  ·
   exact ⟨-1, Evt.pos (by omega) (Evt.const _), fun h => by omega⟩
 obtain ⟨t, h1, h2⟩ := main
 unfold laws_szRadix.f
 by_cases hc : t < 0
 ·
  exact ⟨-1, Evt.bind h1 (Evt.pos hc (Evt.const _)), fun h => by omega⟩
 ·
  exact ⟨t, Evt.bind h1 (Evt.neg hc (Evt.const _)), h2⟩
noncomputable def mkE (n m0 : Nat) : List Eg := (List.range n).map fun (j : Nat) => ⟨mT (m0 + 3 * j), (Int.tmod ((m0 + 3 * j + 1 : Nat) : Int) 3 == 0), ((m0 + 3 * j + 2 : Nat) : Int)⟩
theorem mkE_len (n m0 : Nat) : (mkE n m0).length = n := by simp [mkE]
theorem mark_ev (l : List Eg) (m0 : Nat) (hm : m0 ≤ 1073741824) (hl : l.length ≤ 1048576) : Evt (fun k => laws_markRadix.f k l (m0 : Int)) (((m0 + 3 * l.length : Nat) : Int), mkE l.length m0) := by
 unfold laws_markRadix.f
 refine Evt.bind (a := (((m0 + 3 * l.length : Nat) : Int), mkE l.length m0)) ?_ (Evt.const _)
 unfold laws_markEdgeS.f
 have key : ∀ (m i : Nat) (acc : List Eg), i + m = l.length → acc.length = l.length → (∀ j, j < i → acc[j]? = (mkE l.length m0)[j]?) →
   Evt (fun k => laws_markEdgeS.l0 k acc ((m0 + 3 * i : Nat) : Int) (i : Int)) (((m0 + 3 * l.length : Nat) : Int), mkE l.length m0) := by
  intro m
  induction m with
  | zero =>
   intro i acc hi ha hj
   refine Evt.step (fun k => laws_markEdgeS.l0.eq_2 _ _ _ k) (Evt.neg (by omega) ((Evt.const _).eq ?_))
   rw [show i = l.length by omega]
   congr 1
   apply List.ext_getElem?
   intro j
   by_cases hlt : j < l.length
   ·
    exact hj j (by omega)
   ·
    rw [List.getElem?_eq_none (by omega), List.getElem?_eq_none (by rw [mkE_len]; omega)]
  | succ m ih =>
   intro i acc hi ha hj
   have hia : i < acc.length := by omega
   have e : ∀ y : Eg, rd_T64 (acc.set i y) (i : Int) = y := by
    intro y
    rw [rd_eg _ i (by simpa using hia)]
    simp
   refine Evt.step (fun k => laws_markEdgeS.l0.eq_2 _ _ _ k) (Evt.pos (by omega) (Evt.bind (mT_ev (m0 + 3 * i) (by omega)) (Evt.pos (by omega) (Evt.bsome ?_))))
   rw [w64 (n := ((m0 + 3 * i : Nat) : Int) + 1) (by omega) (by omega), show ((m0 + 3 * i : Nat) : Int) + 1 = ((m0 + 3 * i + 1 : Nat) : Int) by omega]
   refine Evt.bsome ?_
   rw [w64 (n := ((m0 + 3 * i + 1 : Nat) : Int) + 1) (by omega) (by omega), show ((m0 + 3 * i + 1 : Nat) : Int) + 1 = ((m0 + 3 * i + 2 : Nat) : Int) by omega]
   rw [w64 (n := ((m0 + 3 * i + 2 : Nat) : Int) + 1) (by omega) (by omega), show ((m0 + 3 * i + 2 : Nat) : Int) + 1 = ((m0 + 3 * (i + 1) : Nat) : Int) by omega]
   rw [w64 (n := (i : Int) + 1) (by omega) (by omega), show (i : Int) + 1 = ((i + 1 : Nat) : Int) by omega]
   simp only [Int.toNat_natCast, e, List.set_set]
   refine ih (i + 1) _ (by omega) (by simp; omega) (fun j hlt => ?_)
   by_cases hji : j = i
   ·
    subst hji
    rw [List.getElem?_set_self hia]
    unfold mkE
    rw [List.getElem?_map, List.getElem?_range (by omega)]
    rfl
   ·
    rw [List.getElem?_set_ne (by omega)]
    exact hj j (by omega)
 exact key l.length 0 l (by omega) rfl (fun j h => absurd h (Nat.not_lt_zero _))
theorem held_ev (n m0 : Nat) (hm : m0 ≤ 1073741824) (hl : n ≤ 1048576) : Evt (fun k => laws_heldRadix.f k (mkE n m0) (m0 : Int)) ((m0 + 3 * n : Nat) : Int) := by
 unfold laws_heldRadix.f
 refine Evt.bind (a := ((m0 + 3 * n : Nat) : Int)) ?_ (Evt.neg (by omega) (Evt.const _))
 unfold laws_heldEdgeS.f
 have hlen := mkE_len n m0
 have key : ∀ (m i : Nat), i + m = n → Evt (fun k => laws_heldEdgeS.l0 k (mkE n m0) ((m0 + 3 * i : Nat) : Int) (i : Int)) ((m0 + 3 * n : Nat) : Int) := by
  intro m
  induction m with
  | zero =>
   intro i hi
   refine Evt.step (fun k => laws_heldEdgeS.l0.eq_2 _ _ _ k) (Evt.neg (by omega) ((Evt.const _).eq ?_))
   rw [show i = n by omega]
  | succ m ih =>
   intro i hi
   have er : rd_T64 (mkE n m0) (i : Int) = ⟨mT (m0 + 3 * i), (Int.tmod ((m0 + 3 * i + 1 : Nat) : Int) 3 == 0), ((m0 + 3 * i + 2 : Nat) : Int)⟩ := by
    rw [rd_eg _ i (by omega)]
    unfold mkE
    simp
   refine Evt.step (fun k => laws_heldEdgeS.l0.eq_2 _ _ _ k) (Evt.pos (by omega) (Evt.pos (by omega) (Evt.bind (mT_ev (m0 + 3 * i) (by omega)) (Evt.pos (by rw [er]) ?_))))
   rw [w64 (n := ((m0 + 3 * i : Nat) : Int) + 1) (by omega) (by omega), show ((m0 + 3 * i : Nat) : Int) + 1 = ((m0 + 3 * i + 1 : Nat) : Int) by omega]
   refine Evt.neg (by rw [er]; simp) ?_
   rw [w64 (n := ((m0 + 3 * i + 1 : Nat) : Int) + 1) (by omega) (by omega), show ((m0 + 3 * i + 1 : Nat) : Int) + 1 = ((m0 + 3 * i + 2 : Nat) : Int) by omega]
   rw [w64 (n := ((m0 + 3 * i + 2 : Nat) : Int) + 1) (by omega) (by omega), show ((m0 + 3 * i + 2 : Nat) : Int) + 1 = ((m0 + 3 * (i + 1) : Nat) : Int) by omega]
   rw [w64 (n := (i : Int) + 1) (by omega) (by omega), show (i : Int) + 1 = ((i + 1 : Nat) : Int) by omega]
   exact Evt.pos (by rw [er]) (ih (i + 1) (by omega))
 exact key n 0 (by omega)
end Go.Proofs.Ytcngebfcpobnnaa.RxL
end
