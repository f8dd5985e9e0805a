/- Several texts in one: what the claim's last text rests on. No conditions. -/
import Derived.Test.YtcngebfcpobnnaaMRh11
import Derived.Test.YtcngebfcpobnnaaMRh8
import Derived.Test.YtcngebfcpobnnaaMRh7
section
namespace Go.Proofs.Ytcngebfcpobnnaa.Sml
set_option linter.unusedVariables false
set_option linter.unusedSimpArgs false
open Go.RowKit Go.Proofs.Ytcngebfcpobnnaa.PQ Go.Proofs.YtcngebfcpobnnaaW.PrintWords Go.Proofs.YtcngebfcpobnnaaW.PrintLast Go.Proofs.Ytcngebfcpobnnaa.Pre
def lo (c : Int) : Bool := decide (97 ≤ c ∧ c ≤ 122)
def sml (s : ByteArray) (most : Int) : Bool := (bytesOf s).all lo && decide ((s.size : Int) ≤ most)
def isN (s : ByteArray) : Bool := decide (1 ≤ s.size) && sml s 20
theorem impl_small (s : ByteArray) (hs : s.size ≤ 1048576) (most : Int) : Evt (fun k => impl_smallLetters.f k s most) (sml s most) := by
 unfold impl_smallLetters.f
 have key : ∀ (m i : Nat), i + m = s.size → Evt (fun k => impl_smallLetters.l0 k s most (s.size : Int) (i : Int)) (((bytesOf s).drop i).all lo && decide ((s.size : Int) ≤ most)) := by
  intro m
  induction m with
  | zero =>
   intro i hi
   refine Evt.step (fun k => impl_smallLetters.l0.eq_2 _ _ _ _ k) (Evt.neg (by omega) ((Evt.const _).eq ?_))
   rw [List.drop_eq_nil_of_le (by rw [bytesOf_length]; omega)]
   rfl
  | succ m ih =>
   intro i hi
   have hlt : i < s.size := by omega
   refine Evt.step (fun k => impl_smallLetters.l0.eq_2 _ _ _ _ k) (Evt.pos (by omega) (Evt.pos (by omega) (Evt.pos (by omega) ?_)))
   rw [w64 (n := (i : Int) + 1) (by omega) (by omega), List.drop_eq_getElem_cons (by rw [bytesOf_length]; exact hlt), Byt.bytesOf_get s i hlt, List.all_cons]
   obtain ⟨c, hc⟩ : ∃ c, c = bt s (i : Int) := ⟨_, rfl⟩
   rw [← hc]
   by_cases h1 : c < 97
   ·
    refine Evt.pos h1 ((Evt.const _).eq ?_)
    have : lo c = false := decide_eq_false (by omega)
    rw [this]
    rfl
   ·
    by_cases h2 : c > 122
    ·
     refine Evt.neg h1 (Evt.pos h2 ((Evt.const _).eq ?_))
     have : lo c = false := decide_eq_false (by omega)
     rw [this]
     rfl
    ·
     refine Evt.neg h1 (Evt.neg h2 ((ih (i + 1) (by omega)).eq ?_))
     have : lo c = true := decide_eq_true (by omega)
     rw [this, Bool.true_and]
 refine (key s.size 0 (by omega)).eq ?_
 rw [List.drop_zero]
 rfl
theorem spec_small (s : ByteArray) (hs : s.size ≤ 1048576) (most : Int) : Evt (fun k => spec_l13Small.f k s most) (sml s most) := by
 unfold spec_l13Small.f
 have key : ∀ (m i : Nat), i + m = s.size → Evt (fun k => spec_l13Small.l0 k s most (i : Int)) (((bytesOf s).drop i).all lo && decide ((s.size : Int) ≤ most)) := by
  intro m
  induction m with
  | zero =>
   intro i hi
   refine Evt.step (fun k => spec_l13Small.l0.eq_2 _ _ _ k) (Evt.neg (by omega) ((Evt.const _).eq ?_))
   rw [List.drop_eq_nil_of_le (by rw [bytesOf_length]; omega)]
   rfl
  | succ m ih =>
   intro i hi
   have hlt : i < s.size := by omega
   refine Evt.step (fun k => spec_l13Small.l0.eq_2 _ _ _ k) (Evt.pos (by omega) (Evt.pos (by omega) ?_))
   rw [w64 (n := (i : Int) + 1) (by omega) (by omega), List.drop_eq_getElem_cons (by rw [bytesOf_length]; exact hlt), Byt.bytesOf_get s i hlt, List.all_cons]
   obtain ⟨c, hc⟩ : ∃ c, c = bt s (i : Int) := ⟨_, rfl⟩
   rw [← hc]
   by_cases h1 : c < 97
   ·
    refine Evt.pos h1 ((Evt.const _).eq ?_)
    have : lo c = false := decide_eq_false (by omega)
    rw [this]
    rfl
   ·
    by_cases h2 : c > 122
    ·
     refine Evt.neg h1 (Evt.pos h2 ((Evt.const _).eq ?_))
     have : lo c = false := decide_eq_false (by omega)
     rw [this]
     rfl
    ·
     refine Evt.neg h1 (Evt.neg h2 ((ih (i + 1) (by omega)).eq ?_))
     have : lo c = true := decide_eq_true (by omega)
     rw [this, Bool.true_and]
 refine (key s.size 0 (by omega)).eq ?_
 rw [List.drop_zero]
 rfl
theorem ne_nil (s : ByteArray) : (s.toList != ([] : List UInt8)) = decide (1 ≤ s.size) := by
 rw [Bool.eq_iff_iff, bne_iff_ne, ne_eq, Byt.toList_nil_iff, decide_eq_true_eq]
 omega
theorem impl_name (s : ByteArray) (hs : s.size ≤ 1048576) : Evt (fun k => impl_nameOK.f k s) (isN s) := by
 unfold impl_nameOK.f isN
 by_cases h : s.size = 0
 ·
  refine Evt.pos ((Byt.toList_nil_iff s).2 h) ((Evt.const _).eq ?_)
  rw [decide_eq_false (by omega)]
  rfl
 ·
  refine Evt.neg (fun e => h ((Byt.toList_nil_iff s).1 e)) (Evt.bind (impl_small s hs 20) ((Evt.const _).eq ?_))
  rw [decide_eq_true (show 1 ≤ s.size by omega), Bool.true_and]
theorem spec_name (s : ByteArray) (hs : s.size ≤ 1048576) : Evt (fun k => spec_l13Name.f k s) (isN s) := by
 unfold spec_l13Name.f isN
 refine Evt.bind (spec_small s hs 20) ?_
 by_cases h : sml s 20 = true
 ·
  refine Evt.pos h ((Evt.const _).eq ?_)
  rw [h, ne_nil, Bool.and_true]
 ·
  refine Evt.neg h ((Evt.const _).eq ?_)
  rw [Bool.eq_false_iff.2 h, Bool.and_false]
theorem isN_size {s : ByteArray} (h : isN s = true) : 1 ≤ s.size ∧ s.size ≤ 20 ∧ ∀ c ∈ bytesOf s, 97 ≤ c ∧ c ≤ 122 := by
 unfold isN sml at h
 rw [Bool.and_eq_true, Bool.and_eq_true, decide_eq_true_eq, decide_eq_true_eq, List.all_eq_true] at h
 exact ⟨h.1, by omega, fun c hc => of_decide_eq_true (h.2.1 c hc)⟩
end Go.Proofs.Ytcngebfcpobnnaa.Sml
end

section
namespace Go.Proofs.Ytcngebfcpobnnaa.Strs
set_option linter.unusedVariables false
open Go.RowKit Go.Proofs.Ytcngebfcpobnnaa.PQ Go.Proofs.YtcngebfcpobnnaaW.PrintWords Go.Proofs.YtcngebfcpobnnaaW.PrintLast Go.Proofs.Ytcngebfcpobnnaa.Pre
theorem size1 (c : Int) : (strOfNums [c]).size = 1 := by
 show (strOfNums [c]).data.size = 1
 rw [← Array.length_toList, strOfNums_data]
 rfl
theorem text_ex : ∀ (m n : Nat) (x : ByteArray), n < 10 ^ m → n ≤ 4611686018427387904 → x.size + m ≤ 1000 → ∃ t, Evt (fun k => laws_markText.l0 k (n : Int) x) t
 | 0, n, x, h, _, hx => by
  obtain rfl : n = 0 := by simpa using h
  exact ⟨_, Evt.step (fun k => laws_markText.l0.eq_2 _ _ k) (Evt.neg (by omega) (Evt.pos (by omega) (Evt.const _)))⟩
 | m + 1, n, x, h, hb, hx => by
  by_cases h0 : n = 0
  ·
   subst h0
   exact ⟨_, Evt.step (fun k => laws_markText.l0.eq_2 _ _ k) (Evt.neg (by omega) (Evt.pos (by omega) (Evt.const _)))⟩
  ·
   have hd : n / 10 < 10 ^ m := by
    rw [Nat.div_lt_iff_lt_mul (by omega), ← Nat.pow_succ]
    exact h
   obtain ⟨t, ht⟩ := text_ex m (n / 10) (strOfNums [(wrap64 (48 + (Int.tmod (n : Int) 10))) % 256] ++ x) hd (by omega) (by rw [ByteArray.size_append, size1]; omega)
   refine ⟨t, Evt.step (fun k => laws_markText.l0.eq_2 _ _ k) (Evt.pos (by omega) (Evt.bsome (Evt.pos (by rw [size1]; omega) ?_)))⟩
   rw [show Int.tdiv (n : Int) 10 = ((n / 10 : Nat) : Int) by rw [Int.tdiv_eq_ediv_of_nonneg (by omega)]; omega, w64 (by omega) (by omega)]
   exact ht
theorem mtext (n : Nat) : ∃ t, n ≤ 4611686018427387904 → Evt (fun k => laws_markText.f k (n : Int)) t := by
 by_cases h : n ≤ 4611686018427387904
 ·
  by_cases h0 : n = 0
  ·
   subst h0
   exact ⟨_, fun _ => by unfold laws_markText.f; exact Evt.pos (by omega) (Evt.const _)⟩
  ·
   have h12 : (10 : Nat) ^ 19 = 10000000000000000000 := by decide
   obtain ⟨t, ht⟩ := text_ex 19 n ⟨#[]⟩ (by rw [h12]; omega) h (by decide)
   exact ⟨t, fun _ => by unfold laws_markText.f; exact Evt.neg (by omega) ht⟩
 ·
  exact ⟨⟨#[]⟩, fun h2 => absurd h2 h⟩
/-- The text of a mark. -/
noncomputable def mT (n : Nat) : ByteArray := (mtext n).choose
theorem mT_ev (n : Nat) (h : n ≤ 4611686018427387904) : Evt (fun k => laws_markText.f k (n : Int)) (mT n) := (mtext n).choose_spec h
end Go.Proofs.Ytcngebfcpobnnaa.Strs
end
