/- Several texts in one: what the claim's last text rests on. No conditions. -/
import Derived.Test.YtaomjndfjmfelaaMIx5
import Derived.Test.YtaomjndfjmfelaaMIx8
section
namespace Go.Proofs.Ytaomjndfjmfelaa.WordsW
set_option linter.unusedVariables false
open Go.RowKit Go.Proofs.Ytaomjndfjmfelaa.PQ Go.Proofs.YtaomjndfjmfelaaW.PrintWords Go.Proofs.YtaomjndfjmfelaaW.PrintLast Go.Proofs.Ytaomjndfjmfelaa.Pre
theorem spec_small (c : Int) : Evt (fun k => spec_l10Small.f k c) (small c) := by
 have h0 : ∀ b, Evt (fun k => spec_l10Small.j1 k c b) (if b = true then c else if 48 ≤ c ∧ c ≤ 57 then c else 0) := fun b => by
  refine Evt.step (fun k => spec_l10Small.j1.eq_2 _ _ k) ?_
  cases b
  ·refine Evt.neg (by simp) ?_
   rw [if_neg (show ¬ (false = true) by simp)]
   by_cases h1 : c ≥ 48
   ·refine Evt.pos h1 ?_
    by_cases h2 : c ≤ 57
    ·rw [if_pos (show 48 ≤ c ∧ c ≤ 57 from ⟨h1, h2⟩)]
     exact Evt.pos h2 (Evt.const _)
    ·rw [if_neg (show ¬ (48 ≤ c ∧ c ≤ 57) by omega)]
     exact Evt.neg h2 (Evt.const _)
   ·rw [if_neg (show ¬ (48 ≤ c ∧ c ≤ 57) by omega)]
    exact Evt.neg h1 (Evt.const _)
  ·exact Evt.pos rfl (Evt.const _)
 have h1 : ∀ b, Evt (fun k => spec_l10Small.j0 k c b) (if b = true then (c + 32) % 256 else if 97 ≤ c ∧ c ≤ 122 ∨ 48 ≤ c ∧ c ≤ 57 then c else 0) := fun b => by
  refine Evt.step (fun k => spec_l10Small.j0.eq_2 _ _ k) ?_
  cases b
  ·refine Evt.neg (by simp) ?_
   rw [if_neg (by simp)]
   by_cases h2 : c ≥ 97
   ·refine Evt.pos h2 ((h0 _).eq ?_)
    by_cases h3 : c ≤ 122
    ·rw [if_pos (by simpa using h3), if_pos (by omega)]
    ·rw [if_neg (by simpa using h3), if_neg (by omega), if_neg (by omega)]
   ·refine Evt.neg h2 ((h0 _).eq ?_)
    rw [if_neg (by simp)]
    by_cases h3 : 48 ≤ c ∧ c ≤ 57
    ·rw [if_pos h3, if_pos (.inr h3)]
    ·rw [if_neg h3, if_neg (by omega)]
  ·exact Evt.pos rfl (Evt.const _)
 unfold spec_l10Small.f small
 by_cases h2 : c ≥ 65
 ·refine Evt.pos h2 ((h1 _).eq ?_)
  by_cases h3 : c ≤ 90
  ·rw [if_pos (by simpa using h3), if_pos (by omega)]
   omega
  ·rw [if_neg (by simpa using h3), if_neg (show ¬(65 ≤ c ∧ c ≤ 90) by omega)]
 ·refine Evt.neg h2 ((h1 _).eq ?_)
  rw [if_neg (by simp), if_neg (show ¬(65 ≤ c ∧ c ≤ 90) by omega)]
/-- What the reference holds where the program holds p. -/
def nrm (p : List ByteArray × List Int) : List ByteArray × List Int := if p.2.length = 20 then (p.1 ++ [strOfNums p.2], []) else p
def stepS (c : Int) (p : List ByteArray × List Int) : List ByteArray × List Int :=
 if c = 0 then (if p.2 = [] then p else (p.1 ++ [strOfNums p.2], [])) else if (p.2 ++ [c]).length = 20 then (p.1 ++ [strOfNums (p.2 ++ [c])], []) else (p.1, p.2 ++ [c])
theorem nrm_step (c : Int) (p : List ByteArray × List Int) (hp : p.2.length ≤ 20) : nrm (stepC c (stepO c p)) = stepS c (nrm p) := by
 obtain ⟨o, w⟩ := p
 replace hp : w.length ≤ 20 := hp
 unfold nrm stepC stepO stepS flushO
 by_cases h0 : c = 0
 ·by_cases h20 : w.length = 20
  ·simp [h0, h20]
  ·by_cases hw : w = []
   ·simp [h0, hw]
   ·have : 0 < w.length := List.length_pos_iff.2 hw
    simp [h0, h20, hw, this]
 ·by_cases h20 : w.length = 20
  ·simp [h0, h20]
  ·simp [h0, h20]
theorem nrm_end (p : List ByteArray × List Int) : (stepS 0 (nrm p)).1 = flushO p.1 p.2 := by
 obtain ⟨o, w⟩ := p
 unfold nrm stepS flushO
 by_cases h20 : w.length = 20
 ·simp [h20]
 ·by_cases hw : w = []
  ·simp [hw]
  ·have : 0 < w.length := List.length_pos_iff.2 hw
   simp [h20, hw, this]
theorem str_app (w : List Int) (c : Int) : strOfNums w ++ strOfNums [c] = strOfNums (w ++ [c]) := by
 apply ByteArray.ext
 apply Array.ext'
 rw [ByteArray.data_append, Array.toList_append, strOfNums_data, strOfNums_data, strOfNums_data, List.map_append]
theorem str_size (w : List Int) : (strOfNums w).size = w.length := by
 show (strOfNums w).data.size = w.length
 rw [← Array.length_toList, strOfNums_data, List.length_map]
theorem nrm_len (p : List ByteArray × List Int) (hp : p.2.length ≤ 20) : (nrm p).1.length ≤ p.1.length + 1 ∧ (nrm p).2.length < 20 := by
 unfold nrm
 split
 ·simp
 ·exact ⟨by omega, by omega⟩
/-- One step of the reference's loop. -/
theorem spec_step (s : ByteArray) (i : Nat) (c : Int) (p : List ByteArray × List Int) (r : List ByteArray) (hi : i ≤ s.size) (hs : s.size ≤ 1048576) (h1 : p.1.length ≤ 2000000) (h2 : p.2.length < 20)
  (hr : Evt (fun k => spec_l10In.l0 k s (stepS c p).1 (strOfNums (stepS c p).2) ((i + 1 : Nat) : Int)) r) :
  Evt (fun k => spec_l10In.j1 k s p.1 (strOfNums p.2) (i : Int) c) r := by
 have e0 : (⟨#[]⟩ : ByteArray) = strOfNums [] := rfl
 refine Evt.step (fun k => spec_l10In.j1.eq_2 _ _ _ _ _ k) ?_
 rw [w64 (n := (i : Int) + 1) (by omega) (by omega), show (i : Int) + 1 = ((i + 1 : Nat) : Int) by omega]
 unfold stepS at hr
 by_cases h0 : c = 0
 ·rw [if_pos h0] at hr
  refine Evt.pos h0 ?_
  by_cases hw : p.2 = []
  ·rw [if_pos hw] at hr
   refine Evt.pos ?_ hr
   rw [Byt.toList_nil_iff, str_size, hw]
   rfl
  ·rw [if_neg hw] at hr
   refine Evt.neg ?_ (Evt.pos (by omega) hr)
   rw [Byt.toList_nil_iff, str_size]
   intro e
   exact hw (List.eq_nil_of_length_eq_zero e)
 ·rw [if_neg h0] at hr
  refine Evt.neg h0 (Evt.bsome ?_)
  rw [str_app]
  refine Evt.pos (by rw [str_size, str_size]; simp; omega) (Evt.neg ?_ ?_)
  ·rw [Byt.toList_nil_iff, str_size]
   simp
  ·rw [str_size]
   by_cases h20 : (p.2 ++ [c]).length = 20
   ·rw [if_pos h20] at hr
    exact Evt.pos (by omega) (Evt.pos (by omega) hr)
   ·rw [if_neg h20] at hr
    exact Evt.neg (by omega) hr
theorem spec_words (s : ByteArray) (hs : s.size ≤ 1048576) : Evt (fun k => spec_l10In.f k s) (wordsOf s) := by
 unfold spec_l10In.f
 have key : ∀ (m i : Nat), i + m = s.size → Evt (fun k => spec_l10In.l0 k s (nrm (stepW s i)).1 (strOfNums (nrm (stepW s i)).2) (i : Int)) (wordsOf s) := by
  intro m
  induction m with
  | zero =>
   intro i hi
   obtain ⟨l1, l2⟩ := stepW_len s i
   obtain ⟨n1, n2⟩ := nrm_len _ l2
   refine Evt.step (fun k => spec_l10In.l0.eq_2 _ _ _ _ k) (Evt.pos (by omega) (Evt.neg (by omega) ?_))
   refine spec_step s i 0 _ _ (by omega) hs (by omega) n2 ?_
   refine Evt.step (fun k => spec_l10In.l0.eq_2 _ _ _ _ k) (Evt.neg (by omega) ((Evt.const _).eq ?_))
   rw [nrm_end, show i = s.size by omega]
   rfl
  | succ m ih =>
   intro i hi
   obtain ⟨l1, l2⟩ := stepW_len s i
   obtain ⟨n1, n2⟩ := nrm_len _ l2
   refine Evt.step (fun k => spec_l10In.l0.eq_2 _ _ _ _ k) (Evt.pos (by omega) (Evt.pos (by omega) (Evt.pos (by omega) (Evt.bind (spec_small _) ?_))))
   refine spec_step s i _ _ _ (by omega) hs (by omega) n2 ?_
   rw [← nrm_step _ _ l2]
   exact ih (i + 1) (by omega)
 exact key s.size 0 (by omega)
end Go.Proofs.Ytaomjndfjmfelaa.WordsW
end

section
namespace Go.Proofs.Ytaomjndfjmfelaa.Strs
set_option linter.unusedVariables false
open Go.RowKit Go.Proofs.Ytaomjndfjmfelaa.PQ Go.Proofs.YtaomjndfjmfelaaW.PrintWords Go.Proofs.YtaomjndfjmfelaaW.PrintLast Go.Proofs.Ytaomjndfjmfelaa.Pre
theorem rd_get (l : List ByteArray) (i : Nat) (h : i < l.length) : rdOf ByteArray.empty l (i : Int) = l[i] := by
 unfold rdOf
 simp [h]
theorem size1 (c : Int) : (strOfNums [c]).size = 1 := by
 show (strOfNums [c]).data.size = 1
 rw [← Array.length_toList, strOfNums_data]
 rfl
theorem eq_ev (a b : List ByteArray) (hl : a.length ≤ 1048576) : Evt (fun k => laws_eqStringS.f k a b) (decide (a = b)) := by
 unfold laws_eqStringS.f
 by_cases hn : a.length = b.length
 ·refine Evt.pos (by omega) ?_
  have key : ∀ (m i : Nat), i + m = a.length → a.take i = b.take i → Evt (fun k => laws_eqStringS.l0 k a b (i : Int)) (decide (a = b)) := by
   intro m
   induction m with
   | zero =>
    intro i hi ht
    refine Evt.step (fun k => laws_eqStringS.l0.eq_2 _ _ _ k) (Evt.neg (by omega) ((Evt.const _).eq ?_))
    rw [List.take_of_length_le (by omega), List.take_of_length_le (by omega)] at ht
    exact (decide_eq_true ht).symm
   | succ m ih =>
    intro i hi ht
    refine Evt.step (fun k => laws_eqStringS.l0.eq_2 _ _ _ k) (Evt.pos (by omega) (Evt.pos (by omega) (Evt.pos (by omega) ?_)))
    rw [rd_get a i (by omega), rd_get b i (by omega), w64 (n := (i : Int) + 1) (by omega) (by omega)]
    by_cases he : a[i] = b[i]
    ·refine Evt.pos (by rw [he]) (ih (i + 1) (by omega) ?_)
     rw [List.take_succ_eq_append_getElem (by omega), List.take_succ_eq_append_getElem (by omega), ht, he]
    ·refine Evt.neg (fun e => he (Byt.toList_inj e)) ((Evt.const _).eq ?_)
     refine (decide_eq_false ?_).symm
     intro e
     subst e
     exact he rfl
  exact key a.length 0 (by omega) rfl
 ·refine Evt.neg (by omega) ((Evt.const _).eq ?_)
  refine (decide_eq_false ?_).symm
  intro e
  rw [e] at hn
  exact hn rfl
theorem eq_self (a : List ByteArray) (hl : a.length ≤ 1048576) : Evt (fun k => laws_eqStringS.f k a a) true := (eq_ev a a hl).eq (by simp)
theorem text_ex : ∀ (m n : Nat) (x : ByteArray), n < 10 ^ m → n ≤ 4611686018427387904 → x.size + m ≤ 1000 → ∃ t, Evt (fun k => laws_markText.l0 k (n : Int) x) t
 | 0, n, x, h, _, hx => by
  obtain rfl : n = 0 := by simpa using h
  exact ⟨_, Evt.step (fun k => laws_markText.l0.eq_2 _ _ k) (Evt.neg (by omega) (Evt.pos (by omega) (Evt.const _)))⟩
 | m + 1, n, x, h, hb, hx => by
  by_cases h0 : n = 0
  ·subst h0
   exact ⟨_, Evt.step (fun k => laws_markText.l0.eq_2 _ _ k) (Evt.neg (by omega) (Evt.pos (by omega) (Evt.const _)))⟩
  ·have hd : n / 10 < 10 ^ m := by
    rw [Nat.div_lt_iff_lt_mul (by omega), ← Nat.pow_succ]
    exact h
   obtain ⟨t, ht⟩ := text_ex m (n / 10) (strOfNums [(wrap64 (48 + (Int.tmod (n : Int) 10))) % 256] ++ x) hd (by omega) (by rw [ByteArray.size_append, size1]; omega)
   refine ⟨t, Evt.step (fun k => laws_markText.l0.eq_2 _ _ k) (Evt.pos (by omega) (Evt.bsome (Evt.pos (by rw [size1]; omega) ?_)))⟩
   rw [show Int.tdiv (n : Int) 10 = ((n / 10 : Nat) : Int) by rw [Int.tdiv_eq_ediv_of_nonneg (by omega)]; omega, w64 (by omega) (by omega)]
   exact ht
theorem mtext (n : Nat) : ∃ t, n ≤ 4611686018427387904 → Evt (fun k => laws_markText.f k (n : Int)) t := by
 by_cases h : n ≤ 4611686018427387904
 ·by_cases h0 : n = 0
  ·subst h0
   exact ⟨_, fun _ => by unfold laws_markText.f; exact Evt.pos (by omega) (Evt.const _)⟩
  ·have h12 : (10 : Nat) ^ 19 = 10000000000000000000 := by decide
   obtain ⟨t, ht⟩ := text_ex 19 n ⟨#[]⟩ (by rw [h12]; omega) h (by decide)
   exact ⟨t, fun _ => by unfold laws_markText.f; exact Evt.neg (by omega) ht⟩
 ·exact ⟨⟨#[]⟩, fun h2 => absurd h2 h⟩
/-- The text of a mark. -/
noncomputable def mT (n : Nat) : ByteArray := (mtext n).choose
theorem mT_ev (n : Nat) (h : n ≤ 4611686018427387904) : Evt (fun k => laws_markText.f k (n : Int)) (mT n) := (mtext n).choose_spec h
end Go.Proofs.Ytaomjndfjmfelaa.Strs
end
