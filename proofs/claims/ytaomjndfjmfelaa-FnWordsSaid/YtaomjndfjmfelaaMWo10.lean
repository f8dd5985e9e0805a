/- Several texts in one: what the claim's last text rests on. No conditions. -/
import Derived.Test.YtaomjndfjmfelaaMWo5
import Derived.Test.YtaomjndfjmfelaaMWo8
section
namespace Go.Proofs.Ytaomjndfjmfelaa.WordsW
set_option linter.unusedVariables false
open Go.RowKit Go.Proofs.Ytaomjndfjmfelaa.PQ Go.Proofs.YtaomjndfjmfelaaW.PrintWords Go.Proofs.YtaomjndfjmfelaaW.PrintLast Go.Proofs.Ytaomjndfjmfelaa.Pre
theorem spec_small (c : Int) : Evt (fun k => spec_l10Small.f k c) (small c) := by
 have h0 : ∀ b, Evt (fun k => spec_l10Small.j1 k c b) (if b = true then c else if 48 ≤ c ∧ c ≤ 57 then c else 0) := fun b => by
  refine Evt.step (fun k => spec_l10Small.j1.eq_2 _ _ k) ?_
  cases b
  ·refine Evt.neg (by simp) ?_
   rw [if_neg (show ¬ (false = true) by simp)]
   by_cases h1 : c ≥ 48
   ·refine Evt.pos h1 ?_
    by_cases h2 : c ≤ 57
    ·rw [if_pos (show 48 ≤ c ∧ c ≤ 57 from ⟨h1, h2⟩)]
     exact Evt.pos h2 (Evt.const _)
    ·rw [if_neg (show ¬ (48 ≤ c ∧ c ≤ 57) by omega)]
     exact Evt.neg h2 (Evt.const _)
   ·rw [if_neg (show ¬ (48 ≤ c ∧ c ≤ 57) by omega)]
    exact Evt.neg h1 (Evt.const _)
  ·exact Evt.pos rfl (Evt.const _)
 have h1 : ∀ b, Evt (fun k => spec_l10Small.j0 k c b) (if b = true then (c + 32) % 256 else if 97 ≤ c ∧ c ≤ 122 ∨ 48 ≤ c ∧ c ≤ 57 then c else 0) := fun b => by
  refine Evt.step (fun k => spec_l10Small.j0.eq_2 _ _ k) ?_
  cases b
  ·refine Evt.neg (by simp) ?_
   rw [if_neg (by simp)]
   by_cases h2 : c ≥ 97
   ·refine Evt.pos h2 ((h0 _).eq ?_)
    by_cases h3 : c ≤ 122
    ·rw [if_pos (by simpa using h3), if_pos (by omega)]
    ·rw [if_neg (by simpa using h3), if_neg (by omega), if_neg (by omega)]
   ·refine Evt.neg h2 ((h0 _).eq ?_)
    rw [if_neg (by simp)]
    by_cases h3 : 48 ≤ c ∧ c ≤ 57
    ·rw [if_pos h3, if_pos (.inr h3)]
    ·rw [if_neg h3, if_neg (by omega)]
  ·exact Evt.pos rfl (Evt.const _)
 unfold spec_l10Small.f small
 by_cases h2 : c ≥ 65
 ·refine Evt.pos h2 ((h1 _).eq ?_)
  by_cases h3 : c ≤ 90
  ·rw [if_pos (by simpa using h3), if_pos (by omega)]
   omega
  ·rw [if_neg (by simpa using h3), if_neg (show ¬(65 ≤ c ∧ c ≤ 90) by omega)]
 ·refine Evt.neg h2 ((h1 _).eq ?_)
  rw [if_neg (by simp), if_neg (show ¬(65 ≤ c ∧ c ≤ 90) by omega)]
/-- What the reference holds where the program holds p. -/
def nrm (p : List ByteArray × List Int) : List ByteArray × List Int := if p.2.length = 20 then (p.1 ++ [strOfNums p.2], []) else p
def stepS (c : Int) (p : List ByteArray × List Int) : List ByteArray × List Int :=
 if c = 0 then (if p.2 = [] then p else (p.1 ++ [strOfNums p.2], [])) else if (p.2 ++ [c]).length = 20 then (p.1 ++ [strOfNums (p.2 ++ [c])], []) else (p.1, p.2 ++ [c])
theorem nrm_step (c : Int) (p : List ByteArray × List Int) (hp : p.2.length ≤ 20) : nrm (stepC c (stepO c p)) = stepS c (nrm p) := by
 obtain ⟨o, w⟩ := p
 replace hp : w.length ≤ 20 := hp
 unfold nrm stepC stepO stepS flushO
 by_cases h0 : c = 0
 ·by_cases h20 : w.length = 20
  ·simp [h0, h20]
  ·by_cases hw : w = []
   ·simp [h0, hw]
   ·have : 0 < w.length := List.length_pos_iff.2 hw
    simp [h0, h20, hw, this]
 ·by_cases h20 : w.length = 20
  ·simp [h0, h20]
  ·simp [h0, h20]
theorem nrm_end (p : List ByteArray × List Int) : (stepS 0 (nrm p)).1 = flushO p.1 p.2 := by
 obtain ⟨o, w⟩ := p
 unfold nrm stepS flushO
 by_cases h20 : w.length = 20
 ·simp [h20]
 ·by_cases hw : w = []
  ·simp [hw]
  ·have : 0 < w.length := List.length_pos_iff.2 hw
   simp [h20, hw, this]
theorem str_app (w : List Int) (c : Int) : strOfNums w ++ strOfNums [c] = strOfNums (w ++ [c]) := by
 apply ByteArray.ext
 apply Array.ext'
 rw [ByteArray.data_append, Array.toList_append, strOfNums_data, strOfNums_data, strOfNums_data, List.map_append]
theorem str_size (w : List Int) : (strOfNums w).size = w.length := by
 show (strOfNums w).data.size = w.length
 rw [← Array.length_toList, strOfNums_data, List.length_map]
theorem nrm_len (p : List ByteArray × List Int) (hp : p.2.length ≤ 20) : (nrm p).1.length ≤ p.1.length + 1 ∧ (nrm p).2.length < 20 := by
 unfold nrm
 split
 ·simp
 ·exact ⟨by omega, by omega⟩
/-- One step of the reference's loop. -/
theorem spec_step (s : ByteArray) (i : Nat) (c : Int) (p : List ByteArray × List Int) (r : List ByteArray) (hi : i ≤ s.size) (hs : s.size ≤ 1048576) (h1 : p.1.length ≤ 2000000) (h2 : p.2.length < 20)
  (hr : Evt (fun k => spec_l10In.l0 k s (stepS c p).1 (strOfNums (stepS c p).2) ((i + 1 : Nat) : Int)) r) :
  Evt (fun k => spec_l10In.j1 k s p.1 (strOfNums p.2) (i : Int) c) r := by
 have e0 : (⟨#[]⟩ : ByteArray) = strOfNums [] := rfl
 refine Evt.step (fun k => spec_l10In.j1.eq_2 _ _ _ _ _ k) ?_
 rw [w64 (n := (i : Int) + 1) (by omega) (by omega), show (i : Int) + 1 = ((i + 1 : Nat) : Int) by omega]
 unfold stepS at hr
 by_cases h0 : c = 0
 ·rw [if_pos h0] at hr
  refine Evt.pos h0 ?_
  by_cases hw : p.2 = []
  ·rw [if_pos hw] at hr
   refine Evt.pos ?_ hr
   rw [Byt.toList_nil_iff, str_size, hw]
   rfl
  ·rw [if_neg hw] at hr
   refine Evt.neg ?_ (Evt.pos (by omega) hr)
   rw [Byt.toList_nil_iff, str_size]
   intro e
   exact hw (List.eq_nil_of_length_eq_zero e)
 ·rw [if_neg h0] at hr
  refine Evt.neg h0 (Evt.bsome ?_)
  rw [str_app]
  refine Evt.pos (by rw [str_size, str_size]; simp; omega) (Evt.neg ?_ ?_)
  ·rw [Byt.toList_nil_iff, str_size]
   simp
  ·rw [str_size]
   by_cases h20 : (p.2 ++ [c]).length = 20
   ·rw [if_pos h20] at hr
    exact Evt.pos (by omega) (Evt.pos (by omega) hr)
   ·rw [if_neg h20] at hr
    exact Evt.neg (by omega) hr
theorem spec_words (s : ByteArray) (hs : s.size ≤ 1048576) : Evt (fun k => spec_l10In.f k s) (wordsOf s) := by
 unfold spec_l10In.f
 have key : ∀ (m i : Nat), i + m = s.size → Evt (fun k => spec_l10In.l0 k s (nrm (stepW s i)).1 (strOfNums (nrm (stepW s i)).2) (i : Int)) (wordsOf s) := by
  intro m
  induction m with
  | zero =>
   intro i hi
   obtain ⟨l1, l2⟩ := stepW_len s i
   obtain ⟨n1, n2⟩ := nrm_len _ l2
   refine Evt.step (fun k => spec_l10In.l0.eq_2 _ _ _ _ k) (Evt.pos (by omega) (Evt.neg (by omega) ?_))
   refine spec_step s i 0 _ _ (by omega) hs (by omega) n2 ?_
   refine Evt.step (fun k => spec_l10In.l0.eq_2 _ _ _ _ k) (Evt.neg (by omega) ((Evt.const _).eq ?_))
   rw [nrm_end, show i = s.size by omega]
   rfl
  | succ m ih =>
   intro i hi
   obtain ⟨l1, l2⟩ := stepW_len s i
   obtain ⟨n1, n2⟩ := nrm_len _ l2
   refine Evt.step (fun k => spec_l10In.l0.eq_2 _ _ _ _ k) (Evt.pos (by omega) (Evt.pos (by omega) (Evt.pos (by omega) (Evt.bind (spec_small _) ?_))))
   refine spec_step s i _ _ _ (by omega) hs (by omega) n2 ?_
   rw [← nrm_step _ _ l2]
   exact ih (i + 1) (by omega)
 exact key s.size 0 (by omega)
theorem wordsOf_len (s : ByteArray) : (wordsOf s).length ≤ s.size + 1 := by
 have h := flushO_len (stepW s s.size).1 (stepW s s.size).2
 have := (stepW_len s s.size).1
 unfold wordsOf
 omega
end Go.Proofs.Ytaomjndfjmfelaa.WordsW
end
