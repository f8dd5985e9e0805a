/- The law FnExactWordsIn returns true at every text. No conditions. -/
import Derived.Test.YtilgcfhnpnokpaaWordsP
import Derived.Test.YtilgcfhnpnokpaaStrs
import Derived.Test.YtilgcfhnpnokpaaPQlawsFnExactWordsIn
namespace Go.Proofs.Ytilgcfhnpnokpaa.Pure
open Go.RowKit Go.Proofs.Ytilgcfhnpnokpaa.PQ Go.Proofs.YtilgcfhnpnokpaaW.PrintWords Go.Proofs.YtilgcfhnpnokpaaW.PrintLast Go.Proofs.Ytilgcfhnpnokpaa.Pre Go.Proofs.Ytilgcfhnpnokpaa.WordsW Go.Proofs.Ytilgcfhnpnokpaa.Strs

/-- What both answer. -/
def ansWords (s : ByteArray) : List ByteArray × Bool := if s.size ≤ 200 then (wordsOf s, true) else ([], false)
theorem specWordsIn (s : ByteArray) : Evt (fun k => spec_WordsIn.f k s) (ansWords s) := by
  unfold spec_WordsIn.f ansWords
  by_cases h : (s.size : Int) > 200
  · rw [if_neg (by omega)]
    exact Evt.pos h (Evt.const _)
  · rw [if_pos (by omega)]
    exact Evt.neg h (Evt.bind (spec_words s (by omega)) (Evt.const _))
theorem implWordsIn (s : ByteArray) : impl_WordsIn.f s = some (ansWords s) := by
  unfold impl_WordsIn.f ansWords
  by_cases h : (s.size : Int) > 200
  · rw [if_pos h, if_neg (show ¬ s.size ≤ 200 by omega)]
  · rw [if_pos (show s.size ≤ 200 by omega), if_neg h]
    unfold impl_wordsIn.f
    rw [if_pos (show s.size ≤ 200 by omega)]
    rfl
theorem answer_len (s : ByteArray) : (ansWords s).1.length ≤ 201 := by
  have := wordsOf_len s
  unfold ansWords
  split
  · show (wordsOf s).length ≤ 201
    omega
  · simp
theorem FnExactWordsIn : laws_FnExactWordsIn.Pure := by
  intro a0 hw
  refine Evt.ex (r := true) ?_
  unfold laws_FnExactWordsIn.f
  by_cases hbig : (a0.size : Int) > 1048576
  · exact Evt.pos hbig (Evt.const _)
  · have hI := implWordsIn a0
    have hS := specWordsIn a0
    have hl := answer_len a0
    generalize ansWords a0 = A at *
    obtain ⟨l, b⟩ := A
    replace hl : l.length ≤ 201 := hl
    refine Evt.neg hbig (Evt.bind hS ?_)
    rw [hI]
    have heq := eq_self l (by omega)
    have hh := held_ev l.length 1 (by omega) (by omega)
    refine Evt.bsome (Evt.bind heq (Evt.pos rfl ?_))
    refine Evt.step (fun k => laws_FnExactWordsIn.j0.eq_2 _ _ _ _ _ k) (Evt.neg (by simp) (Evt.bind (mark_ev l 1 (by omega) (by omega)) (Evt.bind hh (Evt.neg (by omega) (Evt.pos rfl ?_)))))
    rw [hI]
    refine Evt.bsome (Evt.bind heq (Evt.pos rfl ?_))
    exact Evt.step (fun k => laws_FnExactWordsIn.j1.eq_2 _ _ _ k) (Evt.neg (by simp) (Evt.bind hh (Evt.neg (by omega) (Evt.pos rfl (Evt.const _)))))
end Go.Proofs.Ytilgcfhnpnokpaa.Pure
