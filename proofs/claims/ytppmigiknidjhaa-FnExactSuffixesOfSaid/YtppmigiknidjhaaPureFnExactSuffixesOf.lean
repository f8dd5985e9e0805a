/- The law FnExactSuffixesOf returns true at every text. No conditions. -/
import Derived.Test.YtppmigiknidjhaaSufP
import Derived.Test.YtppmigiknidjhaaPQlawsFnExactSuffixesOf
namespace Go.Proofs.Ytppmigiknidjhaa.Pure
set_option linter.unusedVariables false
open Go.RowKit Go.Proofs.Ytppmigiknidjhaa.PQ Go.Proofs.YtppmigiknidjhaaW.PrintWords Go.Proofs.YtppmigiknidjhaaW.PrintLast Go.Proofs.Ytppmigiknidjhaa.Pre Go.Proofs.Ytppmigiknidjhaa.Suf
/-- What both answer. -/
def ansSuf (s : ByteArray) : List Int × Bool := if s.size ≤ 120 then (sufs s, true) else ([], false)
theorem ansSuf_len (s : ByteArray) : (ansSuf s).1.length ≤ 120 := by
  unfold ansSuf
  split
  · rw [sufs_len]
    assumption
  · simp
theorem specSuf_ev (s : ByteArray) : Evt (fun k => spec_SuffixesOf.f k s) (ansSuf s) := by
  unfold spec_SuffixesOf.f ansSuf
  by_cases h : s.size ≤ 120
  · rw [if_pos h]
    exact Evt.neg (by omega) (Evt.bind (spec_suffixes s (by omega)) (Evt.const _))
  · rw [if_neg h]
    exact Evt.pos (by omega) (Evt.const _)
theorem implSuf_ev (s : ByteArray) : impl_SuffixesOf.f s = some (ansSuf s) := by
  unfold impl_SuffixesOf.f ansSuf
  by_cases h : s.size ≤ 120
  · rw [if_neg (by omega), if_pos h, impl_suffixes_eq s (by omega)]
    rfl
  · rw [if_pos (by omega), if_neg h]
theorem FnExactSuffixesOf : laws_FnExactSuffixesOf.Pure := by
  intro s _
  refine Evt.ex (r := true) ?_
  unfold laws_FnExactSuffixesOf.f
  by_cases hs : s.size ≤ 1048576
  · refine Evt.neg (by omega) (Evt.bind (specSuf_ev s) ?_)
    rw [implSuf_ev]
    have hl := ansSuf_len s
    have he := Ints.eq_self (ansSuf s).1 (by omega)
    have hh := Ints.held_ev (ansSuf s).1.length 1 (by omega) (by omega)
    refine Evt.bsome (Evt.bind he (Evt.pos rfl (Evt.step (fun k => laws_FnExactSuffixesOf.j0.eq_2 _ _ _ _ _ k) (Evt.neg (by simp) (Evt.bind (Ints.mark_ev _ 1 (by omega) (by omega)) (Evt.bind hh (Evt.neg (by omega) (Evt.pos rfl ?_))))))))
    rw [implSuf_ev]
    exact Evt.bsome (Evt.bind he (Evt.pos rfl (Evt.step (fun k => laws_FnExactSuffixesOf.j1.eq_2 _ _ _ k) (Evt.neg (by simp) (Evt.bind hh (Evt.neg (by omega) (Evt.pos rfl (Evt.const _))))))))
  · exact Evt.pos (by omega) (Evt.const _)
end Go.Proofs.Ytppmigiknidjhaa.Pure
