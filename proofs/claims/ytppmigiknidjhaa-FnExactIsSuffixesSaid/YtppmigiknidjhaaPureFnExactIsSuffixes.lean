/- The law FnExactIsSuffixes returns true at every text and list. No conditions. -/
import Derived.Test.YtppmigiknidjhaaSufC
import Derived.Test.YtppmigiknidjhaaPQlawsFnExactIsSuffixes
namespace Go.Proofs.Ytppmigiknidjhaa.Pure
open Go.RowKit Go.Proofs.Ytppmigiknidjhaa.PQ Go.Proofs.YtppmigiknidjhaaW.PrintWords Go.Proofs.YtppmigiknidjhaaW.PrintLast Go.Proofs.Ytppmigiknidjhaa.Pre Go.Proofs.Ytppmigiknidjhaa.Suf
theorem specIsS_ev (s : ByteArray) (l : List Int) (hl : l.length ≤ 1048576) : Evt (fun k => spec_IsSuffixes.f k s l) (if s.size ≤ 120 then (decide (l = sufs s), true) else (false, false)) := by
  unfold spec_IsSuffixes.f
  by_cases h : s.size ≤ 120
  · rw [if_pos h]
    exact Evt.neg (by omega) (Evt.bind (specIs_ev s l hl) ((Evt.const _).eq (by simp [h])))
  · rw [if_neg h]
    exact Evt.pos (by omega) (Evt.const _)
theorem FnExactIsSuffixes : laws_FnExactIsSuffixes.Pure := by
  intro s l _ _ _ _
  refine Evt.ex (r := true) ?_
  unfold laws_FnExactIsSuffixes.f
  by_cases hs : s.size ≤ 1048576
  · refine Evt.neg (by omega) ?_
    by_cases hl : l.length ≤ 1048576
    · have ht := Ints.to_ev l hl
      refine Evt.neg (by omega) (Evt.bind ht (Evt.bind (specIsS_ev s l hl) (Evt.bind ht (Evt.bind (implIs_ev s l) (Evt.neg (by simp) ?_)))))
      exact Evt.step (fun k => laws_FnExactIsSuffixes.j0.eq_2 _ _ _ k) (Evt.neg (by simp) (Evt.bind ht (Evt.bind (Ints.eq_self l hl) (Evt.pos rfl (Evt.const _)))))
    · exact Evt.pos (by omega) (Evt.const _)
  · exact Evt.pos (by omega) (Evt.const _)
end Go.Proofs.Ytppmigiknidjhaa.Pure
