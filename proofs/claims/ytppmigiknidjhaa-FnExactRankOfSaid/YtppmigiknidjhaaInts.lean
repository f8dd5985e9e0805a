/- Lists of numbers taken over. No conditions. -/
import Derived.Test.YtppmigiknidjhaaIntM
import Derived.Test.YtppmigiknidjhaaPQlawstoIntS
namespace Go.Proofs.Ytppmigiknidjhaa.Ints
set_option linter.unusedVariables false
open Go.RowKit Go.Proofs.Ytppmigiknidjhaa.PQ Go.Proofs.YtppmigiknidjhaaW.PrintWords Go.Proofs.YtppmigiknidjhaaW.PrintLast Go.Proofs.Ytppmigiknidjhaa.Pre

theorem to_ev (l : List Int) (hl : l.length ≤ 1048576) : Evt (fun k => laws_toIntS.f k l) l := by
  unfold laws_toIntS.f
  refine Evt.pos (by omega) (Evt.pos (by omega) ?_)
  have h := fill (L := fun k acc i => laws_toIntS.l0 k l acc i) (f := fun i => id (l.getD i 0)) (n := l.length) ?_ ?_ (List.replicate ((l.length : Int)).toNat 0) (by simp)
  · rw [map_range, List.map_id] at h
    exact h
  · intro acc ha
    exact Evt.step (fun k => laws_toIntS.l0.eq_2 _ _ _ k) (Evt.neg (by omega) (Evt.const _))
  · intro acc i r hi ha hr
    refine Evt.step (fun k => laws_toIntS.l0.eq_2 _ _ _ k) (Evt.pos (by omega) (Evt.pos (by omega) (Evt.pos (by omega) ?_)))
    rw [w64 (n := (i : Int) + 1) (by omega) (by omega)]
    exact hr
end Go.Proofs.Ytppmigiknidjhaa.Ints
