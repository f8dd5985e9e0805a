/- The law FnExactLongestTwice returns true at every text. No conditions. -/
import Derived.Test.YtppmigiknidjhaaSufC
import Derived.Test.YtppmigiknidjhaaPQlawsFnExactLongestTwice
namespace Go.Proofs.Ytppmigiknidjhaa.Suf
set_option linter.unusedVariables false
open Go.RowKit Go.Proofs.Ytppmigiknidjhaa.PQ Go.Proofs.YtppmigiknidjhaaW.PrintWords Go.Proofs.YtppmigiknidjhaaW.PrintLast Go.Proofs.Ytppmigiknidjhaa.Pre
/-- The longest so far. -/
def best (s : ByteArray) (l : List Int) : Nat → ByteArray
  | 0 => ⟨#[]⟩
  | i + 1 => if comAt s l i > ((best s l i).size : Int) then s.extract (l.getD i 0).toNat (l.getD i 0 + comAt s l i).toNat else best s l i
def ansTwice (s : ByteArray) : ByteArray × Bool := if s.size ≤ 120 then (best s (sufs s) s.size, (best s (sufs s) s.size).toList != ([] : List UInt8)) else (⟨#[]⟩, false)
theorem specTwice_ev (s : ByteArray) : Evt (fun k => spec_LongestTwice.f k s) (ansTwice s) := by
  unfold spec_LongestTwice.f ansTwice
  by_cases hs : s.size ≤ 120
  · rw [if_pos hs]
    refine Evt.neg (by omega) (Evt.bind (spec_suffixes s (by omega)) ?_)
    have hw := sufs_within s
    have hll : (sufs s).length = s.size := sufs_len s
    generalize sufs s = l at *
    by_cases hz : s.size = 0
    · rw [hz]
      exact Evt.step (fun k => spec_LongestTwice.l0.eq_2 _ _ _ _ k) (Evt.neg (by omega) (Evt.const _))
    · have key : ∀ (m i : Nat), i + m = l.length → 1 ≤ i → Evt (fun k => spec_LongestTwice.l0 k s l (best s l i) (i : Int)) (best s l s.size, (best s l s.size).toList != ([] : List UInt8)) := by
        intro m
        induction m with
        | zero =>
          intro i hi h1
          refine Evt.step (fun k => spec_LongestTwice.l0.eq_2 _ _ _ _ k) (Evt.neg (by omega) ((Evt.const _).eq ?_))
          rw [show i = s.size by omega]
        | succ m ih =>
          intro i hi h1
          have hr := ih (i + 1) (by omega) (by omega)
          simp only [best] at hr
          obtain ⟨a1, a2, a3⟩ := within_get hw (i - 1) (by omega)
          obtain ⟨b1, b2, b3⟩ := within_get hw i (by omega)
          have hc := at_bound s l hw i (by omega)
          have ei : ((i - 1 : Nat) : Int) = (i : Int) - 1 := by omega
          rw [ei] at a1 a2 a3
          refine Evt.step (fun k => spec_LongestTwice.l0.eq_2 _ _ _ _ k) (Evt.pos (by omega) ?_)
          rw [w64 (n := (i : Int) - 1) (by omega) (by omega), w64 (n := (i : Int) + 1) (by omega) (by omega), a3, b3]
          rw [a3] at a1 a2
          rw [b3] at b1 b2
          refine Evt.pos (by omega) (Evt.pos (by omega) (Evt.pos a1 (Evt.pos a2 (Evt.pos (by omega) (Evt.pos b1 (Evt.pos b2 ?_))))))
          rw [ext_suf, ext_suf]
          have e : comAt s l i = (com (suf s (l.getD (i - 1) 0).toNat) (suf s (l.getD i 0).toNat) : Int) := by
            unfold comAt
            rw [if_neg (by omega)]
          refine Evt.bind ((specCom_ev _ _ (Nat.le_trans (suf_le _ _) (by omega))).eq e.symm) ?_
          rw [w64 (n := l.getD i 0 + comAt s l i) (by omega) (by omega)]
          by_cases hb : comAt s l i > ((best s l i).size : Int)
          · rw [if_pos hb] at hr
            exact Evt.pos hb (Evt.pos (by omega) (Evt.pos (by omega) hr))
          · rw [if_neg hb] at hr
            exact Evt.neg hb hr
      have h0 : best s l 1 = ⟨#[]⟩ := by
        unfold best
        rw [if_neg (by show ¬ (0 : Int) > _; omega)]
        rfl
      have h := key (l.length - 1) 1 (by omega) (by omega)
      rw [h0] at h
      exact h
  · rw [if_neg hs]
    exact Evt.pos (by omega) (Evt.const _)
theorem implTwice_ev (s : ByteArray) : Evt (fun k => impl_LongestTwice.f k s) (ansTwice s) := by
  unfold impl_LongestTwice.f
  rw [implSuf_ev]
  refine Evt.bsome ?_
  unfold ansSuf ansTwice
  by_cases hs : s.size ≤ 120
  · rw [if_pos hs, if_pos hs]
    have hw := sufs_within s
    have hll : (sufs s).length = s.size := sufs_len s
    refine Evt.pos rfl (Evt.bind (commons_ev s (by omega) (sufs s) (by omega) hw) ?_)
    show Evt (fun k => impl_LongestTwice.l0 k s (sufs s) (⟨#[]⟩ : ByteArray) (coms s (sufs s)) ((coms s (sufs s)).length : Int) 0) _
    generalize sufs s = l at *
    have hcl : (coms s l).length = l.length := by simp [coms]
    rw [hcl]
    have key : ∀ (m i : Nat), i + m = l.length → Evt (fun k => impl_LongestTwice.l0 k s l (best s l i) (coms s l) (l.length : Int) (i : Int)) (best s l s.size, (best s l s.size).toList != ([] : List UInt8)) := by
      intro m
      induction m with
      | zero =>
        intro i hi
        refine Evt.step (fun k => impl_LongestTwice.l0.eq_2 _ _ _ _ _ _ k) (Evt.neg (by omega) ((Evt.const _).eq ?_))
        rw [show i = s.size by omega]
      | succ m ih =>
        intro i hi
        have hr := ih (i + 1) (by omega)
        simp only [best] at hr
        obtain ⟨b1, b2, b3⟩ := within_get hw i (by omega)
        have hc := at_bound s l hw i (by omega)
        have e : rd (coms s l) (i : Int) = comAt s l i := by
          rw [Ints.rd_get _ i (by omega)]
          simp [coms]
        refine Evt.step (fun k => impl_LongestTwice.l0.eq_2 _ _ _ _ _ _ k) (Evt.pos (by omega) (Evt.pos (by omega) (Evt.pos (by omega) ?_)))
        rw [w64 (n := (i : Int) + 1) (by omega) (by omega), b3, e]
        rw [b3] at b1 b2
        rw [w64 (n := l.getD i 0 + comAt s l i) (by omega) (by omega)]
        by_cases hb : comAt s l i > ((best s l i).size : Int)
        · rw [if_pos hb] at hr
          exact Evt.pos hb (Evt.pos (by omega) (Evt.pos b1 (Evt.pos (by omega) (Evt.pos (by omega) hr))))
        · rw [if_neg hb] at hr
          exact Evt.neg hb hr
    exact key l.length 0 (by omega)
  · rw [if_neg hs, if_neg hs]
    exact Evt.neg (by simp) (Evt.const _)
end Go.Proofs.Ytppmigiknidjhaa.Suf
namespace Go.Proofs.Ytppmigiknidjhaa.Pure
open Go.RowKit Go.Proofs.Ytppmigiknidjhaa.PQ Go.Proofs.YtppmigiknidjhaaW.PrintWords Go.Proofs.YtppmigiknidjhaaW.PrintLast Go.Proofs.Ytppmigiknidjhaa.Pre Go.Proofs.Ytppmigiknidjhaa.Suf
theorem FnExactLongestTwice : laws_FnExactLongestTwice.Pure := by
  intro s _
  refine Evt.ex (r := true) ?_
  unfold laws_FnExactLongestTwice.f
  by_cases hs : s.size ≤ 1048576
  · exact Evt.neg (by omega) (Evt.bind (specTwice_ev s) (Evt.bind (implTwice_ev s) (Evt.pos rfl (Evt.neg (by simp) (Evt.const _)))))
  · exact Evt.pos (by omega) (Evt.const _)
end Go.Proofs.Ytppmigiknidjhaa.Pure
