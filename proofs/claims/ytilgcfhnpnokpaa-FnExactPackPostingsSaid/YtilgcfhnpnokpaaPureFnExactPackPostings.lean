/- The law FnExactPackPostings returns true at every list of postings: the program's bytes are the reference's. No conditions. -/
import Derived.Test.YtilgcfhnpnokpaaPosts
import Derived.Test.YtilgcfhnpnokpaaPQlawsFnExactPackPostings
namespace Go.Proofs.Ytilgcfhnpnokpaa.Pure
open Go.RowKit Go.Proofs.Ytilgcfhnpnokpaa.PQ Go.Proofs.YtilgcfhnpnokpaaW.PrintWords Go.Proofs.YtilgcfhnpnokpaaW.PrintLast Go.Proofs.Ytilgcfhnpnokpaa.Pre Go.Proofs.Ytilgcfhnpnokpaa.Posts

abbrev Pl := S83
def conv (x : Pl) : Po := ⟨x.f0, x.f1⟩
theorem to_ev (l : List Pl) (hl : l.length ≤ 1048576) : Evt (fun k => laws_toPostingS.f k l) (l.map conv) := by
  unfold laws_toPostingS.f
  refine Evt.pos (by omega) (Evt.pos (by omega) ?_)
  have h := fill (L := fun k acc i => laws_toPostingS.l0 k l acc i) (f := fun i => conv (l.getD i z83)) (n := l.length) ?_ ?_ (List.replicate ((l.length : Int)).toNat z81) (by simp)
  · rw [map_range] at h
    exact h
  · intro acc ha
    refine Evt.step (fun k => laws_toPostingS.l0.eq_2 _ _ _ k) (Evt.neg (by omega) (Evt.const _))
  · intro acc i r hi ha hr
    refine Evt.step (fun k => laws_toPostingS.l0.eq_2 _ _ _ k) (Evt.pos (by omega) (Evt.pos (by omega) ?_))
    unfold laws_toPosting.f
    refine Evt.bsome (Evt.pos (by omega) ?_)
    rw [w64 (n := (i : Int) + 1) (by omega) (by omega)]
    exact hr
theorem eq_self (l : List Po) (hl : l.length ≤ 1048576) : Evt (fun k => laws_eqPostingS.f k l l) true := by
  unfold laws_eqPostingS.f
  refine Evt.pos rfl ?_
  have key : ∀ (m i : Nat), i + m = l.length → Evt (fun k => laws_eqPostingS.l0 k l l (i : Int)) true := by
    intro m
    induction m with
    | zero => intro i hi; exact Evt.step (fun k => laws_eqPostingS.l0.eq_2 _ _ _ k) (Evt.neg (by omega) (Evt.const _))
    | succ m ih =>
      intro i hi
      refine Evt.step (fun k => laws_eqPostingS.l0.eq_2 _ _ _ k) (Evt.pos (by omega) (Evt.pos (by omega) (Evt.pos (by omega) ?_)))
      have e : ∀ x y : Int, laws_eqPosting.f x y x y = some true := fun x y => by unfold laws_eqPosting.f; simp
      rw [e]
      refine Evt.bsome (Evt.pos rfl ?_)
      rw [w64 (n := (i : Int) + 1) (by omega) (by omega)]
      exact ih (i + 1) (by omega)
  exact key l.length 0 (by omega)

theorem FnExactPackPostings : laws_FnExactPackPostings.Pure := by
  intro l hw
  refine Evt.ex (r := true) ?_
  have hml : l.length ≤ 9223372036854775807 := hw.1
  unfold laws_FnExactPackPostings.f laws_szPostingS.f
  rw [w64 (n := 1048576 - (l.length : Int)) (by omega) (by omega)]
  by_cases hl : l.length ≤ 1048576
  · rw [if_neg (by omega)]
    refine Evt.bsome (Evt.neg (by omega) ?_)
    have ht := to_ev l hl
    have hm : (l.map conv).length ≤ 1048576 := by simpa using hl
    refine Evt.bind ht (Evt.bind (spec_pack _ hm) (Evt.bind ht (Evt.bind (impl_pack _ hm) (Evt.pos rfl ?_))))
    refine Evt.step (fun k => laws_FnExactPackPostings.j0.eq_2 _ _ _ k) (Evt.neg (by simp) (Evt.bind ht (Evt.bind (eq_self _ hm) (Evt.pos rfl (Evt.const _)))))
  · rw [if_pos (by omega)]
    exact Evt.bsome (Evt.pos (by omega) (Evt.const _))

end Go.Proofs.Ytilgcfhnpnokpaa.Pure
