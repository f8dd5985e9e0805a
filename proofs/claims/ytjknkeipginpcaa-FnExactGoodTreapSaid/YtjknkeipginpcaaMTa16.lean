/- Several texts in one: what the claim's last text rests on. No conditions. -/
import Derived.Test.YtjknkeipginpcaaMTa11
import Derived.Test.YtjknkeipginpcaaMTa15
section
/- The law FnExactGoodTreap returns true at every treap. No conditions. -/
namespace Go.Proofs.Ytjknkeipginpcaa.Pure
open Go.RowKit Go.Proofs.Ytjknkeipginpcaa.PQ Go.Proofs.YtjknkeipginpcaaW.PrintWords Go.Proofs.YtjknkeipginpcaaW.PrintLast Go.Proofs.Ytjknkeipginpcaa.Pre Go.Proofs.Ytjknkeipginpcaa.TrG Go.Proofs.Ytjknkeipginpcaa.Tr Go.Proofs.Ytjknkeipginpcaa.Po

theorem FnExactGoodTreap : laws_FnExactGoodTreap.Pure := by
  intro l hw
  refine Evt.ex (r := true) ?_
  obtain ⟨t, ht, h2⟩ := sz_ev l hw.1 (fun x hx => ⟨(hw.2 x hx).1, (hw.2 x hx).2.1⟩)
  unfold laws_FnExactGoodTreap.f
  refine Evt.bind ht ?_
  by_cases hc : t < 0
  · exact Evt.pos hc (Evt.const _)
  · refine Evt.neg hc ?_
    obtain ⟨hl, _⟩ := h2 (by omega)
    have hto := to_ev l hl
    have hm : (l.map cvL).length ≤ 1048576 := by rw [List.length_map]; exact hl
    generalize l.map cvL = L at hto hm
    have hP : impl_pairsOf.f L = some (ansP L) := if_pos hm
    have main : ∃ b : Bool, Evt (fun k => spec_GoodTreap.f k L) b ∧ impl_GoodTreap.f L = some b := by
      unfold spec_GoodTreap.f impl_GoodTreap.f
      rw [hP]
      rcases both L with ⟨m, _, h1, h2⟩ | ⟨h1, _, h2⟩
      · exact ⟨true, Evt.bind h2 (Evt.const _), by rw [h1]; rfl⟩
      · exact ⟨false, Evt.bind h2 (Evt.const _), by show some (ansP L).2 = _; rw [h1]⟩
    obtain ⟨b, hs, hi⟩ := main
    refine Evt.bind hto (Evt.bind hs (Evt.bind hto ?_))
    rw [hi]
    exact Evt.bsome (Evt.neg (by simp) (Evt.bind hto (Evt.bind (eq_ev L hm) (Evt.pos rfl (Evt.const _)))))
end Go.Proofs.Ytjknkeipginpcaa.Pure
end
