/- Several texts in one: what the claim's last text rests on. No conditions. -/
import Derived.Test.YtjknkeipginpcaaMTa11
import Derived.Test.YtjknkeipginpcaaMTa12
section
/- The law FnExactGetKey returns true at every treap and key. No conditions. -/
namespace Go.Proofs.Ytjknkeipginpcaa.Pure
open Go.RowKit Go.Proofs.Ytjknkeipginpcaa.PQ Go.Proofs.YtjknkeipginpcaaW.PrintWords Go.Proofs.YtjknkeipginpcaaW.PrintLast Go.Proofs.Ytjknkeipginpcaa.Pre Go.Proofs.Ytjknkeipginpcaa.TrG Go.Proofs.Ytjknkeipginpcaa.Tr Go.Proofs.Ytjknkeipginpcaa.Po

theorem FnExactGetKey : laws_FnExactGetKey.Pure := by
  intro l a1 hw hw1
  refine Evt.ex (r := true) ?_
  obtain ⟨t, ht, h2⟩ := sz_ev l hw.1 (fun x hx => ⟨(hw.2 x hx).1, (hw.2 x hx).2.1⟩)
  unfold laws_FnExactGetKey.f
  by_cases hbig : (a1.size : Int) > 1048576
  · exact Evt.pos hbig (Evt.const _)
  · refine Evt.neg hbig (Evt.bind ht ?_)
    by_cases hc : t < 0
    · exact Evt.pos hc (Evt.const _)
    · refine Evt.neg hc ?_
      obtain ⟨hl, _⟩ := h2 (by omega)
      have hto := to_ev l hl
      have hm : (l.map cvL).length ≤ 1048576 := by rw [List.length_map]; exact hl
      generalize l.map cvL = L at hto hm
      obtain ⟨r, hI, hS⟩ := getKey_both L hm a1
      refine Evt.bind hto (Evt.bind hS (Evt.bind hto (Evt.bind hI (Evt.pos rfl (Evt.pos rfl ?_)))))
      exact Evt.step (fun k => laws_FnExactGetKey.j0.eq_2 _ _ _ k) (Evt.neg (by simp) (Evt.bind hto (Evt.bind (eq_ev L hm) (Evt.pos rfl (Evt.const _)))))
end Go.Proofs.Ytjknkeipginpcaa.Pure
end
