/- Several texts in one: what the claim's last text rests on. No conditions. -/
import Derived.Test.YtjknkeipginpcaaMTg13
import Derived.Lib.SliceRun
import Derived.Deep.RegionLaw
import Derived.Test.YtjknkeipginpcaaMTg5
section
/- Treaps: slices.Delete at pairs, one element, in place. No conditions. -/
namespace Go.Proofs.Ytjknkeipginpcaa.TrG
set_option linter.unusedVariables false
set_option linter.unusedSimpArgs false
open Go.RowKit Go.Proofs.Ytjknkeipginpcaa.PQ Go.Proofs.YtjknkeipginpcaaW.PrintWords Go.Proofs.YtjknkeipginpcaaW.PrintLast Go.Proofs.YtjknkeipginpcaaW.PrintMore Go.Proofs.Ytjknkeipginpcaa.Pre Go.Proofs.Ytjknkeipginpcaa.Tr Go.Proofs.Ytjknkeipginpcaa.Pr Go.Proofs.Ytjknkeipginpcaa.Po

end Go.Proofs.Ytjknkeipginpcaa.TrG
end

section
/- impl.CutKey, by hand. No conditions. -/
namespace Go.Proofs.Ytjknkeipginpcaa.TrG
set_option linter.unusedVariables false
set_option linter.unusedSimpArgs false
open Go.RowKit Go.Proofs.Ytjknkeipginpcaa.PQ Go.Proofs.YtjknkeipginpcaaW.PrintWords Go.Proofs.YtjknkeipginpcaaW.PrintLast Go.Proofs.YtjknkeipginpcaaW.PrintMore Go.Proofs.Ytjknkeipginpcaa.Pre Go.Proofs.Ytjknkeipginpcaa.Tr Go.Proofs.Ytjknkeipginpcaa.Pr Go.Proofs.Ytjknkeipginpcaa.Po

theorem keys_ok {ps : List Pa} (h : ∀ x ∈ ps, x.f0.size ≤ 40 ∧ x.f1.size ≤ 60) : ∀ i : Nat, i < ps.length → (rd_T80 ps (i : Int)).f0.size ≤ 1048576 := by
  intro i hi
  have e : rd_T80 ps (i : Int) = ps[i] := by
    unfold rd_T80
    simp [hi]
  rw [e]
  have := (h _ (List.getElem_mem hi)).1
  omega
end Go.Proofs.Ytjknkeipginpcaa.TrG
end

section
-- Written by a program of this session (pprint.py) out of the translation's print; Lean checks it.
namespace Go.Proofs.Ytjknkeipginpcaa.PQ
open Go.RowKit Go.Proofs.YtjknkeipginpcaaW.PrintWords Go.Proofs.YtjknkeipginpcaaW.PrintLast Go.Proofs.YtjknkeipginpcaaW.PrintMore
attribute [local go_sem] max2_int min2_int max_two min_two max_three min_three max_four min_four   -- for this text's walks alone
set_option linter.unusedVariables false
set_option linter.unusedSimpArgs false

--OWNPART impl_CutKey
/-! ### impl_CutKey: function 34, by hand -/
--NEEDS loop.example/g00274/impl.GoodTreap
--NEEDS loop.example/g00274/spec.l7Of
--IMPORT TrX
end Go.Proofs.Ytjknkeipginpcaa.PQ
end
