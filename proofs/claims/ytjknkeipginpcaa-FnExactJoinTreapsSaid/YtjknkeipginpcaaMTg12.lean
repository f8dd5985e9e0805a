/- Several texts in one: what the claim's last text rests on. No conditions. -/
import Derived.Test.YtjknkeipginpcaaMTg5
import Derived.Test.YtjknkeipginpcaaMTg11
import Derived.Test.YtjknkeipginpcaaMTg9
section
-- Written by a program of this session (pprint.py) out of the translation's print; Lean checks it.
namespace Go.Proofs.Ytjknkeipginpcaa.PQ
open Go.RowKit Go.Proofs.YtjknkeipginpcaaW.PrintWords Go.Proofs.YtjknkeipginpcaaW.PrintLast Go.Proofs.YtjknkeipginpcaaW.PrintMore
attribute [local go_sem] max2_int min2_int max_two min_two max_three min_three max_four min_four   -- for this text's walks alone
set_option linter.unusedVariables false
set_option linter.unusedSimpArgs false

/-! ### spec_SplitTreap: function 31 -/
end Go.Proofs.Ytjknkeipginpcaa.PQ
end

section
-- Written by a program of this session (pprint.py) out of the translation's print; Lean checks it.
namespace Go.Proofs.Ytjknkeipginpcaa.PQ
open Go.RowKit Go.Proofs.YtjknkeipginpcaaW.PrintWords Go.Proofs.YtjknkeipginpcaaW.PrintLast Go.Proofs.YtjknkeipginpcaaW.PrintMore
attribute [local go_sem] max2_int min2_int max_two min_two max_three min_three max_four min_four   -- for this text's walks alone
set_option linter.unusedVariables false
set_option linter.unusedSimpArgs false

--OWNPART impl_treapOf
/-! ### impl_treapOf: function 57, by hand -/
--NEEDS loop.example/g00274/impl.heavier
--NEEDS loop.example/g00274/spec.l7Above
--IMPORT TrO
end Go.Proofs.Ytjknkeipginpcaa.PQ
end

section
-- Written by a program of this session (pprint.py) out of the translation's print; Lean checks it.
namespace Go.Proofs.Ytjknkeipginpcaa.PQ
open Go.RowKit Go.Proofs.YtjknkeipginpcaaW.PrintWords Go.Proofs.YtjknkeipginpcaaW.PrintLast Go.Proofs.YtjknkeipginpcaaW.PrintMore
attribute [local go_sem] max2_int min2_int max_two min_two max_three min_three max_four min_four   -- for this text's walks alone
set_option linter.unusedVariables false
set_option linter.unusedSimpArgs false

--OWNPART impl_pairsOf
/-! ### impl_pairsOf: function 49, by hand -/
--NEEDS loop.example/g00274/impl.heavier
--NEEDS loop.example/g00274/spec.l7Above
--NEEDS loop.example/g00274/impl.treapKeyOK
--NEEDS slices.Equal[[]loop.example/g00274/impl.Limb,loop.example/g00274/impl.Limb]
--IMPORT Po
end Go.Proofs.Ytjknkeipginpcaa.PQ
end
