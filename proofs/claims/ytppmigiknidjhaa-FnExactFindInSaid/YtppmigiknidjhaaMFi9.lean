/- Several texts in one: what the claim's last text rests on. No conditions. -/
import Derived.Test.YtppmigiknidjhaaMFi5
import Derived.Lib.SlicesCompact
import Derived.Shelf.Spec.SearchS
section
/- Sorted rows without what stands twice: where each element stands in them. No conditions. -/
namespace Go.Proofs.Ytppmigiknidjhaa.Cpt
set_option linter.unusedVariables false
set_option linter.unusedSectionVars false
open Go.Lib

section
variable {α : Type} [Inhabited α] [DecidableEq α] {lt : α → α → Prop}
end
end Go.Proofs.Ytppmigiknidjhaa.Cpt
end
