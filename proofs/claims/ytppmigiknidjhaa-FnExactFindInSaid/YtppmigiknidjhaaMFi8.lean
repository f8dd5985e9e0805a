/- Several texts in one: what the claim's last text rests on. No conditions. -/
import Derived.Test.YtppmigiknidjhaaMFi5
import Derived.Laws.Strings
import Derived.WideShapes
section
/- Texts as lists of numbers. No conditions. -/
namespace Go.Proofs.Ytppmigiknidjhaa.Byt
set_option linter.unusedVariables false
open Go.RowKit Go.Proofs.YtppmigiknidjhaaW.PrintWords Go.Proofs.Ytppmigiknidjhaa.Pre

/-! ### Texts as lists of numbers -/
end Go.Proofs.Ytppmigiknidjhaa.Byt
end
