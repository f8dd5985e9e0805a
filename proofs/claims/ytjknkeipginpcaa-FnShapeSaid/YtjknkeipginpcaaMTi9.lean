/- Several texts in one: what the claim's last text rests on. No conditions. -/
import Derived.Test.YtjknkeipginpcaaMTi7
import Derived.Test.YtjknkeipginpcaaMTi5
section
namespace Go.Proofs.Ytjknkeipginpcaa.Strs
set_option linter.unusedVariables false
open Go.RowKit Go.Proofs.Ytjknkeipginpcaa.PQ Go.Proofs.YtjknkeipginpcaaW.PrintWords Go.Proofs.YtjknkeipginpcaaW.PrintLast Go.Proofs.Ytjknkeipginpcaa.Pre

end Go.Proofs.Ytjknkeipginpcaa.Strs
end
