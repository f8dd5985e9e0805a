/- Several texts in one: what the claim's last text rests on. No conditions. -/
import Derived.Test.YtaomjndfjmfelaaMSo17
import Derived.Lib.BufferMore
import Derived.Test.YtaomjndfjmfelaaMSo4
section
namespace Go.Proofs.Ytaomjndfjmfelaa.SoB
set_option linter.unusedVariables false
set_option linter.unusedSimpArgs false
open Go.RowKit Go.Shelf Go.Lib Go.Sort Go.Proofs.Ytaomjndfjmfelaa.PQ Go.Proofs.YtaomjndfjmfelaaW.PrintWords Go.Proofs.YtaomjndfjmfelaaW.PrintLast Go.Proofs.YtaomjndfjmfelaaW.PrintMore Go.Proofs.Ytaomjndfjmfelaa.Pre

end Go.Proofs.Ytaomjndfjmfelaa.SoB
end

section
namespace Go.Proofs.Ytaomjndfjmfelaa.SoB
set_option linter.unusedVariables false
set_option linter.unusedSimpArgs false
open Go.RowKit Go.Shelf Go.Lib Go.Sort Go.Proofs.Ytaomjndfjmfelaa.PQ Go.Proofs.YtaomjndfjmfelaaW.PrintWords Go.Proofs.YtaomjndfjmfelaaW.PrintLast Go.Proofs.YtaomjndfjmfelaaW.PrintMore Go.Proofs.Ytaomjndfjmfelaa.Pre
attribute [local go_sem] max2_int min2_int max_two min_two

end Go.Proofs.Ytaomjndfjmfelaa.SoB
end
