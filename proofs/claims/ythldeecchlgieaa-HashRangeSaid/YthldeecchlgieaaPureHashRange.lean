/- The pure statement of HashRange, proved. -/
import Derived.Test.YthldeecchlgieaaEHashRangex1
namespace Go.Proofs.Ythldeecchlgieaa.Pure
open Go.RowKit Go.Proofs.Ythldeecchlgieaa.EHashRange Go.Proofs.YthldeecchlgieaaW.PrintWords Go.Proofs.YthldeecchlgieaaW.PrintLast Go.Proofs.YthldeecchlgieaaW.PrintMore
set_option linter.unusedVariables false
set_option linter.unusedSimpArgs false

theorem HashRange : waybilllaw10_HashRange.Pure := trivial

end Go.Proofs.Ythldeecchlgieaa.Pure
