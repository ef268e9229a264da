/- The pure statement of HashParts, proved. -/
import Derived.Test.YthldeecchlgieaaEHashPartsx1
namespace Go.Proofs.Ythldeecchlgieaa.Pure
open Go.RowKit Go.Proofs.Ythldeecchlgieaa.EHashParts Go.Proofs.YthldeecchlgieaaW.PrintWords Go.Proofs.YthldeecchlgieaaW.PrintLast Go.Proofs.YthldeecchlgieaaW.PrintMore
set_option linter.unusedVariables false
set_option linter.unusedSimpArgs false

theorem HashParts : waybilllaw10_HashParts.Pure := trivial

end Go.Proofs.Ythldeecchlgieaa.Pure
