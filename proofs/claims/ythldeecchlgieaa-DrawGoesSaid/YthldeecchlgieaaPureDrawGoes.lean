/- The pure statement of DrawGoes, proved. -/
import Derived.Test.YthldeecchlgieaaEDrawGoesx2
namespace Go.Proofs.Ythldeecchlgieaa.Pure
open Go.RowKit Go.Proofs.Ythldeecchlgieaa.EDrawGoes Go.Proofs.YthldeecchlgieaaW.PrintWords Go.Proofs.YthldeecchlgieaaW.PrintLast Go.Proofs.YthldeecchlgieaaW.PrintMore
set_option linter.unusedVariables false
set_option linter.unusedSimpArgs false

theorem DrawGoes : waybilllaw11_DrawGoes.Pure := trivial

end Go.Proofs.Ythldeecchlgieaa.Pure
