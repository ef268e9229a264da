-- Written by a program of this seat, over a copy of the print; parts by hand.
import Derived.Test.YtaoffnhladfdcaaDoorEScriptTracex0
import Derived.Test.YtaoffnhladfdcaaDoorEScriptTracex1
import Derived.Test.YtaoffnhladfdcaaDoorEScriptTracex2
import Derived.Test.YtaoffnhladfdcaaDoorEScriptTracex3
import Derived.Test.YtaoffnhladfdcaaDoorEScriptTracex4
import Derived.Test.YtaoffnhladfdcaaDoorEScriptTracex5
import Derived.Test.YtaoffnhladfdcaaDoorEScriptTracex6
namespace Go.Proofs.YtaoffnhladfdcaaDoor.EScriptTrace
open Go.RowKit Go.Proofs.YtaoffnhladfdcaaDoorW.PrintWords Go.Proofs.YtaoffnhladfdcaaDoorW.PrintLast Go.Proofs.YtaoffnhladfdcaaDoorW.PrintMore
attribute [local go_sem] max2_int min2_int max_two min_two max_three min_three max_four min_four   -- for this text's walks alone
set_option linter.unusedVariables false
set_option linter.unusedSimpArgs false

end Go.Proofs.YtaoffnhladfdcaaDoor.EScriptTrace
