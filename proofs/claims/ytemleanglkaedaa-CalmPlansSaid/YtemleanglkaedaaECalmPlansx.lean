-- Written by a program of this seat, over a copy of the print; parts by hand.
import Derived.Test.YtemleanglkaedaaECalmPlansx0
import Derived.Test.YtemleanglkaedaaECalmPlansx1
import Derived.Test.YtemleanglkaedaaECalmPlansx2
import Derived.Test.YtemleanglkaedaaECalmPlansx3
import Derived.Test.YtemleanglkaedaaECalmPlansx4
namespace Go.Proofs.Ytemleanglkaedaa.ECalmPlans
open Go.RowKit Go.Proofs.YtemleanglkaedaaW.PrintWords Go.Proofs.YtemleanglkaedaaW.PrintLast Go.Proofs.YtemleanglkaedaaW.PrintMore
attribute [local go_sem] max2_int min2_int max_two min_two max_three min_three max_four min_four   -- for this text's walks alone
set_option linter.unusedVariables false
set_option linter.unusedSimpArgs false

end Go.Proofs.Ytemleanglkaedaa.ECalmPlans
