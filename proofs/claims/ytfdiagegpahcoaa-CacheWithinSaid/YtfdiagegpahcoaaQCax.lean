-- Printed by wip/drv/drv.py of this session, over the kit's print tool. Not trusted: Lean checks it.
import Derived.Test.YtfdiagegpahcoaaQCax0
import Derived.Test.YtfdiagegpahcoaaQCax1
import Derived.Test.YtfdiagegpahcoaaQCax2
import Derived.Test.YtfdiagegpahcoaaQCax3
import Derived.Test.YtfdiagegpahcoaaQCax4
import Derived.Test.YtfdiagegpahcoaaQCax5
namespace Go.Proofs.Ytfdiagegpahcoaa.QCa
open Go.RowKit Go.Proofs.YtfdiagegpahcoaaW.PrintWords Go.Proofs.YtfdiagegpahcoaaW.PrintLast Go.Proofs.YtfdiagegpahcoaaW.PrintMore
attribute [local go_sem] max2_int min2_int max_two min_two max_three min_three max_four min_four   -- for this text's walks alone
set_option linter.unusedVariables false
set_option linter.unusedSimpArgs false

end Go.Proofs.Ytfdiagegpahcoaa.QCa
