-- Printed by the session's hookprint.py (the kit's print, some functions given by hand).
import Derived.Test.YtaeocpnabgnidaaDoorMx0
import Derived.Test.YtaeocpnabgnidaaDoorMx1
import Derived.Test.YtaeocpnabgnidaaDoorMx2
import Derived.Test.YtaeocpnabgnidaaDoorMx3
import Derived.Test.YtaeocpnabgnidaaDoorMx4
import Derived.Test.YtaeocpnabgnidaaDoorMx5
import Derived.Test.YtaeocpnabgnidaaDoorMx6
import Derived.Test.YtaeocpnabgnidaaDoorMx7
namespace Go.Proofs.YtaeocpnabgnidaaDoor.M
open Go.RowKit Go.Proofs.YtaeocpnabgnidaaDoorW.PrintWords Go.Proofs.YtaeocpnabgnidaaDoorW.PrintLast Go.Proofs.YtaeocpnabgnidaaDoorW.PrintMore
attribute [local go_sem] max2_int min2_int max_two min_two max_three min_three max_four min_four   -- for this text's walks alone
set_option linter.unusedVariables false
set_option linter.unusedSimpArgs false

end Go.Proofs.YtaeocpnabgnidaaDoor.M
