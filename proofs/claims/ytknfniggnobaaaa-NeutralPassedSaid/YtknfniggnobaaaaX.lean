-- by xprint.py: the kit's printer over texts of this session
import Derived.Test.YtknfniggnobaaaaX0
import Derived.Test.YtknfniggnobaaaaX1
import Derived.Test.YtknfniggnobaaaaX2
import Derived.Test.YtknfniggnobaaaaX3
import Derived.Test.YtknfniggnobaaaaX4
import Derived.Test.YtknfniggnobaaaaX5
import Derived.Test.YtknfniggnobaaaaX6
import Derived.Test.YtknfniggnobaaaaX7
namespace Go.Proofs.Ytknfniggnobaaaa.X
open Go.RowKit Go.Proofs.YtknfniggnobaaaaW.PrintWords Go.Proofs.YtknfniggnobaaaaW.PrintLast Go.Proofs.YtknfniggnobaaaaW.PrintMore
attribute [local go_sem] max2_int min2_int max_two min_two max_three min_three max_four min_four   -- for this text's walks alone
set_option linter.unusedVariables false
set_option linter.unusedSimpArgs false

end Go.Proofs.Ytknfniggnobaaaa.X
