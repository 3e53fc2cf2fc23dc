-- by xprint.py: the kit's printer over texts of this session
import Derived.Test.YthckihfkhmoafaaX0
import Derived.Test.YthckihfkhmoafaaX1
import Derived.Test.YthckihfkhmoafaaX2
import Derived.Test.YthckihfkhmoafaaX3
import Derived.Test.YthckihfkhmoafaaX4
import Derived.Test.YthckihfkhmoafaaX5
import Derived.Test.YthckihfkhmoafaaX6
import Derived.Test.YthckihfkhmoafaaX7
namespace Go.Proofs.Ythckihfkhmoafaa.X
open Go.RowKit Go.Proofs.YthckihfkhmoafaaW.PrintWords Go.Proofs.YthckihfkhmoafaaW.PrintLast Go.Proofs.YthckihfkhmoafaaW.PrintMore
attribute [local go_sem] max2_int min2_int max_two min_two max_three min_three max_four min_four   -- for this text's walks alone
set_option linter.unusedVariables false
set_option linter.unusedSimpArgs false

end Go.Proofs.Ythckihfkhmoafaa.X
