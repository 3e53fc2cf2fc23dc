-- by xprint.py: the kit's printer over texts of this session
import Derived.Test.YtnpcfiahmadkjaaX0
import Derived.Test.YtnpcfiahmadkjaaX1
import Derived.Test.YtnpcfiahmadkjaaX2
import Derived.Test.YtnpcfiahmadkjaaX3
import Derived.Test.YtnpcfiahmadkjaaX4
import Derived.Test.YtnpcfiahmadkjaaX5
import Derived.Test.YtnpcfiahmadkjaaX6
import Derived.Test.YtnpcfiahmadkjaaX7
import Derived.Test.YtnpcfiahmadkjaaX8
import Derived.Test.YtnpcfiahmadkjaaX9
namespace Go.Proofs.Ytnpcfiahmadkjaa.X
open Go.RowKit Go.Proofs.YtnpcfiahmadkjaaW.PrintWords Go.Proofs.YtnpcfiahmadkjaaW.PrintLast Go.Proofs.YtnpcfiahmadkjaaW.PrintMore
attribute [local go_sem] max2_int min2_int max_two min_two max_three min_three max_four min_four   -- for this text's walks alone
set_option linter.unusedVariables false
set_option linter.unusedSimpArgs false

end Go.Proofs.Ytnpcfiahmadkjaa.X
