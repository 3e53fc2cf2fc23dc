-- by xprint.py: the kit's printer over texts of this session
import Derived.Test.YtdmkbaebcopjfaaX0
import Derived.Test.YtdmkbaebcopjfaaX1
import Derived.Test.YtdmkbaebcopjfaaX2
import Derived.Test.YtdmkbaebcopjfaaX3
namespace Go.Proofs.Ytdmkbaebcopjfaa.X
open Go.RowKit Go.Proofs.YtdmkbaebcopjfaaW.PrintWords Go.Proofs.YtdmkbaebcopjfaaW.PrintLast Go.Proofs.YtdmkbaebcopjfaaW.PrintMore
attribute [local go_sem] max2_int min2_int max_two min_two max_three min_three max_four min_four   -- for this text's walks alone
set_option linter.unusedVariables false
set_option linter.unusedSimpArgs false

end Go.Proofs.Ytdmkbaebcopjfaa.X
