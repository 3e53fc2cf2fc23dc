/- The statement WeakEnds of chapter 16: whatever row of classes and sos comes in, the law answers true: what is left behind the rules is what the document allows (for a row of more than 3000 classes: the short call alone). -/
import Derived.Test.YtnpcfiahmadkjaaC
namespace Go.Proofs.Ytnpcfiahmadkjaa.Pure
open Go.RowKit Go.Proofs.Ytnpcfiahmadkjaa.X Go.Proofs.YtnpcfiahmadkjaaW.PrintWords Go.Proofs.YtnpcfiahmadkjaaW.PrintLast Go.Proofs.Ytnpcfiahmadkjaa
set_option linter.unusedVariables false
set_option linter.unusedSimpArgs false

theorem WeakEnds : selvedgelaw16_WeakEnds.Pure := fun l s _ _ _ _ => E.out (A.weakEnds l s)
end Go.Proofs.Ytnpcfiahmadkjaa.Pure
