/- The statement WeakResolves of chapter 16: whatever row of classes and sos comes in, the law answers true: the program's classes are the document's (for a row of more than 3000 classes: the short call alone). -/
import Derived.Test.YtnpcfiahmadkjaaC
namespace Go.Proofs.Ytnpcfiahmadkjaa.Pure
open Go.RowKit Go.Proofs.Ytnpcfiahmadkjaa.X Go.Proofs.YtnpcfiahmadkjaaW.PrintWords Go.Proofs.YtnpcfiahmadkjaaW.PrintLast Go.Proofs.Ytnpcfiahmadkjaa
set_option linter.unusedVariables false
set_option linter.unusedSimpArgs false

theorem WeakResolves : selvedgelaw16_WeakResolves.Pure := fun l s _ _ _ _ => E.out (A.weakResolves l s)
end Go.Proofs.Ytnpcfiahmadkjaa.Pure
