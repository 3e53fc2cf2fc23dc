import Derived.Test.YthckihfkhmoafaaX
import Derived.Test.YthckihfkhmoafaaE
/-! What the functions of chapter 21 come to. -/
namespace Go.Proofs.Ythckihfkhmoafaa.A
open Go.RowKit Go.Proofs.Ythckihfkhmoafaa.X Go.Proofs.YthckihfkhmoafaaW.PrintWords Go.Proofs.YthckihfkhmoafaaW.PrintLast Go.Proofs.Ythckihfkhmoafaa
set_option linter.unusedVariables false
set_option linter.unusedSimpArgs false

theorem works_ev : Ev (fun k => selvedgelaw21_works.f k) true := by
  refine E.of (fun k => selvedgelaw21_works.mono k) 20 ?_
  decide +kernel
end Go.Proofs.Ythckihfkhmoafaa.A
