/- Of any classes (at most 2000), of any base, the program and the document's answer have the same levels and classes: both are the same plain function of stacks. -/
import Derived.Test.YtdkbkecnhebanaaX1
import Derived.Test.YtdkbkecnhebanaaG
import Derived.Test.YtdkbkecnhebanaaE
namespace Go.Proofs.Ytdkbkecnhebanaa.Pure
open Go.RowKit Go.Proofs.Ytdkbkecnhebanaa Go.Proofs.Ytdkbkecnhebanaa.X Go.Proofs.YtdkbkecnhebanaaW.PrintWords Go.Proofs.YtdkbkecnhebanaaW.PrintLast
set_option linter.unusedVariables false
set_option linter.unusedSimpArgs false
theorem ExplicitLevels : selvedgelaw14_ExplicitLevels.Pure := by
  intro l a _ _ _ ha
  apply E.out
  have h0 := u8_nonneg ha
  by_cases q : (l.length : Int) > 2000
  · exact E.pos q works_then
  · refine E.neg q (E.pos (by simp; omega) (E.bno rfl (E.bno (lvRes_some _ a h0) (E.bno (lvRef_some l a h0) ?_))))
    simp only [List.nil_append]
    refine E.bnd (same_ev _ _ (by have := lvRes_len l a; omega)) (E.pos rfl (E.pos trivial (E.pos trivial ?_)))
    exact E.bnd (same_ev _ _ (by omega)) (E.pos rfl works_then)
end Go.Proofs.Ytdkbkecnhebanaa.Pure
