/- No level is above 125 or below the paragraph's; what is removed has the level of what stands ahead; what is not removed stays, or becomes L or R: a stack's entries rise, and its overrides are L or R. -/
import Derived.Test.YtdkbkecnhebanaaT22
namespace Go.Proofs.Ytdkbkecnhebanaa.Pure
open Go.RowKit Go.Proofs.Ytdkbkecnhebanaa.X Go.Proofs.YtdkbkecnhebanaaW.PrintWords Go.Proofs.YtdkbkecnhebanaaW.PrintLast
theorem ExplicitBounds : selvedgelaw14_ExplicitBounds.Pure := fun _ _ _ _ _ h => if_pos (u8_nonneg h)
end Go.Proofs.Ytdkbkecnhebanaa.Pure
