import Derived.Test.YtaohghcmlohngaaDoorX7
import Derived.Test.YtaohghcmlohngaaDoorF
namespace Go.Proofs.YtaohghcmlohngaaDoor.Pure
open Go.RowKit Go.Proofs.YtaohghcmlohngaaDoor.X Go.Proofs.YtaohghcmlohngaaDoorW.PrintWords Go.Proofs.YtaohghcmlohngaaDoorW.PrintLast
theorem decodes_ev (l : List UInt8) (attr : Bool) : Ev (fun k => selvedgelaw03_CharrefDecodes.f k (mk l) attr) true := by
  unfold selvedgelaw03_CharrefDecodes.f
  rw [mk_size]
  by_cases h : (l.length : Int) > 5000
  · exact E.pos h (E.bnd works_ev (E.ret rfl))
  · exact E.neg h (E.bnd (dec_ev l attr (by omega)) (E.bnd (rdec_ev l attr (by omega)) (E.pos rfl (E.bnd works_ev (E.ret rfl)))))
theorem CharrefDecodes : selvedgelaw03_CharrefDecodes.Pure := by
  intro a0 a1 _
  have := decodes_ev a0.data.toList a1
  rw [← mk_of] at this
  exact E.out this
end Go.Proofs.YtaohghcmlohngaaDoor.Pure
