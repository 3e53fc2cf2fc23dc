import Derived.Test.YtdmkbaebcopjfaaT6
import Derived.Test.YtdmkbaebcopjfaaD
namespace Go.Proofs.Ytdmkbaebcopjfaa.Pure
open Go.RowKit Go.Proofs.Ytdmkbaebcopjfaa.X Go.Proofs.YtdmkbaebcopjfaaW.PrintWords Go.Proofs.YtdmkbaebcopjfaaW.PrintLast Go.Proofs.Ytdmkbaebcopjfaa Go.Proofs.Ytdmkbaebcopjfaa.A
set_option linter.unusedVariables false

theorem UtfDecodes : selvedgelaw02_UtfDecodes.Pure := by
  intro l h1 h2 h3
  refine E.out (r := true) ?_
  unfold selvedgelaw02_UtfDecodes.f
  by_cases c : 70000 < l.length
  · exact E.pos c (E.ret rfl)
  refine E.neg c ?_
  have hl : (bytesOf (strOfNums l)).length = l.length := by rw [bytesOf_length, sons_size]
  have hv : decV (bytesOf (strOfNums l)) = decV l := by rw [decV_enc, decV_enc, strOfNums_bytesOf]
  by_cases c2 : l.length ≤ 65536
  · refine E.bno (a := (decV l, 0)) (by unfold utf_Decode.f; rw [hl, if_pos c2, hv]) (E.bnd (Decode_ev l c2) (E.pos rfl (E.ret rfl)))
  · refine E.bno (a := (⟨#[]⟩, 3)) (by unfold utf_Decode.f; rw [hl, if_neg c2]) ?_
    refine E.bnd (a := (⟨#[]⟩, 3)) ?_ (E.pos rfl (E.ret rfl))
    unfold selvedgeref02_Decode.f
    exact E.pos (by omega) (E.ret rfl)

end Go.Proofs.Ytdmkbaebcopjfaa.Pure
