import Derived.Test.YtaohghcmlohngaaDoorX8
import Derived.Test.YtaohghcmlohngaaDoorF
namespace Go.Proofs.YtaohghcmlohngaaDoor.Pure
open Go.RowKit Go.Proofs.YtaohghcmlohngaaDoor.X Go.Proofs.YtaohghcmlohngaaDoorW.PrintWords Go.Proofs.YtaohghcmlohngaaDoorW.PrintLast
theorem pieces_j0 (a b : List UInt8) (attr : Bool) (c : Bool) (hc : c = false → a.length ≤ 2000 ∧ b.length ≤ 2000) : Ev (fun k => selvedgelaw03_CharrefPieces.j0 k (mk a) (mk b) attr c) true := by
  refine E.succ ?_
  simp only [selvedgelaw03_CharrefPieces.j0]
  cases c with
  | true => exact E.pos rfl (E.bnd works_ev (E.ret rfl))
  | false =>
    have h := hc rfl
    refine E.neg (by decide) ?_
    have ha := dec_len attr a.length a (Nat.le_refl _)
    have hb := dec_len attr b.length b (Nat.le_refl _)
    have e32 : (⟨#[32]⟩ : ByteArray) = mk [32] := rfl
    simp only [e32, mk_app, mk_size]
    refine E.pos (by omega) (E.pos (by rw [List.length_append, List.length_singleton]; omega) (E.bnd (dec_ev (a ++ [32] ++ b) attr (by rw [List.length_append, List.length_append, List.length_singleton]; omega)) (E.bnd (dec_ev a attr (by omega)) ?_)))
    rw [mk_size]
    refine E.pos (by omega) (E.bnd (dec_ev b attr (by omega)) ?_)
    simp only [mk_app, mk_size]
    refine E.pos (by rw [List.length_append, List.length_singleton]; omega) (E.pos ?_ (E.bnd works_ev (E.ret rfl)))
    have := dec_stop attr 32 (by decide) (by decide) b a.length a (Nat.le_refl _)
    rw [mk_toList, mk_toList, List.append_assoc, List.append_assoc]
    exact this
theorem CharrefPieces : selvedgelaw03_CharrefPieces.Pure := by
  intro a0 a1 a2 _ _
  have : Ev (fun k => selvedgelaw03_CharrefPieces.f k (mk a0.data.toList) (mk a1.data.toList) a2) true := by
    unfold selvedgelaw03_CharrefPieces.f
    simp only [mk_size]
    by_cases h : (a0.data.toList.length : Int) > 2000
    · exact E.pos h (pieces_j0 _ _ _ _ (fun z => by cases z))
    · exact E.neg h (pieces_j0 _ _ _ _ (fun z => ⟨by omega, by have := of_decide_eq_false z; omega⟩))
  rw [← mk_of, ← mk_of] at this
  exact E.out this
end Go.Proofs.YtaohghcmlohngaaDoor.Pure
