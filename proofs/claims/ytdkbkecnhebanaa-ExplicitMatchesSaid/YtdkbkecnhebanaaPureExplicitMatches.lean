/- Of any classes (at most 2000) the matching places and the paragraph's level are what the document says: both are the same plain functions. -/
import Derived.Test.YtdkbkecnhebanaaX1
import Derived.Test.YtdkbkecnhebanaaG
import Derived.Test.YtdkbkecnhebanaaE
namespace Go.Proofs.Ytdkbkecnhebanaa.Pure
open Go.RowKit Go.Proofs.Ytdkbkecnhebanaa Go.Proofs.Ytdkbkecnhebanaa.X Go.Proofs.YtdkbkecnhebanaaW.PrintWords Go.Proofs.YtdkbkecnhebanaaW.PrintLast
set_option linter.unusedVariables false
set_option linter.unusedSimpArgs false
theorem matches_l1 (l : List Int) (hl : l.length ≤ 1000000) (x5 : Int) (next : Ev (fun k => selvedgelaw14_ExplicitMatches.l0 k l l (mtOf l) (wrap64 (x5 + 1))) true) : ∀ (d : Nat) (i : Int) (m : List Int), 0 ≤ i → i ≤ l.length → l.length - i.toNat ≤ d → m.length = l.length → (∀ j : Int, i ≤ j → j < l.length → rd m j = rd (mtOf l) j) →
    Ev (fun k => selvedgelaw14_ExplicitMatches.l1 k l l (mtOf l) x5 m i) true := by
  intro d
  have hml := mtOf_len l
  induction d with
  | zero => intro i m h0 h1 h2 h3 h4; exact E.succ (E.neg (by omega) next)
  | succ d ih =>
    intro i m h0 h1 h2 h3 h4
    by_cases h : i < (m.length : Int)
    · refine E.succ (E.pos h (E.pos h0 (E.pos (by omega) (E.pos (h4 i (by omega) (by omega)) (E.pos (by omega) (E.pos (by omega) (E.pos rfl ?_)))))))
      rw [E.w64 (by omega) (by omega)]
      refine ih (i + 1) (m.set i.toNat 0) (by omega) (by omega) (by omega) (by simpa using h3) (fun j hj1 hj2 => ?_)
      rw [rd_set_ne' (by omega) h0 (by omega)]
      exact h4 j (by omega) hj2
    · exact E.succ (E.neg h next)
theorem matches_l0 (l : List Int) (hl : l.length ≤ 1000000) : ∀ (d : Nat) (i : Int), 0 ≤ i → i ≤ 2 → 2 - i.toNat ≤ d → Ev (fun k => selvedgelaw14_ExplicitMatches.l0 k l l (mtOf l) i) true := by
  intro d
  have fin : Ev (fun k => (explicit_Base.f k l).bind fun t125 => ((selvedgeref14_Base.f k l).bind fun t126 => (if t125 = t126 then ((selvedgelaw14_works.f k).bind fun t127 => (some t127)) else (some false)))) true :=
    E.bnd (base_f l hl) (E.bnd (rbase_f l hl) (E.pos rfl works_then))
  induction d with
  | zero => intro i h0 h1 h2; exact E.succ (E.neg (by omega) fin)
  | succ d ih =>
    intro i h0 h1 h2
    by_cases h : i < 2
    · refine E.succ (E.pos h (E.bnd (explicit_Match_ev l hl) (E.pos rfl ?_)))
      refine matches_l1 l hl i ?_ l.length 0 (mtOf l) (by omega) (by omega) (by omega) (mtOf_len l) (fun _ _ _ => rfl)
      rw [E.w64 (by omega) (by omega)]
      exact ih (i + 1) (by omega) (by omega) (by omega)
    · exact E.succ (E.neg h fin)
theorem ExplicitMatches : selvedgelaw14_ExplicitMatches.Pure := by
  intro l _ _ _
  apply E.out
  by_cases q : (l.length : Int) > 2000
  · exact E.pos q works_then
  · refine E.neg q (E.pos (by simp; omega) (E.bnd (ref14_Match_ev l (by omega)) ?_))
    simp only [List.nil_append]
    exact matches_l0 l (by omega) 2 0 (by omega) (by omega) (by omega)
end Go.Proofs.Ytdkbkecnhebanaa.Pure
