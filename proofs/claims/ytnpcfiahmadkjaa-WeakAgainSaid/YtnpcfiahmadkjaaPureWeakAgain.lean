/- The statement WeakAgain of chapter 16: whatever row and sos come in, the law answers true: what is resolved stays, and so does a row of L, R, AN, ON and white space alone (for a row of more than 3000 classes: the short call alone). -/
import Derived.Test.YtnpcfiahmadkjaaC
namespace Go.Proofs.Ytnpcfiahmadkjaa.Pure
open Go.RowKit Go.Proofs.Ytnpcfiahmadkjaa.X Go.Proofs.YtnpcfiahmadkjaaW.PrintWords Go.Proofs.YtnpcfiahmadkjaaW.PrintLast Go.Proofs.Ytnpcfiahmadkjaa
set_option linter.unusedVariables false
set_option linter.unusedSimpArgs false

theorem WeakAgain : selvedgelaw16_WeakAgain.Pure := by
  intro l s hm hy hw hs
  refine E.out ?_
  unfold selvedgelaw16_WeakAgain.f
  by_cases h : (l.length : Int) > 3000
  · exact E.pos h (E.bnd A.works_ev (E.ret rfl))
  have hr := A.wkRes_len s l
  refine E.neg h (E.bno (A.res_some _ (by omega)) ?_)
  suffices h : ∀ (rest dn c : List Int), l = dn ++ rest → c.length ≤ dn.length → (∀ x ∈ c, x = 1 ∨ x = 2 ∨ x = 7 ∨ 11 ≤ x ∧ x ≤ 14) → Ev (fun k => selvedgelaw16_WeakAgain.l0 k l s (wkRes s l) c dn.length) true from h l [] [] rfl (Nat.le_refl _) (fun x hx => by cases hx)
  intro rest
  induction rest with
  | nil =>
    intro dn c h1 h2 h3
    have e : l = dn := by rw [h1, List.append_nil]
    have e' : l.length = dn.length := by rw [e]
    refine E.succ ?_
    simp only [selvedgelaw16_WeakAgain.l0]
    exact E.neg (by omega) (E.bno (A.res_some _ (by omega)) (E.bnd (A.is_eq (A.again s l) (by rw [A.wkRes_len]; omega)) (E.pos rfl (E.bno (A.res_some _ (by omega)) (E.bnd (A.is_eq (A.plain_stays s c h3) (by rw [A.wkRes_len]; omega)) (E.pos rfl (E.bnd A.works_ev (E.ret rfl))))))))
  | cons x rest ih =>
    intro dn c h1 h2 h3
    have hlen : l.length = dn.length + (rest.length + 1) := by rw [h1, A.mid_len]
    have hx : rd l dn.length = x := by rw [h1]; exact E.rd_mid _ _ _
    refine E.succ ?_
    simp only [selvedgelaw16_WeakAgain.l0]
    rw [hx, E.w64 (by omega) (by omega)]
    have put : (x = 1 ∨ x = 2 ∨ x = 7 ∨ 11 ≤ x ∧ x ≤ 14) → Ev (fun k => selvedgelaw16_WeakAgain.l0 k l s (wkRes s l) (c ++ [x]) ((dn.length : Int) + 1)) true := by
      intro hp
      have H := ih (dn ++ [x]) (c ++ [x]) (by rw [← A.snoc_app]; exact h1) (by simp; omega) (by
        intro y hy
        rcases List.mem_append.1 hy with hy | hy
        · exact h3 y hy
        · rw [List.mem_singleton.1 hy]; exact hp)
      rwa [A.snoc_len] at H
    have skip : Ev (fun k => selvedgelaw16_WeakAgain.l0 k l s (wkRes s l) c ((dn.length : Int) + 1)) true := by
      have H := ih (dn ++ [x]) c (by rw [← A.snoc_app]; exact h1) (by simp; omega) h3
      rwa [A.snoc_len] at H
    refine E.pos (by omega) (E.pos (by omega) ?_)
    by_cases e1 : x = 1
    · exact E.pos e1 (E.pos (by omega) (put (by omega)))
    refine E.neg e1 ?_
    by_cases e2 : x = 2
    · exact E.pos e2 (E.pos (by omega) (put (by omega)))
    refine E.neg e2 ?_
    by_cases e7 : x = 7
    · exact E.pos e7 (E.pos (by omega) (put (by omega)))
    refine E.neg e7 ?_
    by_cases e11 : x ≥ 11
    · refine E.pos e11 ?_
      by_cases e14 : x ≤ 14
      · exact E.pos e14 (E.pos (by omega) (put (by omega)))
      · exact E.neg e14 skip
    · exact E.neg e11 skip
end Go.Proofs.Ytnpcfiahmadkjaa.Pure
