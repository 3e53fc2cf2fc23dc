/- The statement WeakCuts of chapter 16: whatever two rows, sos and side come in, the law answers true: a strong class parts a row (for a row of more than 1500 classes: the short call alone). -/
import Derived.Test.YtnpcfiahmadkjaaC
namespace Go.Proofs.Ytnpcfiahmadkjaa.Pure
open Go.RowKit Go.Proofs.Ytnpcfiahmadkjaa.X Go.Proofs.YtnpcfiahmadkjaaW.PrintWords Go.Proofs.YtnpcfiahmadkjaaW.PrintLast Go.Proofs.Ytnpcfiahmadkjaa
set_option linter.unusedVariables false
set_option linter.unusedSimpArgs false

theorem WeakCuts : selvedgelaw16_WeakCuts.Pure := by
  intro a b s right hm hy hw hm1 hy1 hw1 hs
  refine E.out ?_
  have j1 : ∀ c : Int, (c = 1 ∨ c = 2) → a.length ≤ 1500 → b.length ≤ 1500 → Ev (fun k => selvedgelaw16_WeakCuts.j1 k a b s c) true := by
    intro c hc ha hb
    refine E.succ ?_
    simp only [selvedgelaw16_WeakCuts.j1]
    have w1 := A.wkRes_len s a
    have w2 := A.wkRes_len c b
    refine E.bno (A.own_some (by omega)) (E.pos (by omega) (E.bno rfl (E.bno (A.res_some _ (by omega)) (E.bno (A.own_some (by omega)) (E.pos (by omega) (E.bno rfl (E.pos (by simp; omega) (E.bno (A.res_some _ (by omega)) (E.pos (by simp; omega) (E.bno (A.res_some _ (by simp; omega)) (E.bnd (A.is_eq ?_ (by rw [A.wkRes_len]; simp; omega)) (E.pos rfl (E.bnd A.works_ev (E.ret rfl))))))))))))))
    rw [← A.snoc_app, ← A.snoc_app]
    exact A.cutRes c hc s a b
  have hj0 : ∀ b_ : Bool, (b_ = false → a.length ≤ 1500 ∧ b.length ≤ 1500) → Ev (fun k => selvedgelaw16_WeakCuts.j0 k a b s right b_) true := by
    intro b_ hb
    refine E.succ ?_
    simp only [selvedgelaw16_WeakCuts.j0]
    cases b_ with
    | true => exact E.pos rfl (E.bnd A.works_ev (E.ret rfl))
    | false =>
      obtain ⟨q0, q1⟩ := hb rfl
      refine E.neg (by simp) ?_
      by_cases hr : right = true
      · exact E.pos hr (j1 2 (.inr rfl) q0 q1)
      · exact E.neg hr (j1 1 (.inl rfl) q0 q1)
  unfold selvedgelaw16_WeakCuts.f
  by_cases h : (a.length : Int) > 1500
  · exact E.pos h (hj0 true (fun hb => by cases hb))
  · refine E.neg h (hj0 _ (fun hb => ?_))
    have : ¬ ((b.length : Int) > 1500) := of_decide_eq_false hb
    omega
end Go.Proofs.Ytnpcfiahmadkjaa.Pure
