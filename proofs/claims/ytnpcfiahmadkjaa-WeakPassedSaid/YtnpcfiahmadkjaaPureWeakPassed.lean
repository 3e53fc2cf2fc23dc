/- The statement WeakPassed of chapter 16: whatever row, sos and places come in, the law answers true: with BN put in anywhere the others are what they are without (for a row of more than 1500 classes or more than 100 places: the short call alone). -/
import Derived.Test.YtnpcfiahmadkjaaC
namespace Go.Proofs.Ytnpcfiahmadkjaa.Pure
open Go.RowKit Go.Proofs.Ytnpcfiahmadkjaa.X Go.Proofs.YtnpcfiahmadkjaaW.PrintWords Go.Proofs.YtnpcfiahmadkjaaW.PrintLast Go.Proofs.Ytnpcfiahmadkjaa
set_option linter.unusedVariables false
set_option linter.unusedSimpArgs false

theorem loops (l : List Int) (s : Int) (at_ : List Int) (hl : l.length ≤ 1500) (hat : at_.length ≤ 100) (w : List Int) (hw : wkRes s l = w) (m : Nat) :
    ∀ (i : Nat) (x y : List Int), l.length + 1 - i = m → i ≤ l.length + 1 → A.Ins (l.take i) (w.take i) x y → x.length = y.length → x.length ≤ 101 * i → Ev (fun k => selvedgelaw16_WeakPassed.l0 k l s at_ x y w i) true := by
  have hwl : w.length = l.length := by rw [← hw, A.wkRes_len]
  induction m with
  | zero =>
    intro i x y hm hi hI hxy hx
    refine E.succ ?_
    simp only [selvedgelaw16_WeakPassed.l0]
    have e1 : l.take i = l := List.take_of_length_le (by omega)
    have e2 : w.take i = w := List.take_of_length_le (by omega)
    rw [e1, e2] at hI
    refine E.neg (by omega) (E.bno (A.res_some _ (by omega)) (E.bnd (A.is_eq (hI.res s hw) (by rw [A.wkRes_len]; omega)) (E.pos rfl (E.bnd A.works_ev (E.ret rfl)))))
  | succ m ih =>
    intro i x y hm hi hI hxy hx
    refine E.succ ?_
    simp only [selvedgelaw16_WeakPassed.l0]
    refine E.pos (by omega) ?_
    suffices h : ∀ (d j : Nat) (x y : List Int), at_.length - j = d → j ≤ at_.length → A.Ins (l.take i) (w.take i) x y → x.length = y.length → x.length ≤ 101 * i + j → Ev (fun k => selvedgelaw16_WeakPassed.l1 k l s at_ x y w i j) true from h at_.length 0 x y rfl (by omega) hI hxy (by omega)
    intro d
    induction d with
    | zero =>
      intro j x y hd hj hI hxy hx
      refine E.succ ?_
      simp only [selvedgelaw16_WeakPassed.l1]
      refine E.neg (by omega) ?_
      rw [E.w64 (x := (i : Int) + 1) (by omega) (by omega)]
      by_cases hil : i < l.length
      · refine E.pos (by omega) (E.pos (by omega) (E.pos (by omega) (E.pos (by omega) (E.pos (by omega) ?_))))
        have hI2 := hI.append (.both (rd l i) (rd w i) .nil)
        have t1 : l.take i ++ [rd l i] = l.take (i + 1) := by rw [List.take_succ_eq_append_getElem hil, E.rd_get hil]
        have t2 : w.take i ++ [rd w i] = w.take (i + 1) := by rw [List.take_succ_eq_append_getElem (by omega), E.rd_get (by omega)]
        rw [t1, t2] at hI2
        exact ih (i + 1) _ _ (by omega) (by omega) hI2 (by simp [hxy]) (by simp; omega)
      · refine E.neg (by omega) ?_
        have t1 : l.take i = l.take (i + 1) := by rw [List.take_of_length_le (by omega), List.take_of_length_le (by omega)]
        have t2 : w.take i = w.take (i + 1) := by rw [List.take_of_length_le (by omega), List.take_of_length_le (by omega)]
        rw [t1, t2] at hI
        exact ih (i + 1) _ _ (by omega) (by omega) hI hxy (by omega)
    | succ d ihd =>
      intro j x y hd hj hI hxy hx
      refine E.succ ?_
      simp only [selvedgelaw16_WeakPassed.l1]
      refine E.pos (by omega) (E.pos (by omega) ?_)
      rw [E.w64 (x := (l.length : Int) + 1) (by omega) (by omega), E.w64 (x := (j : Int) + 1) (by omega) (by omega)]
      refine E.neg (by omega) ?_
      by_cases hq : Int.tmod (wrap64 (rd at_ j)) ((l.length : Int) + 1) = i
      · refine E.pos hq (E.pos (by omega) (E.pos (by omega) ?_))
        have hI2 := hI.append (.put .nil)
        rw [List.append_nil, List.append_nil] at hI2
        exact ihd (j + 1) _ _ (by omega) (by omega) hI2 (by simp [hxy]) (by simp; omega)
      · exact E.neg hq (ihd (j + 1) _ _ (by omega) (by omega) hI hxy (by omega))

theorem WeakPassed : selvedgelaw16_WeakPassed.Pure := by
  intro l s at_ hm hy hw hs hm4 hy4 hw4
  refine E.out ?_
  have hj0 : ∀ b : Bool, (b = false → l.length ≤ 1500 ∧ at_.length ≤ 100) → Ev (fun k => selvedgelaw16_WeakPassed.j0 k l s at_ b) true := by
    intro b hb
    refine E.succ ?_
    simp only [selvedgelaw16_WeakPassed.j0]
    cases b with
    | true => exact E.pos rfl (E.bnd A.works_ev (E.ret rfl))
    | false =>
      obtain ⟨q0, q1⟩ := hb rfl
      refine E.neg (by simp) (E.bno (A.res_some _ (by omega)) (E.pos (by rw [A.wkRes_len]) ?_))
      exact loops l s at_ q0 q1 _ rfl _ 0 [] [] rfl (by omega) .nil rfl (by simp)
  unfold selvedgelaw16_WeakPassed.f
  by_cases h : (l.length : Int) > 1500
  · exact E.pos h (hj0 true (fun hb => by cases hb))
  · refine E.neg h (hj0 _ (fun hb => ?_))
    have : ¬ ((at_.length : Int) > 100) := of_decide_eq_false hb
    omega
end Go.Proofs.Ytnpcfiahmadkjaa.Pure
