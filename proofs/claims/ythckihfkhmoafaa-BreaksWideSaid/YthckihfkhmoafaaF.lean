import Derived.Test.YthckihfkhmoafaaD
/-! The law BreaksMeasures, for any items. -/
namespace Go.Proofs.Ythckihfkhmoafaa.A
open Go.RowKit Go.Proofs.Ythckihfkhmoafaa.X Go.Proofs.YthckihfkhmoafaaW.PrintWords Go.Proofs.YthckihfkhmoafaaW.PrintLast Go.Proofs.Ythckihfkhmoafaa
set_option linter.unusedVariables false
set_option linter.unusedSimpArgs false

theorem rd_sub (l : List S36) (a b j : Nat) (hj : a + j < b) : rd_T36 ((l.take b).drop a) (j : Int) = rd_T36 l ((a + j : Nat) : Int) := by
  simp only [rd_T36, Int.toNat_natCast, List.getD_eq_getElem?_getD, List.getElem?_drop, List.getElem?_take]
  rw [if_pos hj]
theorem mTo_sub (l : List S36) (a b : Nat) : ∀ (m : Nat) (e : Bool), a + m ≤ b → mTo ((l.take b).drop a) 0 m e = mTo l a m e := by
  intro m
  induction m with
  | zero => intro e _; rfl
  | succ m ih =>
    intro e h
    rw [mTo, mTo, Nat.zero_add, rd_sub l a b m (by omega), ih _ (by omega)]
theorem any_sub {l : List S36} (h : l.any brBad = false) (a b : Nat) : ((l.take b).drop a).any brBad = false := by
  rw [List.any_eq_false] at h ⊢
  intro x hx
  exact h x (List.mem_of_mem_take (List.mem_of_mem_drop hx))
/-- What both measures tell. -/
def meV (l : List S36) (a b : Int) : Int × Int := if mayV l ≠ 0 then (0, mayV l) else if a < 0 ∨ b < a ∨ (l.length : Int) < b then (0, 2) else (mTo l a.toNat (b.toNat - a.toNat) true, 0)
theorem may_zero {l : List S36} (h : mayV l = 0) : l.length ≤ 65536 ∧ l.any brBad = false := by
  unfold mayV at h
  by_cases q : (l.length : Int) > 65536
  · rw [if_pos q] at h; omega
  rw [if_neg q] at h
  refine ⟨by omega, ?_⟩
  by_cases q2 : l.any brBad = true
  · rw [if_pos q2] at h; omega
  · exact Bool.eq_false_iff.mpr q2
theorem progMeasure (l : List S36) (a b : Int) (hl : l.length < 17592186044416) : Ev (fun k => breaks_Measure.f k l a b) (meV l a b) := by
  unfold breaks_Measure.f
  refine E.bno (may_some hl) ?_
  unfold meV
  by_cases hm : mayV l = 0
  · rw [if_neg (by omega)]
    obtain ⟨h1, h2⟩ := may_zero hm
    refine E.pos hm ?_
    by_cases q1 : a < 0
    · rw [if_pos (.inl q1)]; exact E.pos q1 (E.ret rfl)
    refine E.neg q1 ?_
    by_cases q2 : a > b
    · rw [if_pos (.inr (.inl q2))]; exact E.pos q2 (E.ret rfl)
    refine E.neg q2 ?_
    by_cases q3 : b > (l.length : Int)
    · rw [if_pos (.inr (.inr q3))]; exact E.pos q3 (E.ret rfl)
    refine E.neg q3 ?_
    rw [if_neg (by omega)]
    have hlen : ((l.take b.toNat).drop a.toNat).length = b.toNat - a.toNat := by simp; omega
    have H := measure_ev ((l.take b.toNat).drop a.toNat) (any_sub h2 _ _) (by omega)
    rw [hlen, mTo_sub l a.toNat b.toNat _ _ (by omega)] at H
    exact E.pos (by omega) (E.pos (by omega) (E.pos (by omega) (E.bnd H (E.ret rfl))))
  · rw [if_pos hm]
    exact E.neg hm (E.ret rfl)
theorem refMeasure (l : List S36) (a b : Int) : Ev (fun k => selvedgeref21_Measure.f k (l.map c49) a b) (meV l a b) := by
  unfold selvedgeref21_Measure.f
  refine E.bnd (refMay l) ?_
  unfold meV
  by_cases hm : mayV l = 0
  · rw [if_neg (by omega)]
    obtain ⟨h1, h2⟩ := may_zero hm
    refine E.pos hm ?_
    by_cases q1 : a < 0
    · rw [if_pos (.inl q1)]; exact E.pos q1 (E.ret rfl)
    refine E.neg q1 ?_
    by_cases q2 : a > b
    · rw [if_pos (.inr (.inl q2))]; exact E.pos q2 (E.ret rfl)
    refine E.neg q2 ?_
    by_cases q3 : b > (l.length : Int)
    · rw [if_pos (.inr (.inr q3))]; exact E.pos (by rw [List.length_map]; exact q3) (E.ret rfl)
    refine E.neg (by rw [List.length_map]; exact q3) ?_
    rw [if_neg (by omega)]
    have H := refMeasured l h2 h1 a.toNat (b.toNat - a.toNat) true 0 (by omega) (by omega) (by omega)
    have e1 : ((a.toNat : Nat) : Int) = a := by omega
    have e2 : (a.toNat : Int) + ((b.toNat - a.toNat : Nat) : Int) - 1 = b - 1 := by omega
    rw [e2, e1, Int.zero_add] at H
    refine E.bnd (a := mTo l a.toNat (b.toNat - a.toNat) true) ?_ (E.ret rfl)
    unfold selvedgeref21_Measured.f
    rw [E.w64 (by omega) (by omega)]
    exact H
  · rw [if_pos hm]
    exact E.neg hm (E.ret rfl)
/-- BreaksMeasures, for any items that a machine holds. -/
theorem breaksMeasures (l : List S36) (a b : Int) (hl : l.length < 4398046511104) : Ev (fun k => selvedgelaw21_BreaksMeasures.f k l a b) true := by
  have j0 : ∀ c, Ev (fun k => selvedgelaw21_BreaksMeasures.j0 k l a b c) true := by
    intro c
    refine E.succ ?_
    simp only [selvedgelaw21_BreaksMeasures.j0]
    cases c with
    | true => exact E.pos rfl (E.bnd works_ev (E.ret rfl))
    | false => exact E.neg (by decide) (E.bnd (progMeasure l a b (by omega)) (E.bnd (ref_ev l hl) (E.bnd (refMeasure l a b) (E.pos rfl (E.pos rfl (E.bnd works_ev (E.ret rfl)))))))
  unfold selvedgelaw21_BreaksMeasures.f
  by_cases h : (l.length : Int) > 400
  · exact E.pos h (j0 _)
  · exact E.neg h (j0 _)
end Go.Proofs.Ythckihfkhmoafaa.A
