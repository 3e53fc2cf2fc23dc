import Derived.Test.YthckihfkhmoafaaF
/-! The law BreaksSums, for any items. -/
namespace Go.Proofs.Ythckihfkhmoafaa.A
open Go.RowKit Go.Proofs.Ythckihfkhmoafaa.X Go.Proofs.YthckihfkhmoafaaW.PrintWords Go.Proofs.YthckihfkhmoafaaW.PrintLast Go.Proofs.YthckihfkhmoafaaW.PrintMore Go.Proofs.Ythckihfkhmoafaa
set_option linter.unusedVariables false
set_option linter.unusedSimpArgs false

/-- All that m items from place a on take; what the blanks among them do. -/
def aS (l : List S36) (a : Nat) : Nat → Int
  | 0 => 0
  | m + 1 => aS l a m + (rd_T36 l ((a + m : Nat) : Int)).f1 + (rd_T36 l ((a + m : Nat) : Int)).f2 + (rd_T36 l ((a + m : Nat) : Int)).f3
def bS (l : List S36) (a : Nat) : Nat → Int
  | 0 => 0
  | m + 1 => bS l a m + (if brBlank (rd_T36 l ((a + m : Nat) : Int)) = true then (rd_T36 l ((a + m : Nat) : Int)).f1 else 0)
theorem aS_in {l : List S36} (h : l.any brBad = false) (a : Nat) : ∀ m : Nat, a + m ≤ l.length → 0 ≤ aS l a m ∧ aS l a m ≤ 33558528 * m ∧ 0 ≤ bS l a m ∧ bS l a m ≤ 4096 * m := by
  intro m
  induction m with
  | zero => intro _; simp [aS, bS]
  | succ m ih => intro hm; have := ih (by omega); have := ok_item h (a + m) (by omega); rw [aS, bS]; split <;> omega
theorem mTo_bounds {l : List S36} (h : l.any brBad = false) (a : Nat) : ∀ m : Nat, a + m ≤ l.length → mTo l a m false = aS l a m ∧ mTo l a m true ≤ aS l a m ∧ aS l a m - bS l a m ≤ mTo l a m true := by
  intro m
  induction m with
  | zero => intro _; simp [mTo, aS, bS]
  | succ m ih =>
    intro hm
    have h1 := ih (by omega)
    have h2 := ok_item h (a + m) (by omega)
    have h3 := aS_in h a m (by omega)
    rw [mTo, mTo, aS, bS]
    generalize rd_T36 l ((a + m : Nat) : Int) = x at h2
    cases hq : mHang x with
    | false =>
      have hb : brBlank x = false := by unfold mHang at hq; cases hb : brBlank x with
        | true => rw [hb] at hq; exact absurd hq (by simp)
        | false => rfl
      simp only [Bool.and_false, hb]
      simp
      omega
    | true =>
      simp only [Bool.false_and, Bool.true_and, if_true, Bool.false_eq_true, if_false]
      by_cases hb : brBlank x = true
      · rw [if_pos hb]; omega
      · rw [if_neg hb]
        have hs : brSilent x = true := by unfold mHang at hq; rw [Bool.eq_false_iff.mpr hb] at hq; simpa using hq
        have : x.f1 = 0 := by unfold brSilent at hs; simp at hs; omega
        omega
theorem mTo_more {l : List S36} (h : l.any brBad = false) (a m : Nat) : ∀ d : Nat, a + (m + d) ≤ l.length → mTo l a m true ≤ mTo l a (m + d) true := by
  intro d
  induction d with
  | zero => intro _; exact Int.le_refl _
  | succ d ih =>
    intro hd
    have h1 := ih (by omega)
    have h2 := ok_item h (a + (m + d)) (by omega)
    have h3 := mTo_bounds h a (m + d) (by omega)
    rw [show m + (d + 1) = (m + d) + 1 by omega, mTo]
    generalize rd_T36 l ((a + (m + d) : Nat) : Int) = x at h2
    cases hq : mHang x with
    | false => simp only [Bool.and_false, Bool.false_eq_true, if_false]; omega
    | true => simp only [Bool.true_and, if_true]; omega
theorem pick_some (a b : Int) (hb : 0 < b) (hb2 : b ≤ 1000000) : ∃ v, selvedgekit_Pick.f a b = some v ∧ 0 ≤ v ∧ v < b := by
  unfold selvedgekit_Pick.f
  rw [if_neg (by omega), if_neg (by omega)]
  have h1 : -b < Int.tmod a b := by have := Int.lt_tmod_of_pos a hb; omega
  have h2 : Int.tmod a b < b := Int.tmod_lt_of_pos a hb
  rw [E.w64 (by omega) (by omega)]
  exact ⟨_, rfl, Int.tmod_nonneg _ (by omega), Int.tmod_lt_of_pos _ hb⟩
theorem breaksSums (l : List S36) (a b : Int) : Ev (fun k => selvedgelaw21_BreaksSums.f k l a b) true := by
  unfold selvedgelaw21_BreaksSums.f
  by_cases hl : (l.length : Int) > 300
  · exact E.pos hl (E.bnd works_ev (E.ret rfl))
  refine E.neg hl ?_
  rw [E.w64 (x := (l.length : Int) + 1) (by omega) (by omega)]
  obtain ⟨i, hi, i0, i1⟩ := pick_some a ((l.length : Int) + 1) (by omega) (by omega)
  obtain ⟨j, hj, j0, j1⟩ := pick_some b ((l.length : Int) + 1) (by omega) (by omega)
  refine E.bno hi (E.bno hj ?_)
  obtain ⟨fr, hfr⟩ : ∃ fr, mn i j = fr := ⟨_, rfl⟩
  obtain ⟨tt, hto⟩ : ∃ tt, mx i j = tt := ⟨_, rfl⟩
  rw [hfr, hto]
  have q : 0 ≤ fr ∧ fr ≤ tt ∧ tt ≤ l.length := by
    rw [← hfr, ← hto]; unfold mn mx; split <;> split <;> omega
  refine E.bnd (progMeasure l fr tt (by omega)) ?_
  unfold meV
  by_cases hm : mayV l = 0
  · obtain ⟨h1, h2⟩ := may_zero hm
    rw [if_neg (by omega), if_neg (by omega)]
    refine E.pos rfl ?_
    obtain ⟨f, rfl⟩ := Int.eq_ofNat_of_zero_le q.1
    have hbd := mTo_bounds h2 f (tt.toNat - f) (by omega)
    have hmore := mTo_more h2 f (tt.toNat - f) (l.length - tt.toNat) (by omega)
    rw [show tt.toNat - f + (l.length - tt.toNat) = l.length - f by omega] at hmore
    suffices hh : ∀ (d m : Nat), f + m + d = tt.toNat → Ev (fun k => selvedgelaw21_BreaksSums.l0 k l f tt (mTo l f (tt.toNat - f) true) (aS l f m) (bS l f m) ((f + m : Nat) : Int)) true from hh (tt.toNat - f) 0 (by omega)
    intro d
    induction d with
    | zero =>
      intro m hd
      have hM := progMeasure l f l.length (by omega)
      unfold meV at hM
      rw [if_neg (by omega), if_neg (by omega)] at hM
      have hin := aS_in h2 f m (by omega)
      refine E.succ ?_
      simp only [selvedgelaw21_BreaksSums.l0]
      have e : tt.toNat - f = m := by omega
      rw [e] at hbd hmore ⊢
      rw [E.w64 (x := aS l f m - bS l f m) (by omega) (by omega)]
      refine E.neg (by omega) (E.bnd hM (E.pos rfl (E.pos (by omega) (E.pos (by omega) (E.pos ?_ (E.bnd works_ev (E.ret rfl)))))))
      simp only [Int.toNat_natCast]
      exact hmore
    | succ d ih =>
      intro m hd
      have hin := aS_in h2 f m (by omega)
      have hx := ok_item h2 (f + m) (by omega)
      have H := ih (m + 1) (by omega)
      rw [aS, bS] at H
      refine E.succ ?_
      simp only [selvedgelaw21_BreaksSums.l0]
      rw [show ((f + (m + 1) : Nat) : Int) = ((f + m : Nat) : Int) + 1 by omega] at H
      generalize rd_T36 l ((f + m : Nat) : Int) = x at hx H ⊢
      rw [E.w64 (x := aS l f m + x.f1) (by omega) (by omega), E.w64 (x := aS l f m + x.f1 + x.f2) (by omega) (by omega), E.w64 (x := aS l f m + x.f1 + x.f2 + x.f3) (by omega) (by omega), E.w64 (x := bS l f m + x.f1) (by omega) (by omega), E.w64 (x := ((f + m : Nat) : Int) + 1) (by omega) (by omega)]
      refine E.pos (by omega) (E.pos (by omega) (E.pos (by omega) ?_))
      by_cases w1 : x.f0 = 32
      · rw [if_pos (by unfold brBlank; simp [w1])] at H
        exact E.pos w1 H
      refine E.neg w1 ?_
      by_cases w2 : x.f0 = 9
      · rw [if_pos (by unfold brBlank; simp [w2])] at H
        exact E.pos w2 H
      · rw [if_neg (by unfold brBlank; simp [w1, w2]), Int.add_zero] at H
        exact E.neg w2 H
  · rw [if_pos hm]
    exact E.neg hm (E.pos rfl (E.bnd works_ev (E.ret rfl)))
end Go.Proofs.Ythckihfkhmoafaa.A
