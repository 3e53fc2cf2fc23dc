import Derived.Test.YthckihfkhmoafaaA
/-! The measure of items: what the reference's comes to. -/
namespace Go.Proofs.Ythckihfkhmoafaa.A
open Go.RowKit Go.Proofs.Ythckihfkhmoafaa.X Go.Proofs.YthckihfkhmoafaaW.PrintWords Go.Proofs.YthckihfkhmoafaaW.PrintLast Go.Proofs.Ythckihfkhmoafaa
set_option linter.unusedVariables false
set_option linter.unusedSimpArgs false

/-- An item, as the reference has it. -/
def c49 (x : S36) : S49 := ⟨x.f0, x.f1, x.f2, x.f3⟩
theorem rd49 (l : List S36) (i : Int) : rd_T49 (l.map c49) i = c49 (rd_T36 l i) := by
  unfold rd_T49 rd_T36
  simp only [List.getD_eq_getElem?_getD, List.getElem?_map]
  cases l[i.toNat]? <;> rfl
def mHang (x : S36) : Bool := brBlank x || brSilent x
/-- What m items from place fr on take, from the last to the first; e: nothing behind them is met. -/
def mTo (l : List S36) (fr : Nat) : Nat → Bool → Int
  | 0, _ => 0
  | m + 1, e => (rd_T36 l ((fr + m : Nat) : Int)).f2 + (rd_T36 l ((fr + m : Nat) : Int)).f3 + (if (e && mHang (rd_T36 l ((fr + m : Nat) : Int))) = true then 0 else (rd_T36 l ((fr + m : Nat) : Int)).f1) + mTo l fr m (e && mHang (rd_T36 l ((fr + m : Nat) : Int)))
theorem refBlank (x : S36) : selvedgeref21_blank.f (c49 x).f0 (c49 x).f1 (c49 x).f2 (c49 x).f3 = some (brBlank x) := by
  unfold selvedgeref21_blank.f brBlank c49
  by_cases h : x.f0 = 32 <;> simp [h]
theorem refMeasured (l : List S36) (h : l.any brBad = false) (hl : l.length ≤ 65536) (fr : Nat) : ∀ (m : Nat) (e : Bool) (n : Int), fr + m ≤ l.length → 0 ≤ n → n ≤ 33558528 * (65536 - (m : Int)) →
    Ev (fun k => selvedgeref21_Measured.l0 k (l.map c49) fr n e ((fr : Int) + m - 1)) (n + mTo l fr m e) := by
  intro m
  induction m with
  | zero =>
    intro e n h1 h2 h3
    refine E.succ ?_
    simp only [selvedgeref21_Measured.l0]
    exact E.neg (by omega) (E.ret (by simp [mTo]))
  | succ m ih =>
    intro e n h1 h2 h3
    have hx := ok_item h (fr + m) (by omega)
    have hi : (fr : Int) + ((m + 1 : Nat) : Int) - 1 = ((fr + m : Nat) : Int) := by omega
    rw [hi, mTo]
    have H := fun e' n' => ih e' n' (by omega)
    generalize hxx : rd_T36 l ((fr + m : Nat) : Int) = x at hx
    have hr : rd_T49 (l.map c49) ((fr + m : Nat) : Int) = c49 x := by rw [rd49, hxx]
    refine E.succ ?_
    simp only [selvedgeref21_Measured.l0, hr]
    rw [E.w64 (x := ((fr + m : Nat) : Int) - 1) (by omega) (by omega)]
    have hq : ((fr + m : Nat) : Int) - 1 = (fr : Int) + m - 1 := by omega
    rw [hq]
    have c1 : (c49 x).f1 = x.f1 := rfl
    have c2 : (c49 x).f2 = x.f2 := rfl
    have c3 : (c49 x).f3 = x.f3 := rfl
    rw [c1, c2, c3, E.w64 (x := n + x.f2) (by omega) (by omega), E.w64 (x := n + x.f2 + x.f3) (by omega) (by omega), E.w64 (x := n + x.f2 + x.f3 + x.f1) (by omega) (by omega)]
    have keep : ∀ e', e' = true → Ev (fun k => selvedgeref21_Measured.l0 k (l.map c49) fr (n + x.f2 + x.f3) e' ((fr : Int) + m - 1)) (n + (x.f2 + x.f3 + (if e' = true then 0 else x.f1) + mTo l fr m e')) := by
      intro e' he
      subst he
      refine E.same (H true (n + x.f2 + x.f3) (by omega) (by omega)) ?_
      rw [if_pos rfl]; omega
    have take : ∀ e', e' = false → Ev (fun k => selvedgeref21_Measured.l0 k (l.map c49) fr (n + x.f2 + x.f3 + x.f1) e' ((fr : Int) + m - 1)) (n + (x.f2 + x.f3 + (if e' = true then 0 else x.f1) + mTo l fr m e')) := by
      intro e' he
      subst he
      refine E.same (H false (n + x.f2 + x.f3 + x.f1) (by omega) (by omega)) ?_
      rw [if_neg (by decide)]; omega
    refine E.pos (by omega) (E.pos (by omega) (E.pos (by rw [List.length_map]; omega) ?_))
    cases e with
    | false =>
      refine E.neg (by decide) ?_
      simpa using take false rfl
    | true =>
      refine E.pos rfl (E.bno (refBlank x) ?_)
      have hh : (true && mHang x) = (brBlank x || brSilent x) := rfl
      rw [hh]
      by_cases hb : brBlank x = true
      · rw [hb]
        exact E.pos rfl (keep true rfl)
      · rw [Bool.eq_false_iff.mpr hb]
        refine E.neg (by decide) ?_
        have hs : brSilent x = (x.f1 == 0 && (x.f2 == 0 && x.f3 == 0)) := rfl
        rw [hs]
        by_cases q1 : x.f1 = 0
        · refine E.pos q1 ?_
          by_cases q2 : x.f2 = 0
          · refine E.pos q2 ?_
            by_cases q3 : x.f3 = 0
            · refine E.pos q3 ?_
              have : (false || (x.f1 == 0 && (x.f2 == 0 && x.f3 == 0))) = true := by simp [q1, q2, q3]
              rw [this, beq_iff_eq.mpr q3]
              exact keep true rfl
            · refine E.neg q3 ?_
              have : (false || (x.f1 == 0 && (x.f2 == 0 && x.f3 == 0))) = false := by simp [q3]
              rw [this, beq_eq_false_iff_ne.mpr q3]
              exact take false rfl
          · have : (false || (x.f1 == 0 && (x.f2 == 0 && x.f3 == 0))) = false := by simp [q2]
            rw [this]
            exact E.neg q2 (take false rfl)
        · have : (false || (x.f1 == 0 && (x.f2 == 0 && x.f3 == 0))) = false := by simp [q1]
          rw [this]
          exact E.neg q1 (take false rfl)
end Go.Proofs.Ythckihfkhmoafaa.A
