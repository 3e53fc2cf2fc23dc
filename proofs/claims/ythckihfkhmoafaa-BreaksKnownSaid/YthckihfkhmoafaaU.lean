import Derived.Test.YthckihfkhmoafaaX3
import Derived.Test.YthckihfkhmoafaaX4
import Derived.Test.YthckihfkhmoafaaX7
import Derived.Test.YthckihfkhmoafaaE
/-! What the functions of chapter 21 come to. -/
namespace Go.Proofs.Ythckihfkhmoafaa.A
open Go.RowKit Go.Proofs.Ythckihfkhmoafaa.X Go.Proofs.YthckihfkhmoafaaW.PrintWords Go.Proofs.YthckihfkhmoafaaW.PrintLast Go.Proofs.Ythckihfkhmoafaa
set_option linter.unusedVariables false
set_option linter.unusedSimpArgs false

theorem works_ev : Ev (fun k => selvedgelaw21_works.f k) true := by
  refine E.of (fun k => selvedgelaw21_works.mono k) 20 ?_
  decide +kernel
end Go.Proofs.Ythckihfkhmoafaa.A

/-! The measure of items: what the reference's comes to. -/
namespace Go.Proofs.Ythckihfkhmoafaa.A
open Go.RowKit Go.Proofs.Ythckihfkhmoafaa.X Go.Proofs.YthckihfkhmoafaaW.PrintWords Go.Proofs.YthckihfkhmoafaaW.PrintLast Go.Proofs.Ythckihfkhmoafaa
set_option linter.unusedVariables false
set_option linter.unusedSimpArgs false

/-- An item, as the reference has it. -/
def c49 (x : S36) : S49 := ⟨x.f0, x.f1, x.f2, x.f3⟩
theorem rd49 (l : List S36) (i : Int) : rd_T49 (l.map c49) i = c49 (rd_T36 l i) := by
  unfold rd_T49 rd_T36
  simp only [List.getD_eq_getElem?_getD, List.getElem?_map]
  cases l[i.toNat]? <;> rfl
def mHang (x : S36) : Bool := brBlank x || brSilent x
/-- What m items from place fr on take, from the last to the first; e: nothing behind them is met. -/
def mTo (l : List S36) (fr : Nat) : Nat → Bool → Int
  | 0, _ => 0
  | m + 1, e => (rd_T36 l ((fr + m : Nat) : Int)).f2 + (rd_T36 l ((fr + m : Nat) : Int)).f3 + (if (e && mHang (rd_T36 l ((fr + m : Nat) : Int))) = true then 0 else (rd_T36 l ((fr + m : Nat) : Int)).f1) + mTo l fr m (e && mHang (rd_T36 l ((fr + m : Nat) : Int)))
theorem refBlank (x : S36) : selvedgeref21_blank.f (c49 x).f0 (c49 x).f1 (c49 x).f2 (c49 x).f3 = some (brBlank x) := by
  unfold selvedgeref21_blank.f brBlank c49
  by_cases h : x.f0 = 32 <;> simp [h]
theorem refMeasured (l : List S36) (h : l.any brBad = false) (hl : l.length ≤ 65536) (fr : Nat) : ∀ (m : Nat) (e : Bool) (n : Int), fr + m ≤ l.length → 0 ≤ n → n ≤ 33558528 * (65536 - (m : Int)) →
    Ev (fun k => selvedgeref21_Measured.l0 k (l.map c49) fr n e ((fr : Int) + m - 1)) (n + mTo l fr m e) := by
  intro m
  induction m with
  | zero =>
    intro e n h1 h2 h3
    refine E.succ ?_
    simp only [selvedgeref21_Measured.l0]
    exact E.neg (by omega) (E.ret (by simp [mTo]))
  | succ m ih =>
    intro e n h1 h2 h3
    have hx := ok_item h (fr + m) (by omega)
    have hi : (fr : Int) + ((m + 1 : Nat) : Int) - 1 = ((fr + m : Nat) : Int) := by omega
    rw [hi, mTo]
    have H := fun e' n' => ih e' n' (by omega)
    generalize hxx : rd_T36 l ((fr + m : Nat) : Int) = x at hx
    have hr : rd_T49 (l.map c49) ((fr + m : Nat) : Int) = c49 x := by rw [rd49, hxx]
    refine E.succ ?_
    simp only [selvedgeref21_Measured.l0, hr]
    rw [E.w64 (x := ((fr + m : Nat) : Int) - 1) (by omega) (by omega)]
    have hq : ((fr + m : Nat) : Int) - 1 = (fr : Int) + m - 1 := by omega
    rw [hq]
    have c1 : (c49 x).f1 = x.f1 := rfl
    have c2 : (c49 x).f2 = x.f2 := rfl
    have c3 : (c49 x).f3 = x.f3 := rfl
    rw [c1, c2, c3, E.w64 (x := n + x.f2) (by omega) (by omega), E.w64 (x := n + x.f2 + x.f3) (by omega) (by omega), E.w64 (x := n + x.f2 + x.f3 + x.f1) (by omega) (by omega)]
    have keep : ∀ e', e' = true → Ev (fun k => selvedgeref21_Measured.l0 k (l.map c49) fr (n + x.f2 + x.f3) e' ((fr : Int) + m - 1)) (n + (x.f2 + x.f3 + (if e' = true then 0 else x.f1) + mTo l fr m e')) := by
      intro e' he
      subst he
      refine E.same (H true (n + x.f2 + x.f3) (by omega) (by omega)) ?_
      rw [if_pos rfl]; omega
    have take : ∀ e', e' = false → Ev (fun k => selvedgeref21_Measured.l0 k (l.map c49) fr (n + x.f2 + x.f3 + x.f1) e' ((fr : Int) + m - 1)) (n + (x.f2 + x.f3 + (if e' = true then 0 else x.f1) + mTo l fr m e')) := by
      intro e' he
      subst he
      refine E.same (H false (n + x.f2 + x.f3 + x.f1) (by omega) (by omega)) ?_
      rw [if_neg (by decide)]; omega
    refine E.pos (by omega) (E.pos (by omega) (E.pos (by rw [List.length_map]; omega) ?_))
    cases e with
    | false =>
      refine E.neg (by decide) ?_
      simpa using take false rfl
    | true =>
      refine E.pos rfl (E.bno (refBlank x) ?_)
      have hh : (true && mHang x) = (brBlank x || brSilent x) := rfl
      rw [hh]
      by_cases hb : brBlank x = true
      · rw [hb]
        exact E.pos rfl (keep true rfl)
      · rw [Bool.eq_false_iff.mpr hb]
        refine E.neg (by decide) ?_
        have hs : brSilent x = (x.f1 == 0 && (x.f2 == 0 && x.f3 == 0)) := rfl
        rw [hs]
        by_cases q1 : x.f1 = 0
        · refine E.pos q1 ?_
          by_cases q2 : x.f2 = 0
          · refine E.pos q2 ?_
            by_cases q3 : x.f3 = 0
            · refine E.pos q3 ?_
              have : (false || (x.f1 == 0 && (x.f2 == 0 && x.f3 == 0))) = true := by simp [q1, q2, q3]
              rw [this, beq_iff_eq.mpr q3]
              exact keep true rfl
            · refine E.neg q3 ?_
              have : (false || (x.f1 == 0 && (x.f2 == 0 && x.f3 == 0))) = false := by simp [q3]
              rw [this, beq_eq_false_iff_ne.mpr q3]
              exact take false rfl
          · have : (false || (x.f1 == 0 && (x.f2 == 0 && x.f3 == 0))) = false := by simp [q2]
            rw [this]
            exact E.neg q2 (take false rfl)
        · have : (false || (x.f1 == 0 && (x.f2 == 0 && x.f3 == 0))) = false := by simp [q1]
          rw [this]
          exact E.neg q1 (take false rfl)
end Go.Proofs.Ythckihfkhmoafaa.A

/-! The measure of items: what the program's comes to. -/
namespace Go.Proofs.Ythckihfkhmoafaa.A
open Go.RowKit Go.Proofs.Ythckihfkhmoafaa.X Go.Proofs.YthckihfkhmoafaaW.PrintWords Go.Proofs.YthckihfkhmoafaaW.PrintLast Go.Proofs.Ythckihfkhmoafaa
set_option linter.unusedVariables false
set_option linter.unusedSimpArgs false

/-- What the first i items take, where the first n alone have their width. -/
def pS (l : List S36) (n : Nat) : Nat → Int
  | 0 => 0
  | i + 1 => pS l n i + ((rd_T36 l (i : Int)).f2 + (rd_T36 l (i : Int)).f3) + (if i < n then (rd_T36 l (i : Int)).f1 else 0)
theorem pS_in {l : List S36} (h : l.any brBad = false) (n : Nat) : ∀ i : Nat, i ≤ l.length → 0 ≤ pS l n i ∧ pS l n i ≤ 33558528 * i := by
  intro i
  induction i with
  | zero => intro _; simp [pS]
  | succ i ih => intro hi; have := ih (by omega); have := ok_item h i (by omega); rw [pS]; split <;> omega
theorem mTo_false (l : List S36) (n : Nat) : ∀ m, m ≤ n → mTo l 0 m false = pS l n m := by
  intro m
  induction m with
  | zero => intro _; rfl
  | succ m ih =>
    intro hm
    rw [mTo, pS, Bool.false_and, if_neg (by decide), if_pos (by omega), ih (by omega), Nat.zero_add]
    omega
theorem mTo_true (l : List S36) (n : Nat) : ∀ d, (∀ j, n ≤ j → j < n + d → mHang (rd_T36 l (j : Int)) = true) → mTo l 0 (n + d) true = pS l n (n + d) - pS l n n + mTo l 0 n true := by
  intro d
  induction d with
  | zero => intro _; simp
  | succ d ih =>
    intro hh
    have hq := hh (n + d) (by omega) (by omega)
    rw [show n + (d + 1) = (n + d) + 1 by omega, mTo, pS, Nat.zero_add, hq, if_neg (by omega : ¬ n + d < n)]
    have := ih (fun j h1 h2 => hh j h1 (by omega))
    simp only [Bool.true_and, if_true]
    omega
theorem mTo_top (l : List S36) (n : Nat) (h : n = 0 ∨ mHang (rd_T36 l ((n - 1 : Nat) : Int)) = false) : mTo l 0 n true = mTo l 0 n false := by
  cases n with
  | zero => rfl
  | succ n =>
    have hq : mHang (rd_T36 l (n : Int)) = false := by
      rcases h with h | h
      · omega
      · simpa using h
    rw [mTo, mTo, Nat.zero_add, hq]
    simp
theorem measure_l1 {l : List S36} (h : l.any brBad = false) (hl : l.length ≤ 65536) (n : Nat) (hn : n ≤ l.length) : ∀ (d i : Nat), i + d = l.length → Ev (fun k => breaks_measure.l1 k n (pS l n i) l l.length i) (pS l n l.length) := by
  intro d
  induction d with
  | zero =>
    intro i hi
    have : i = l.length := by omega
    subst this
    refine E.succ ?_
    simp only [breaks_measure.l1]
    exact E.neg (by omega) (E.ret rfl)
  | succ d ih =>
    intro i hi
    have hx := ok_item h i (by omega)
    have hp := pS_in h n i (by omega)
    have H := ih (i + 1) (by omega)
    rw [pS] at H
    refine E.succ ?_
    simp only [breaks_measure.l1]
    rw [E.w64 (x := (rd_T36 l (i : Int)).f2 + (rd_T36 l (i : Int)).f3) (by omega) (by omega), E.w64 (x := pS l n i + ((rd_T36 l (i : Int)).f2 + (rd_T36 l (i : Int)).f3)) (by omega) (by omega), E.w64 (x := pS l n i + ((rd_T36 l (i : Int)).f2 + (rd_T36 l (i : Int)).f3) + (rd_T36 l (i : Int)).f1) (by omega) (by omega), E.w64 (x := (i : Int) + 1) (by omega) (by omega)]
    refine E.pos (by omega) (E.pos (by omega) (E.pos (by omega) ?_))
    have e : ((i + 1 : Nat) : Int) = (i : Int) + 1 := by omega
    rw [e] at H
    by_cases hin : i < n
    · rw [if_pos hin] at H
      exact E.pos (by omega) H
    · rw [if_neg hin, Int.add_zero] at H
      exact E.neg (by omega) H
theorem progBlank (x : S36) : breaks_Item_blank.f x.f0 x.f1 x.f2 x.f3 = some (brBlank x) := by
  unfold breaks_Item_blank.f brBlank
  by_cases h : x.f0 = 32 <;> simp [h]
theorem progSilent (x : S36) : breaks_Item_silent.f x.f0 x.f1 x.f2 x.f3 = some (brSilent x) := by
  unfold breaks_Item_silent.f brSilent
  by_cases h1 : x.f1 = 0 <;> by_cases h2 : x.f2 = 0 <;> simp [h1, h2]
theorem measure_ev (l : List S36) (h : l.any brBad = false) (hl : l.length ≤ 65536) : Ev (fun k => breaks_measure.f k l) (mTo l 0 l.length true) := by
  unfold breaks_measure.f
  suffices hh : ∀ n d : Nat, n + d = l.length → (∀ j, n ≤ j → j < l.length → mHang (rd_T36 l (j : Int)) = true) → Ev (fun k => breaks_measure.l0 k l n) (mTo l 0 l.length true) from hh l.length 0 (by omega) (fun j h1 h2 => by omega)
  intro n
  induction n with
  | zero =>
    intro d hd ha
    refine E.succ ?_
    simp only [breaks_measure.l0]
    refine E.neg (by omega) (E.succ ?_)
    simp only [breaks_measure.j1]
    refine E.same (measure_l1 h hl 0 (by omega) l.length 0 (by omega)) ?_
    have := mTo_true l 0 l.length (fun j h1 h2 => ha j h1 (by omega))
    rw [Nat.zero_add] at this
    rw [this]
    simp [pS, mTo]
  | succ n ih =>
    intro d hd ha
    refine E.succ ?_
    simp only [breaks_measure.l0]
    rw [E.w64 (x := ((n + 1 : Nat) : Int) - 1) (by omega) (by omega), show ((n + 1 : Nat) : Int) - 1 = (n : Int) by omega]
    refine E.pos (by omega) (E.pos (by omega) (E.pos (by omega) (E.bno (progBlank _) ?_)))
    have on : mHang (rd_T36 l (n : Int)) = true → Ev (fun k => breaks_measure.l0 k l n) (mTo l 0 l.length true) := fun hq => ih (d + 1) (by omega) (fun j h1 h2 => by
      by_cases e : j = n
      · rw [e]; exact hq
      · exact ha j (by omega) h2)
    by_cases hb : brBlank (rd_T36 l (n : Int)) = true
    · exact E.pos hb (on (by unfold mHang; rw [hb]; rfl))
    · refine E.neg hb (E.bno (progSilent _) ?_)
      by_cases hs : brSilent (rd_T36 l (n : Int)) = true
      · exact E.pos hs (on (by unfold mHang; rw [hs]; simp))
      · refine E.neg hs (E.succ ?_)
        simp only [breaks_measure.j1]
        refine E.same (measure_l1 h hl (n + 1) (by omega) l.length 0 (by omega)) ?_
        have hq : mHang (rd_T36 l (n : Int)) = false := by unfold mHang; rw [Bool.eq_false_iff.mpr hb, Bool.eq_false_iff.mpr hs]; rfl
        have h1 := mTo_true l (n + 1) d (fun j h1 h2 => ha j h1 (by omega))
        rw [hd] at h1
        rw [h1, mTo_top l (n + 1) (.inr (by simpa using hq)), mTo_false l (n + 1) (n + 1) (Nat.le_refl _)]
        omega
end Go.Proofs.Ythckihfkhmoafaa.A

/-! The law BreaksMeasures, for any items (its row, from the data to the items, is not written yet). -/
namespace Go.Proofs.Ythckihfkhmoafaa.A
open Go.RowKit Go.Proofs.Ythckihfkhmoafaa.X Go.Proofs.YthckihfkhmoafaaW.PrintWords Go.Proofs.YthckihfkhmoafaaW.PrintLast Go.Proofs.Ythckihfkhmoafaa
set_option linter.unusedVariables false
set_option linter.unusedSimpArgs false

theorem ref_ev (l : List S36) (hl : l.length < 4398046511104) : Ev (fun k => selvedgelaw21_ref.f k l) (l.map c49) := by
  unfold selvedgelaw21_ref.f
  suffices h : ∀ (rest dn : List S36), l = dn ++ rest → Ev (fun k => selvedgelaw21_ref.l0 k l (dn.map c49) dn.length) (l.map c49) from h l [] rfl
  intro rest
  induction rest with
  | nil =>
    intro dn h
    refine E.succ ?_
    simp only [selvedgelaw21_ref.l0]
    have e : l = dn := by rw [h, List.append_nil]
    exact E.neg (by rw [e]; omega) (E.ret (by rw [e]))
  | cons c rest ih =>
    intro dn h
    have hlen : l.length = dn.length + (rest.length + 1) := by rw [h]; simp
    have hc : rd_T36 l (dn.length : Int) = c := by rw [h]; simp [rd_T36]
    refine E.succ ?_
    simp only [selvedgelaw21_ref.l0]
    rw [hc, E.w64 (by omega) (by omega)]
    refine E.pos (by omega) (E.pos (by omega) (E.pos (by simp; omega) ?_))
    have H := ih (dn ++ [c]) (by rw [h]; simp)
    rw [List.length_append, List.length_singleton, List.map_append] at H
    exact H
def mayV (l : List S36) : Int := if (l.length : Int) > 65536 then 3 else if l.any brBad then 2 else 0
theorem may_some {l : List S36} (hl : l.length < 17592186044416) : breaks_may.f l = some (mayV l) := by
  unfold breaks_may.f mayV
  rw [if_pos hl]
theorem refMay (l : List S36) : Ev (fun k => selvedgeref21_may.f k (l.map c49)) (mayV l) := by
  unfold selvedgeref21_may.f mayV
  by_cases h : (l.length : Int) > 65536
  · rw [if_pos h]
    exact E.pos (by rw [List.length_map]; exact h) (E.ret rfl)
  rw [if_neg h]
  refine E.neg (by rw [List.length_map]; exact h) ?_
  suffices hh : ∀ (d i : Nat), i + d = l.length → Ev (fun k => selvedgeref21_may.l0 k (l.map c49) i) (if (l.drop i).any brBad then 2 else 0) from hh l.length 0 (by omega)
  intro d
  induction d with
  | zero =>
    intro i hi
    refine E.succ ?_
    simp only [selvedgeref21_may.l0]
    refine E.neg (by rw [List.length_map]; omega) (E.ret ?_)
    rw [List.drop_of_length_le (by omega)]; rfl
  | succ d ih =>
    intro i hi
    have hst := any_step l i (by omega) (by omega)
    rw [Int.toNat_natCast, show ((i : Int) + 1).toNat = i + 1 by omega] at hst
    have H := ih (i + 1) (by omega)
    refine E.succ ?_
    simp only [selvedgeref21_may.l0, rd49]
    rw [hst, E.w64 (by omega) (by omega)]
    generalize rd_T36 l (i : Int) = x
    refine E.pos (by rw [List.length_map]; omega) (E.pos (by omega) ?_)
    have c1 : (c49 x).f1 = x.f1 := rfl
    have c2 : (c49 x).f2 = x.f2 := rfl
    have c3 : (c49 x).f3 = x.f3 := rfl
    rw [c1, c2, c3]
    by_cases q1 : x.f1 < 0
    · exact E.pos q1 (E.ret (by simp [brBad, q1]))
    refine E.neg q1 ?_
    by_cases q2 : x.f1 > 4096
    · exact E.pos q2 (E.ret (by simp [brBad, show (4096 : Int) < x.f1 from q2]))
    refine E.neg q2 ?_
    by_cases q3 : x.f2 < 0
    · exact E.pos q3 (E.ret (by simp [brBad, q3]))
    refine E.neg q3 ?_
    by_cases q4 : x.f2 > 16777216
    · exact E.pos q4 (E.ret (by simp [brBad, show (16777216 : Int) < x.f2 from q4]))
    refine E.neg q4 ?_
    by_cases q5 : x.f3 < 0
    · exact E.pos q5 (E.ret (by simp [brBad, q5]))
    refine E.neg q5 ?_
    by_cases q6 : x.f3 > 16777216
    · exact E.pos q6 (E.ret (by simp [brBad, show (16777216 : Int) < x.f3 from q6]))
    refine E.neg q6 ?_
    have hb : brBad x = false := by simp [brBad]; omega
    rw [hb, Bool.false_or]
    exact H
end Go.Proofs.Ythckihfkhmoafaa.A

/-! The law BreaksMeasures, for any items. -/
namespace Go.Proofs.Ythckihfkhmoafaa.A
open Go.RowKit Go.Proofs.Ythckihfkhmoafaa.X Go.Proofs.YthckihfkhmoafaaW.PrintWords Go.Proofs.YthckihfkhmoafaaW.PrintLast Go.Proofs.Ythckihfkhmoafaa
set_option linter.unusedVariables false
set_option linter.unusedSimpArgs false

theorem rd_sub (l : List S36) (a b j : Nat) (hj : a + j < b) : rd_T36 ((l.take b).drop a) (j : Int) = rd_T36 l ((a + j : Nat) : Int) := by
  simp only [rd_T36, Int.toNat_natCast, List.getD_eq_getElem?_getD, List.getElem?_drop, List.getElem?_take]
  rw [if_pos hj]
theorem mTo_sub (l : List S36) (a b : Nat) : ∀ (m : Nat) (e : Bool), a + m ≤ b → mTo ((l.take b).drop a) 0 m e = mTo l a m e := by
  intro m
  induction m with
  | zero => intro e _; rfl
  | succ m ih =>
    intro e h
    rw [mTo, mTo, Nat.zero_add, rd_sub l a b m (by omega), ih _ (by omega)]
theorem any_sub {l : List S36} (h : l.any brBad = false) (a b : Nat) : ((l.take b).drop a).any brBad = false := by
  rw [List.any_eq_false] at h ⊢
  intro x hx
  exact h x (List.mem_of_mem_take (List.mem_of_mem_drop hx))
/-- What both measures tell. -/
def meV (l : List S36) (a b : Int) : Int × Int := if mayV l ≠ 0 then (0, mayV l) else if a < 0 ∨ b < a ∨ (l.length : Int) < b then (0, 2) else (mTo l a.toNat (b.toNat - a.toNat) true, 0)
theorem may_zero {l : List S36} (h : mayV l = 0) : l.length ≤ 65536 ∧ l.any brBad = false := by
  unfold mayV at h
  by_cases q : (l.length : Int) > 65536
  · rw [if_pos q] at h; omega
  rw [if_neg q] at h
  refine ⟨by omega, ?_⟩
  by_cases q2 : l.any brBad = true
  · rw [if_pos q2] at h; omega
  · exact Bool.eq_false_iff.mpr q2
theorem progMeasure (l : List S36) (a b : Int) (hl : l.length < 17592186044416) : Ev (fun k => breaks_Measure.f k l a b) (meV l a b) := by
  unfold breaks_Measure.f
  refine E.bno (may_some hl) ?_
  unfold meV
  by_cases hm : mayV l = 0
  · rw [if_neg (by omega)]
    obtain ⟨h1, h2⟩ := may_zero hm
    refine E.pos hm ?_
    by_cases q1 : a < 0
    · rw [if_pos (.inl q1)]; exact E.pos q1 (E.ret rfl)
    refine E.neg q1 ?_
    by_cases q2 : a > b
    · rw [if_pos (.inr (.inl q2))]; exact E.pos q2 (E.ret rfl)
    refine E.neg q2 ?_
    by_cases q3 : b > (l.length : Int)
    · rw [if_pos (.inr (.inr q3))]; exact E.pos q3 (E.ret rfl)
    refine E.neg q3 ?_
    rw [if_neg (by omega)]
    have hlen : ((l.take b.toNat).drop a.toNat).length = b.toNat - a.toNat := by simp; omega
    have H := measure_ev ((l.take b.toNat).drop a.toNat) (any_sub h2 _ _) (by omega)
    rw [hlen, mTo_sub l a.toNat b.toNat _ _ (by omega)] at H
    exact E.pos (by omega) (E.pos (by omega) (E.pos (by omega) (E.bnd H (E.ret rfl))))
  · rw [if_pos hm]
    exact E.neg hm (E.ret rfl)
theorem refMeasure (l : List S36) (a b : Int) : Ev (fun k => selvedgeref21_Measure.f k (l.map c49) a b) (meV l a b) := by
  unfold selvedgeref21_Measure.f
  refine E.bnd (refMay l) ?_
  unfold meV
  by_cases hm : mayV l = 0
  · rw [if_neg (by omega)]
    obtain ⟨h1, h2⟩ := may_zero hm
    refine E.pos hm ?_
    by_cases q1 : a < 0
    · rw [if_pos (.inl q1)]; exact E.pos q1 (E.ret rfl)
    refine E.neg q1 ?_
    by_cases q2 : a > b
    · rw [if_pos (.inr (.inl q2))]; exact E.pos q2 (E.ret rfl)
    refine E.neg q2 ?_
    by_cases q3 : b > (l.length : Int)
    · rw [if_pos (.inr (.inr q3))]; exact E.pos (by rw [List.length_map]; exact q3) (E.ret rfl)
    refine E.neg (by rw [List.length_map]; exact q3) ?_
    rw [if_neg (by omega)]
    have H := refMeasured l h2 h1 a.toNat (b.toNat - a.toNat) true 0 (by omega) (by omega) (by omega)
    have e1 : ((a.toNat : Nat) : Int) = a := by omega
    have e2 : (a.toNat : Int) + ((b.toNat - a.toNat : Nat) : Int) - 1 = b - 1 := by omega
    rw [e2, e1, Int.zero_add] at H
    refine E.bnd (a := mTo l a.toNat (b.toNat - a.toNat) true) ?_ (E.ret rfl)
    unfold selvedgeref21_Measured.f
    rw [E.w64 (by omega) (by omega)]
    exact H
  · rw [if_pos hm]
    exact E.neg hm (E.ret rfl)
/-- BreaksMeasures, for any items that a machine holds. -/
theorem breaksMeasures (l : List S36) (a b : Int) (hl : l.length < 4398046511104) : Ev (fun k => selvedgelaw21_BreaksMeasures.f k l a b) true := by
  have j0 : ∀ c, Ev (fun k => selvedgelaw21_BreaksMeasures.j0 k l a b c) true := by
    intro c
    refine E.succ ?_
    simp only [selvedgelaw21_BreaksMeasures.j0]
    cases c with
    | true => exact E.pos rfl (E.bnd works_ev (E.ret rfl))
    | false => exact E.neg (by decide) (E.bnd (progMeasure l a b (by omega)) (E.bnd (ref_ev l hl) (E.bnd (refMeasure l a b) (E.pos rfl (E.pos rfl (E.bnd works_ev (E.ret rfl)))))))
  unfold selvedgelaw21_BreaksMeasures.f
  by_cases h : (l.length : Int) > 400
  · exact E.pos h (j0 _)
  · exact E.neg h (j0 _)
end Go.Proofs.Ythckihfkhmoafaa.A

/-! The law BreaksSums, for any items. -/
namespace Go.Proofs.Ythckihfkhmoafaa.A
open Go.RowKit Go.Proofs.Ythckihfkhmoafaa.X Go.Proofs.YthckihfkhmoafaaW.PrintWords Go.Proofs.YthckihfkhmoafaaW.PrintLast Go.Proofs.YthckihfkhmoafaaW.PrintMore Go.Proofs.Ythckihfkhmoafaa
set_option linter.unusedVariables false
set_option linter.unusedSimpArgs false

/-- All that m items from place a on take; what the blanks among them do. -/
def aS (l : List S36) (a : Nat) : Nat → Int
  | 0 => 0
  | m + 1 => aS l a m + (rd_T36 l ((a + m : Nat) : Int)).f1 + (rd_T36 l ((a + m : Nat) : Int)).f2 + (rd_T36 l ((a + m : Nat) : Int)).f3
def bS (l : List S36) (a : Nat) : Nat → Int
  | 0 => 0
  | m + 1 => bS l a m + (if brBlank (rd_T36 l ((a + m : Nat) : Int)) = true then (rd_T36 l ((a + m : Nat) : Int)).f1 else 0)
theorem aS_in {l : List S36} (h : l.any brBad = false) (a : Nat) : ∀ m : Nat, a + m ≤ l.length → 0 ≤ aS l a m ∧ aS l a m ≤ 33558528 * m ∧ 0 ≤ bS l a m ∧ bS l a m ≤ 4096 * m := by
  intro m
  induction m with
  | zero => intro _; simp [aS, bS]
  | succ m ih => intro hm; have := ih (by omega); have := ok_item h (a + m) (by omega); rw [aS, bS]; split <;> omega
theorem mTo_bounds {l : List S36} (h : l.any brBad = false) (a : Nat) : ∀ m : Nat, a + m ≤ l.length → mTo l a m false = aS l a m ∧ mTo l a m true ≤ aS l a m ∧ aS l a m - bS l a m ≤ mTo l a m true := by
  intro m
  induction m with
  | zero => intro _; simp [mTo, aS, bS]
  | succ m ih =>
    intro hm
    have h1 := ih (by omega)
    have h2 := ok_item h (a + m) (by omega)
    have h3 := aS_in h a m (by omega)
    rw [mTo, mTo, aS, bS]
    generalize rd_T36 l ((a + m : Nat) : Int) = x at h2
    cases hq : mHang x with
    | false =>
      have hb : brBlank x = false := by unfold mHang at hq; cases hb : brBlank x with
        | true => rw [hb] at hq; exact absurd hq (by simp)
        | false => rfl
      simp only [Bool.and_false, hb]
      simp
      omega
    | true =>
      simp only [Bool.false_and, Bool.true_and, if_true, Bool.false_eq_true, if_false]
      by_cases hb : brBlank x = true
      · rw [if_pos hb]; omega
      · rw [if_neg hb]
        have hs : brSilent x = true := by unfold mHang at hq; rw [Bool.eq_false_iff.mpr hb] at hq; simpa using hq
        have : x.f1 = 0 := by unfold brSilent at hs; simp at hs; omega
        omega
theorem mTo_more {l : List S36} (h : l.any brBad = false) (a m : Nat) : ∀ d : Nat, a + (m + d) ≤ l.length → mTo l a m true ≤ mTo l a (m + d) true := by
  intro d
  induction d with
  | zero => intro _; exact Int.le_refl _
  | succ d ih =>
    intro hd
    have h1 := ih (by omega)
    have h2 := ok_item h (a + (m + d)) (by omega)
    have h3 := mTo_bounds h a (m + d) (by omega)
    rw [show m + (d + 1) = (m + d) + 1 by omega, mTo]
    generalize rd_T36 l ((a + (m + d) : Nat) : Int) = x at h2
    cases hq : mHang x with
    | false => simp only [Bool.and_false, Bool.false_eq_true, if_false]; omega
    | true => simp only [Bool.true_and, if_true]; omega
theorem pick_some (a b : Int) (hb : 0 < b) (hb2 : b ≤ 1000000) : ∃ v, selvedgekit_Pick.f a b = some v ∧ 0 ≤ v ∧ v < b := by
  unfold selvedgekit_Pick.f
  rw [if_neg (by omega), if_neg (by omega)]
  have h1 : -b < Int.tmod a b := by have := Int.lt_tmod_of_pos a hb; omega
  have h2 : Int.tmod a b < b := Int.tmod_lt_of_pos a hb
  rw [E.w64 (by omega) (by omega)]
  exact ⟨_, rfl, Int.tmod_nonneg _ (by omega), Int.tmod_lt_of_pos _ hb⟩
end Go.Proofs.Ythckihfkhmoafaa.A
