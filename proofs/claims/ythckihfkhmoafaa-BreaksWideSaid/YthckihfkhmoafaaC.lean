import Derived.Test.YthckihfkhmoafaaB
/-! The measure of items: what the program's comes to. -/
namespace Go.Proofs.Ythckihfkhmoafaa.A
open Go.RowKit Go.Proofs.Ythckihfkhmoafaa.X Go.Proofs.YthckihfkhmoafaaW.PrintWords Go.Proofs.YthckihfkhmoafaaW.PrintLast Go.Proofs.Ythckihfkhmoafaa
set_option linter.unusedVariables false
set_option linter.unusedSimpArgs false

/-- What the first i items take, where the first n alone have their width. -/
def pS (l : List S36) (n : Nat) : Nat → Int
  | 0 => 0
  | i + 1 => pS l n i + ((rd_T36 l (i : Int)).f2 + (rd_T36 l (i : Int)).f3) + (if i < n then (rd_T36 l (i : Int)).f1 else 0)
theorem pS_in {l : List S36} (h : l.any brBad = false) (n : Nat) : ∀ i : Nat, i ≤ l.length → 0 ≤ pS l n i ∧ pS l n i ≤ 33558528 * i := by
  intro i
  induction i with
  | zero => intro _; simp [pS]
  | succ i ih => intro hi; have := ih (by omega); have := ok_item h i (by omega); rw [pS]; split <;> omega
theorem mTo_false (l : List S36) (n : Nat) : ∀ m, m ≤ n → mTo l 0 m false = pS l n m := by
  intro m
  induction m with
  | zero => intro _; rfl
  | succ m ih =>
    intro hm
    rw [mTo, pS, Bool.false_and, if_neg (by decide), if_pos (by omega), ih (by omega), Nat.zero_add]
    omega
theorem mTo_true (l : List S36) (n : Nat) : ∀ d, (∀ j, n ≤ j → j < n + d → mHang (rd_T36 l (j : Int)) = true) → mTo l 0 (n + d) true = pS l n (n + d) - pS l n n + mTo l 0 n true := by
  intro d
  induction d with
  | zero => intro _; simp
  | succ d ih =>
    intro hh
    have hq := hh (n + d) (by omega) (by omega)
    rw [show n + (d + 1) = (n + d) + 1 by omega, mTo, pS, Nat.zero_add, hq, if_neg (by omega : ¬ n + d < n)]
    have := ih (fun j h1 h2 => hh j h1 (by omega))
    simp only [Bool.true_and, if_true]
    omega
theorem mTo_top (l : List S36) (n : Nat) (h : n = 0 ∨ mHang (rd_T36 l ((n - 1 : Nat) : Int)) = false) : mTo l 0 n true = mTo l 0 n false := by
  cases n with
  | zero => rfl
  | succ n =>
    have hq : mHang (rd_T36 l (n : Int)) = false := by
      rcases h with h | h
      · omega
      · simpa using h
    rw [mTo, mTo, Nat.zero_add, hq]
    simp
theorem measure_l1 {l : List S36} (h : l.any brBad = false) (hl : l.length ≤ 65536) (n : Nat) (hn : n ≤ l.length) : ∀ (d i : Nat), i + d = l.length → Ev (fun k => breaks_measure.l1 k n (pS l n i) l l.length i) (pS l n l.length) := by
  intro d
  induction d with
  | zero =>
    intro i hi
    have : i = l.length := by omega
    subst this
    refine E.succ ?_
    simp only [breaks_measure.l1]
    exact E.neg (by omega) (E.ret rfl)
  | succ d ih =>
    intro i hi
    have hx := ok_item h i (by omega)
    have hp := pS_in h n i (by omega)
    have H := ih (i + 1) (by omega)
    rw [pS] at H
    refine E.succ ?_
    simp only [breaks_measure.l1]
    rw [E.w64 (x := (rd_T36 l (i : Int)).f2 + (rd_T36 l (i : Int)).f3) (by omega) (by omega), E.w64 (x := pS l n i + ((rd_T36 l (i : Int)).f2 + (rd_T36 l (i : Int)).f3)) (by omega) (by omega), E.w64 (x := pS l n i + ((rd_T36 l (i : Int)).f2 + (rd_T36 l (i : Int)).f3) + (rd_T36 l (i : Int)).f1) (by omega) (by omega), E.w64 (x := (i : Int) + 1) (by omega) (by omega)]
    refine E.pos (by omega) (E.pos (by omega) (E.pos (by omega) ?_))
    have e : ((i + 1 : Nat) : Int) = (i : Int) + 1 := by omega
    rw [e] at H
    by_cases hin : i < n
    · rw [if_pos hin] at H
      exact E.pos (by omega) H
    · rw [if_neg hin, Int.add_zero] at H
      exact E.neg (by omega) H
theorem progBlank (x : S36) : breaks_Item_blank.f x.f0 x.f1 x.f2 x.f3 = some (brBlank x) := by
  unfold breaks_Item_blank.f brBlank
  by_cases h : x.f0 = 32 <;> simp [h]
theorem progSilent (x : S36) : breaks_Item_silent.f x.f0 x.f1 x.f2 x.f3 = some (brSilent x) := by
  unfold breaks_Item_silent.f brSilent
  by_cases h1 : x.f1 = 0 <;> by_cases h2 : x.f2 = 0 <;> simp [h1, h2]
theorem measure_ev (l : List S36) (h : l.any brBad = false) (hl : l.length ≤ 65536) : Ev (fun k => breaks_measure.f k l) (mTo l 0 l.length true) := by
  unfold breaks_measure.f
  suffices hh : ∀ n d : Nat, n + d = l.length → (∀ j, n ≤ j → j < l.length → mHang (rd_T36 l (j : Int)) = true) → Ev (fun k => breaks_measure.l0 k l n) (mTo l 0 l.length true) from hh l.length 0 (by omega) (fun j h1 h2 => by omega)
  intro n
  induction n with
  | zero =>
    intro d hd ha
    refine E.succ ?_
    simp only [breaks_measure.l0]
    refine E.neg (by omega) (E.succ ?_)
    simp only [breaks_measure.j1]
    refine E.same (measure_l1 h hl 0 (by omega) l.length 0 (by omega)) ?_
    have := mTo_true l 0 l.length (fun j h1 h2 => ha j h1 (by omega))
    rw [Nat.zero_add] at this
    rw [this]
    simp [pS, mTo]
  | succ n ih =>
    intro d hd ha
    refine E.succ ?_
    simp only [breaks_measure.l0]
    rw [E.w64 (x := ((n + 1 : Nat) : Int) - 1) (by omega) (by omega), show ((n + 1 : Nat) : Int) - 1 = (n : Int) by omega]
    refine E.pos (by omega) (E.pos (by omega) (E.pos (by omega) (E.bno (progBlank _) ?_)))
    have on : mHang (rd_T36 l (n : Int)) = true → Ev (fun k => breaks_measure.l0 k l n) (mTo l 0 l.length true) := fun hq => ih (d + 1) (by omega) (fun j h1 h2 => by
      by_cases e : j = n
      · rw [e]; exact hq
      · exact ha j (by omega) h2)
    by_cases hb : brBlank (rd_T36 l (n : Int)) = true
    · exact E.pos hb (on (by unfold mHang; rw [hb]; rfl))
    · refine E.neg hb (E.bno (progSilent _) ?_)
      by_cases hs : brSilent (rd_T36 l (n : Int)) = true
      · exact E.pos hs (on (by unfold mHang; rw [hs]; simp))
      · refine E.neg hs (E.succ ?_)
        simp only [breaks_measure.j1]
        refine E.same (measure_l1 h hl (n + 1) (by omega) l.length 0 (by omega)) ?_
        have hq : mHang (rd_T36 l (n : Int)) = false := by unfold mHang; rw [Bool.eq_false_iff.mpr hb, Bool.eq_false_iff.mpr hs]; rfl
        have h1 := mTo_true l (n + 1) d (fun j h1 h2 => ha j h1 (by omega))
        rw [hd] at h1
        rw [h1, mTo_top l (n + 1) (.inr (by simpa using hq)), mTo_false l (n + 1) (n + 1) (Nat.le_refl _)]
        omega
end Go.Proofs.Ythckihfkhmoafaa.A
