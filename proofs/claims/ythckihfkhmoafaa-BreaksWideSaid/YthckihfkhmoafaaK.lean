import Derived.Test.YthckihfkhmoafaaJ
/-! The law BreaksWide, for any items. -/
namespace Go.Proofs.Ythckihfkhmoafaa.A
open Go.RowKit Go.Proofs.Ythckihfkhmoafaa.X Go.Proofs.YthckihfkhmoafaaW.PrintWords Go.Proofs.YthckihfkhmoafaaW.PrintLast Go.Proofs.YthckihfkhmoafaaW.PrintMore Go.Proofs.Ythckihfkhmoafaa
set_option linter.unusedVariables false
set_option linter.unusedSimpArgs false

/-- The forced places behind i, of which d are left to be seen. -/
def fwd (l : List S36) : Nat → Nat → List Int
  | 0, _ => []
  | d + 1, i => if (rd_T36 l i).f0 = 8232 ∧ (i : Int) + 1 < l.length then ((i : Int) + 1) :: fwd l d (i + 1) else fwd l d (i + 1)
theorem sA_mono {l : List S36} (h : l.any brBad = false) : ∀ j i : Nat, i + j ≤ l.length → sA l i ≤ sA l (i + j) := by
  intro j
  induction j with
  | zero => intro i _; exact Int.le_refl _
  | succ j ih =>
    intro i hi
    have h1 := ih i (by omega)
    have h2 := ok_item h (i + j) (by omega)
    rw [show i + (j + 1) = (i + j) + 1 by omega, sA]
    omega
theorem brM_total {l : List S36} (h : l.any brBad = false) {s k : Int} (h0 : 0 ≤ s) (h1 : s ≤ k) (h2 : k ≤ l.length) : brM l s k ≤ sA l l.length := by
  unfold brM
  have h3 := mTo_bounds h s.toNat (k.toNat - s.toNat) (by omega)
  have h4 := mTo_false_sA l s.toNat (k.toNat - s.toNat)
  have h5 := sA_mono h (l.length - k.toNat) k.toNat (by omega)
  have h6 := sA_in h s.toNat (by omega)
  rw [show s.toNat + (k.toNat - s.toNat) = k.toNat by omega] at h4
  rw [show k.toNat + (l.length - k.toNat) = l.length by omega] at h5
  omega
theorem wide_chain {l : List S36} (h : l.any brBad = false) {wd : Int} (hw : sA l l.length ≤ wd) : ∀ (d i : Nat) (s : Int), i + d = l.length → 0 ≤ s → s ≤ i → (∀ j, s < j → j ≤ (i : Int) → ¬ brF l j) → Chain l wd s (fwd l d i) := by
  intro d
  induction d with
  | zero =>
    intro i s hi h0 h1 hf
    by_cases e : s = l.length
    · exact .past s (by omega)
    · refine .last s ⟨by omega, Int.le_refl _, .inl rfl, fun j a b => hf j a (by omega), .inl ?_, .inr fun j a b => by omega⟩
      have := brM_total h (s := s) (k := l.length) h0 (by omega) (Int.le_refl _)
      omega
  | succ d ih =>
    intro i s hi h0 h1 hf
    rw [fwd]
    by_cases c : (rd_T36 l i).f0 = 8232 ∧ (i : Int) + 1 < l.length
    · rw [if_pos c]
      have hF : brF l ((i : Int) + 1) := ⟨by omega, c.2, by unfold brMust; rw [show (i : Int) + 1 - 1 = i by omega]; exact beq_iff_eq.mpr c.1⟩
      refine .more s _ _ ⟨by omega, by omega, brF_C hF, fun j a b => hf j a (by omega), .inl ?_, .inl hF⟩ c.2 (ih (i + 1) _ (by omega) (by omega) (by omega) (fun j a b => by omega))
      have := brM_total h (s := s) (k := (i : Int) + 1) h0 (by omega) (by omega)
      omega
    · rw [if_neg c]
      refine ih (i + 1) s (by omega) h0 (by omega) (fun j a b hF => ?_)
      by_cases e : j ≤ (i : Int)
      · exact hf j a e hF
      · have : j = (i : Int) + 1 := by omega
        subst this
        have h3 := hF.2.2
        unfold brMust at h3
        rw [show (i : Int) + 1 - 1 = i by omega] at h3
        exact c ⟨beq_iff_eq.mp h3, hF.2.1⟩
theorem same_self (a : List Int) (ha : a.length ≤ 4611686018427387904) : Ev (fun k => selvedgekit_SameInts.f k a a) true := by
  unfold selvedgekit_SameInts.f
  refine E.pos (by simp) ?_
  have loop : ∀ d x : Nat, x + d = a.length → Ev (fun k => selvedgekit_SameInts.l0 k a a x) true := by
    intro d
    induction d with
    | zero =>
      intro x hx
      refine E.succ ?_
      simp only [selvedgekit_SameInts.l0]
      exact E.neg (by omega) (E.ret rfl)
    | succ d ih =>
      intro x hx
      have H := ih (x + 1) (by omega)
      rw [show ((x + 1 : Nat) : Int) = (x : Int) + 1 by omega] at H
      refine E.succ ?_
      simp only [selvedgekit_SameInts.l0]
      rw [E.w64 (by omega) (by omega)]
      exact E.pos (by omega) (E.pos (by omega) (E.pos (by omega) (E.pos (by simp) H)))
  exact loop a.length 0 (by omega)
/-- What the items up to i take, where each is small. -/
theorem sA_small {l : List S36} : ∀ i : Nat, i ≤ l.length → (∀ j, j < i → brBad (rd_T36 l (j : Nat)) = false ∧ (rd_T36 l (j : Nat)).f2 ≤ 4096 ∧ (rd_T36 l (j : Nat)).f3 ≤ 4096) → 0 ≤ sA l i ∧ sA l i ≤ 12288 * i := by
  intro i
  induction i with
  | zero => intro _ _; simp [sA]
  | succ i ih =>
    intro hi h
    have h1 := ih (by omega) (fun j hj => h j (by omega))
    obtain ⟨h2, h3, h4⟩ := h i (by omega)
    simp [brBad] at h2
    rw [sA]
    omega
theorem breaksWide (l : List S36) : Ev (fun k => selvedgelaw21_BreaksWide.f k l) true := by
  unfold selvedgelaw21_BreaksWide.f
  by_cases hl : (l.length : Int) > 300
  · exact E.pos hl (E.bnd works_ev (E.ret rfl))
  refine E.neg hl ?_
  have loop : ∀ (d i : Nat) (W : List Int), i + d = l.length → (∀ j, j < i → brBad (rd_T36 l (j : Nat)) = false ∧ (rd_T36 l (j : Nat)).f2 ≤ 4096 ∧ (rd_T36 l (j : Nat)).f3 ≤ 4096) → W.length ≤ i + 1 → W ++ fwd l d i = 0 :: fwd l l.length 0 →
      Ev (fun k => selvedgelaw21_BreaksWide.l0 k l (1 + sA l i) W i) true := by
    intro d
    induction d with
    | zero =>
      intro i W hi hs hW hF
      have : i = l.length := by omega
      subst this
      have hok : l.any brBad = false := by
        rw [List.any_eq_false]
        intro x hx
        obtain ⟨j, hj, rfl⟩ := List.getElem_of_mem hx
        have := (hs j hj).1
        have e : rd_T36 l (j : Nat) = l[j] := by simp [rd_T36, hj]
        rw [e] at this
        rw [this]; decide
      have hsm := sA_small l.length (Nat.le_refl _) hs
      rw [fwd, List.append_nil] at hF
      subst hF
      refine E.succ ?_
      simp only [selvedgelaw21_BreaksWide.l0]
      refine E.neg (by omega) (E.bno (lines_some (by omega)) ?_)
      rw [if_neg (by rw [hok]; decide), if_neg (by omega)]
      refine E.pos (by simp) ?_
      dsimp only
      obtain ⟨L, hL, hc⟩ := lines_chain hok (1 + sA l l.length)
      have := hc.uniq (wide_chain hok (wd := 1 + sA l l.length) (by omega) l.length 0 0 (by omega) (Int.le_refl _) (Int.le_refl _) (fun j a b => by omega))
      subst this
      rw [hL]
      exact E.bnd (same_self _ (by omega)) (E.pos (by simp) (E.bnd works_ev (E.ret rfl)))
    | succ d ih =>
      intro i W hi hs hW hF
      refine E.succ ?_
      simp only [selvedgelaw21_BreaksWide.l0]
      refine E.pos (by omega) (E.pos (by omega) ?_)
      have off : ∀ c a0 a1 a2 a3, c = true → Ev (fun k => selvedgelaw21_BreaksWide.j1 k l (1 + sA l i) W i c a0 a1 a2 a3) true := by
        intro c a0 a1 a2 a3 hc
        subst hc
        refine E.succ ?_
        simp only [selvedgelaw21_BreaksWide.j1]
        exact E.pos (by simp) (E.bnd works_ev (E.ret rfl))
      by_cases q1 : (rd_T36 l (i : Int)).f1 < 0
      · exact E.pos q1 (off _ _ _ _ _ rfl)
      refine E.neg q1 ?_
      by_cases q2 : (rd_T36 l (i : Int)).f1 > 4096
      · exact E.pos q2 (off _ _ _ _ _ rfl)
      refine E.neg q2 ?_
      by_cases q3 : (rd_T36 l (i : Int)).f2 < 0
      · exact E.pos q3 (off _ _ _ _ _ rfl)
      refine E.neg q3 ?_
      by_cases q4 : (rd_T36 l (i : Int)).f2 > 4096
      · exact E.pos q4 (off _ _ _ _ _ rfl)
      refine E.neg q4 ?_
      by_cases q5 : (rd_T36 l (i : Int)).f3 < 0
      · exact E.pos q5 (off _ _ _ _ _ rfl)
      refine E.neg q5 ?_
      by_cases q6 : (rd_T36 l (i : Int)).f3 > 4096
      · exact off _ _ _ _ _ (decide_eq_true q6)
      rw [decide_eq_false q6]
      have hs' : ∀ j, j < i + 1 → brBad (rd_T36 l (j : Nat)) = false ∧ (rd_T36 l (j : Nat)).f2 ≤ 4096 ∧ (rd_T36 l (j : Nat)).f3 ≤ 4096 := by
        intro j hj
        by_cases e : j = i
        · subst e
          refine ⟨?_, by omega, by omega⟩
          simp [brBad]
          omega
        · exact hs j (by omega)
      have hsm := sA_small i (by omega) hs
      have hsm' := sA_small (i + 1) (by omega) hs'
      have H := fun W' => ih (i + 1) W' (by omega) hs'
      rw [sA] at H hsm'
      rw [fwd] at hF
      rw [show ((i + 1 : Nat) : Int) = (i : Int) + 1 by omega] at H
      generalize hx : rd_T36 l (i : Int) = x at *
      refine E.succ ?_
      simp only [selvedgelaw21_BreaksWide.j1]
      refine E.neg (by decide) ?_
      rw [E.w64 (x := 1 + sA l i + x.f1) (by omega) (by omega), E.w64 (x := 1 + sA l i + x.f1 + x.f2) (by omega) (by omega), E.w64 (x := 1 + sA l i + x.f1 + x.f2 + x.f3) (by omega) (by omega), E.w64 (x := (i : Int) + 1) (by omega) (by omega)]
      rw [show 1 + sA l i + x.f1 + x.f2 + x.f3 = 1 + (sA l i + x.f2 + x.f1 + x.f3) by omega]
      by_cases c1 : x.f0 = 8232
      · refine E.pos c1 ?_
        by_cases c2 : (i : Int) + 1 < l.length
        · rw [if_pos ⟨c1, c2⟩] at hF
          exact E.pos c2 (E.pos (by omega) (H _ (by simp; omega) (by rw [← hF]; simp)))
        · rw [if_neg (fun h => c2 h.2)] at hF
          exact E.neg c2 (H W (by omega) hF)
      · rw [if_neg (fun h => c1 h.1)] at hF
        exact E.neg c1 (H W (by omega) hF)
  have := loop l.length 0 [0] (by omega) (fun j hj => by omega) (by simp) rfl
  simpa [sA] using this
end Go.Proofs.Ythckihfkhmoafaa.A
