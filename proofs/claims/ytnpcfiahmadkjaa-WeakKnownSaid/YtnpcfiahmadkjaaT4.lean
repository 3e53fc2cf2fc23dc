import Derived.Test.YtnpcfiahmadkjaaT3
namespace Go.Proofs.Ytnpcfiahmadkjaa.X
open Go.RowKit Go.Proofs.YtnpcfiahmadkjaaW.PrintWords Go.Proofs.YtnpcfiahmadkjaaW.PrintLast Go.Proofs.YtnpcfiahmadkjaaW.PrintMore
set_option linter.unusedVariables false
set_option linter.unusedSimpArgs false

/-- BN go back to where they were. -/
def wkMg : List Int → List Int → List Int
  | [], _ => []
  | c :: l, r => if c = 10 then 10 :: wkMg l r else r.headD 0 :: wkMg l r.tail
/-- The places of what is no BN. -/
def wkPlc (i : Int) : List Int → List Int
  | [] => []
  | c :: l => if c = 10 then wkPlc (i + 1) l else i :: wkPlc (i + 1) l
/-- W1 to W3: of what is no BN. -/
def wkR13 (b n : Int) : List Int → List Int
  | [] => []
  | c :: l => if c = 10 then wkR13 b n l else (fst1 b n c).1 :: wkR13 (fst1 b n c).2.1 (fst1 b n c).2.2 l
/-- W4; p: what stands ahead. -/
def wkW4 (p : Int) : List Int → List Int
  | [] => []
  | c :: t => if p = t.headD 10 ∧ (p = 4 ∧ (c = 5 ∨ c = 8) ∨ p = 7 ∧ c = 8) then p :: wkW4 p t else c :: wkW4 c t
/-- What stands behind terminators. -/
def wkNx : List Int → Int
  | [] => 10
  | c :: t => if c = 6 then wkNx t else c
/-- W5, W6. -/
def wkW5 (p : Int) : List Int → List Int
  | [] => []
  | c :: t => if c = 6 then (if p = 4 ∨ wkNx t = 4 then 4 :: wkW5 4 t else 14 :: wkW5 14 t) else if c = 5 ∨ c = 8 then 14 :: wkW5 14 t else c :: wkW5 c t
/-- W7. -/
def wkW7 (s : Int) : List Int → List Int
  | [] => []
  | c :: t => if c = 1 ∨ c = 2 then c :: wkW7 c t else if c = 4 then (if s = 1 then 1 else 4) :: wkW7 s t else c :: wkW7 s t
def wkSos (s : Int) : Int := if s = 2 then 2 else 1
def wkRes (s : Int) (l : List Int) : List Int := wkMg l (wkW7 (wkSos s) (wkW5 10 (wkW4 10 (wkR13 (wkSos s) (wkSos s) l))))

theorem wkRd_cons (x : Int) (l : List Int) (k : Int) (h : 1 ≤ k) : rd (x :: l) k = rd l (k - 1) := by
  obtain ⟨n, rfl⟩ : ∃ n : Nat, k = n + 1 := ⟨(k - 1).toNat, by omega⟩
  simp [rd]
theorem wkSet_cons (x v : Int) (l : List Int) (k : Int) (h : 1 ≤ k) : (x :: l).set k.toNat v = x :: l.set (k - 1).toNat v := by
  obtain ⟨n, rfl⟩ : ∃ n : Nat, k = n + 1 := ⟨(k - 1).toNat, by omega⟩
  simp
theorem wkRd_zero (x : Int) (l : List Int) : rd (x :: l) 0 = x := by simp [rd]
theorem wkPlc_le (l : List Int) : ∀ i, (wkPlc i l).length ≤ l.length := by
  induction l with
  | nil => intro i; exact Nat.le_refl _
  | cons c l ih => intro i; rw [wkPlc]; split
                   · have := ih (i + 1); rw [List.length_cons]; omega
                   · have := ih (i + 1); rw [List.length_cons, List.length_cons]; omega
theorem wkMg_length (l : List Int) : ∀ r, (wkMg l r).length = l.length := by
  induction l with
  | nil => intro r; rfl
  | cons c l ih => intro r; rw [wkMg]; split <;> simp [ih]
theorem wkMg_at (v : Int) (l : List Int) : ∀ (r : List Int) (i k : Int), r.length = (wkPlc i l).length → 0 ≤ k → k < (r.length : Int) →
    i ≤ rd (wkPlc i l) k ∧ rd (wkPlc i l) k < i + l.length ∧ rd (wkMg l r) (rd (wkPlc i l) k - i) = rd r k ∧ (wkMg l r).set (rd (wkPlc i l) k - i).toNat v = wkMg l (r.set k.toNat v) := by
  induction l with
  | nil => intro r i k hr h0 h1; simp [wkPlc] at hr; subst hr; simp at h1; omega
  | cons c l ih =>
    intro r i k hr h0 h1
    rw [wkPlc] at hr ⊢
    rw [wkMg, wkMg]
    by_cases h10 : c = 10
    · rw [if_pos h10] at hr
      simp only [if_pos h10]
      obtain ⟨a, b, c', d⟩ := ih r (i + 1) k hr h0 h1
      refine ⟨by omega, by rw [List.length_cons]; omega, ?_, ?_⟩
      · rw [wkRd_cons _ _ _ (by omega), ← c']; congr 1; omega
      · rw [wkSet_cons _ _ _ _ (by omega), ← d]; congr 3; omega
    · rw [if_neg h10] at hr
      simp only [if_neg h10]
      cases r with
      | nil => simp at h1; omega
      | cons x r =>
        rw [List.length_cons, List.length_cons] at hr
        by_cases hk : k = 0
        · subst hk
          rw [wkRd_zero]
          refine ⟨by omega, by rw [List.length_cons]; omega, ?_, ?_⟩
          · rw [show i - i = 0 by omega, wkRd_zero, wkRd_zero]; rfl
          · rw [show (i - i).toNat = 0 by omega]; rfl
        · rw [wkRd_cons _ _ _ (by omega)]
          rw [List.length_cons] at h1
          obtain ⟨a, b, c', d⟩ := ih r (i + 1) (k - 1) (by omega) (by omega) (by omega)
          refine ⟨by omega, by rw [List.length_cons]; omega, ?_, ?_⟩
          · rw [wkRd_cons _ _ _ (by omega), wkRd_cons x _ _ (by omega), List.tail_cons, ← c']; congr 1; omega
          · rw [wkSet_cons _ _ _ _ (by omega), wkSet_cons x _ _ _ (by omega), List.headD_cons, List.tail_cons, List.headD_cons, List.tail_cons, ← d]; congr 3; omega
/-- What 'at' tells of a row. -/
def wkAt (r : List Int) (k : Int) : Int := if k < 0 then 10 else if (r.length : Int) ≤ k then 10 else rd r k
theorem wkAtv (l r : List Int) (hr : r.length = (wkPlc 0 l).length) (k : Int) : atv (wkMg l r) (wkPlc 0 l) k = wkAt r k := by
  unfold atv wkAt
  rw [← hr]
  by_cases h0 : k < 0
  · rw [if_pos h0, if_pos h0]
  · rw [if_neg h0, if_neg h0]
    by_cases h1 : (r.length : Int) ≤ k
    · rw [if_pos h1, if_pos h1]
    · rw [if_neg h1, if_neg h1]
      have := (wkMg_at 0 l r 0 k hr (by omega) (by omega)).2.2.1
      rwa [Int.sub_zero] at this
theorem wkMg_set (l r : List Int) (hr : r.length = (wkPlc 0 l).length) (k c : Int) (h0 : 0 ≤ k) (h1 : k < r.length) : (wkMg l r).set (rd (wkPlc 0 l) k).toNat c = wkMg l (r.set k.toNat c) := by
  have := (wkMg_at c l r 0 k hr h0 h1).2.2.2
  rwa [Int.sub_zero] at this
theorem wkPl_in (l r : List Int) (hr : r.length = (wkPlc 0 l).length) (k : Int) (h0 : 0 ≤ k) (h1 : k < ((wkPlc 0 l).length : Int)) : 0 ≤ rd (wkPlc 0 l) k ∧ rd (wkPlc 0 l) k < (wkMg l r).length := by
  rw [wkMg_length]
  have := wkMg_at 0 l r 0 k hr h0 (by omega)
  omega
theorem wkFill (l : List Int) (c k : Int) (dn es rest : List Int) (hr : (dn ++ es ++ rest).length = (wkPlc 0 l).length) (hk : k = dn.length) (m : Nat) (hm : m = es.length) :
    fillP (wkMg l (dn ++ es ++ rest)) (wkPlc 0 l) c k m = wkMg l (dn ++ List.replicate m c ++ rest) := by
  suffices h : ∀ m : Nat, m ≤ es.length → fillP (wkMg l (dn ++ es ++ rest)) (wkPlc 0 l) c k m = wkMg l (dn ++ (List.replicate m c ++ es.drop m) ++ rest) by
    rw [h m (by omega), hm, List.drop_length, List.append_nil]
  intro m
  induction m with
  | zero => intro _; simp [fillP]
  | succ m ih =>
    intro hle
    rw [fillP, ih (by omega)]
    simp only [List.length_append] at hr
    rw [wkMg_set _ _ (by simp; omega) _ _ (by omega) (by simp; omega)]
    congr 1
    rw [show (k + (m : Int)).toNat = dn.length + m by omega]
    rw [List.drop_eq_getElem_cons (show m < es.length by omega)]
    rw [List.append_assoc, List.set_append_right _ _ (by omega), Nat.add_sub_cancel_left, List.append_assoc, List.set_append_right _ _ (by simp)]
    simp [List.replicate_succ', -List.getElem_cons_drop]
end Go.Proofs.Ytnpcfiahmadkjaa.X
