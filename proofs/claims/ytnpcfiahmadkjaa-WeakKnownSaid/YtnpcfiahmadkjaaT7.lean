import Derived.Test.YtnpcfiahmadkjaaT5
namespace Go.Proofs.Ytnpcfiahmadkjaa.X
open Go.RowKit Go.Proofs.YtnpcfiahmadkjaaW.PrintWords Go.Proofs.YtnpcfiahmadkjaaW.PrintLast Go.Proofs.YtnpcfiahmadkjaaW.PrintMore
set_option linter.unusedVariables false
set_option linter.unusedSimpArgs false

theorem wkAt_app (dn cur : List Int) (i : Int) (h : 0 ≤ i) : wkAt (dn ++ cur) (dn.length + i) = wkAt cur i := by
  unfold wkAt
  rw [if_neg (by omega), if_neg (show ¬i < 0 by omega)]
  rw [List.length_append]
  by_cases h1 : (cur.length : Int) ≤ i
  · rw [if_pos h1, if_pos (by omega)]
  · rw [if_neg h1, if_neg (by omega)]
    unfold rd
    rw [show ((dn.length : Int) + i).toNat = dn.length + i.toNat by omega]
    simp [List.getD_eq_getElem?_getD, List.getElem?_append_right]
theorem wkAt_zero (cur : List Int) : wkAt cur 0 = cur.headD 10 := by
  cases cur with
  | nil => rfl
  | cons c t => simp [wkAt, rd]; intro h; omega
theorem wkAt_one (c : Int) (t : List Int) : wkAt (c :: t) 1 = t.headD 10 := by
  cases t with
  | nil => rfl
  | cons d t => simp [wkAt, rd]; intro h; omega
theorem wkAt_prev (dn cur : List Int) : wkAt (dn ++ cur) (dn.length - 1) = dn.getLastD 10 := by
  unfold wkAt
  by_cases h : dn = []
  · subst h; rfl
  · have : 0 < dn.length := List.length_pos_iff.2 h
    rw [if_neg (by omega), if_neg (by simp; omega)]
    unfold rd
    rw [show ((dn.length : Int) - 1).toNat = dn.length - 1 by omega]
    rw [List.getD_eq_getElem?_getD, List.getElem?_append_left (by omega), List.getLastD_eq_getLast?, List.getLast?_eq_getElem?]
    rw [List.getElem?_eq_getElem (by omega)]
    rfl
theorem wkSet_here (dn t : List Int) (c v : Int) : (dn ++ c :: t).set (dn.length : Int).toNat v = dn ++ [v] ++ t := by simp
theorem wkSplit (cur : List Int) : ∃ m rest, cur = List.replicate m 6 ++ rest ∧ rest.headD 10 ≠ 6 := by
  induction cur with
  | nil => exact ⟨0, [], rfl, by decide⟩
  | cons c t ih =>
    by_cases h : c = 6
    · obtain ⟨m, rest, h1, h2⟩ := ih
      exact ⟨m + 1, rest, by rw [h, h1]; rfl, h2⟩
    · exact ⟨0, c :: t, rfl, h⟩
theorem wkAt_run (m : Nat) (rest : List Int) (i : Int) (h0 : 0 ≤ i) (h1 : i < m) : wkAt (List.replicate m 6 ++ rest) i = 6 := by
  unfold wkAt
  rw [if_neg (by omega), if_neg (by simp; omega)]
  unfold rd
  rw [List.getD_eq_getElem?_getD, List.getElem?_append_left (by simp; omega)]
  simp [show i.toNat < m by omega]
theorem wkAt_end (m : Nat) (rest : List Int) : wkAt (List.replicate m 6 ++ rest) m = rest.headD 10 := by
  have h := wkAt_app (List.replicate m 6) rest 0 (by omega)
  rw [List.length_replicate, Int.add_zero, wkAt_zero] at h
  exact h
theorem wkNx_run (m : Nat) (rest : List Int) (h : rest.headD 10 ≠ 6) : wkNx (List.replicate m 6 ++ rest) = rest.headD 10 := by
  induction m with
  | zero =>
    cases rest with
    | nil => rfl
    | cons c t => simp at h; simp [wkNx, h]
  | succ m ih => rw [List.replicate_succ, List.cons_append, wkNx, if_pos rfl, ih]
theorem wkW5_four (m : Nat) (rest : List Int) (p : Int) : wkW5 p (List.replicate (m + 1) 4 ++ rest) = List.replicate (m + 1) 4 ++ wkW5 4 rest := by
  induction m generalizing p with
  | zero => simp [wkW5]
  | succ m ih => rw [List.replicate_succ, List.cons_append, wkW5, if_neg (by omega), if_neg (by omega), ih]; rfl
theorem wkW5_run (m : Nat) (rest : List Int) (h : rest.headD 10 ≠ 6) (p : Int) : wkW5 p (List.replicate (m + 1) 6 ++ rest) = if p = 4 ∨ rest.headD 10 = 4 then List.replicate (m + 1) 4 ++ wkW5 4 rest else List.replicate (m + 1) 14 ++ wkW5 14 rest := by
  induction m generalizing p with
  | zero =>
    have := wkNx_run 0 rest h
    simp only [List.replicate_zero, List.nil_append] at this
    simp only [Nat.zero_add, List.replicate_one, List.singleton_append, wkW5, if_true, this]
  | succ m ih =>
    rw [List.replicate_succ, List.cons_append, wkW5, if_pos rfl, wkNx_run _ _ h]
    by_cases hp : p = 4 ∨ rest.headD 10 = 4
    · rw [if_pos hp, if_pos hp, ih, if_pos (.inl rfl)]; rfl
    · rw [if_neg hp, if_neg hp, ih, if_neg (by omega)]; rfl
theorem wkW7_on (m : Nat) (x : List Int) (st : Int) : wkW7 st (List.replicate m 14 ++ x) = List.replicate m 14 ++ wkW7 st x := by
  induction m with
  | zero => rfl
  | succ m ih => rw [List.replicate_succ, List.cons_append, wkW7, if_neg (by omega), if_neg (by omega), ih]; rfl
theorem wkW5_ne {t : List Int} (h : t.headD 10 ≠ 6) (p q : Int) : wkW5 p t = wkW5 q t := by
  cases t with
  | nil => rfl
  | cons c t => simp at h; simp [wkW5, h]
theorem wkLast_snoc (dn : List Int) (c : Int) : (dn ++ [c]).getLastD 10 = c := by simp
theorem wkLast_on (dn : List Int) (m : Nat) (c : Int) : (dn ++ List.replicate (m + 1) c).getLastD 10 = c := by
  rw [List.replicate_succ', ← List.append_assoc, wkLast_snoc]
/-- The run's class, by what stands about it. -/
def wkCl (p : Int) (rest : List Int) : Int := if p = 4 ∨ rest.headD 10 = 4 then 4 else 14
/-- What loop 2 has between two rounds. -/
def WkL2 (w : World) (g bx bm : Nat) (l0 : List Int) (s k : Int) (W : World) : Prop :=
  ∃ (vp : Value) (dn cur : List Int) (b n : Int), WkS w g bx bm l0.length vp (wkMg l0 (dn ++ cur)) (wkPlc 0 l0) b n W ∧ (dn.length : Int) = k ∧ (dn ++ cur).length = (wkPlc 0 l0).length ∧
    dn ++ wkW4 (dn.getLastD 10) cur = wkW4 10 (wkR13 s s l0)
theorem wkPlcR13 (l : List Int) : ∀ b n i, (wkR13 b n l).length = (wkPlc i l).length := by
  induction l with
  | nil => intro b n i; rfl
  | cons c l ih => intro b n i; rw [wkR13, wkPlc]; split
                   · exact ih _ _ _
                   · rw [List.length_cons, List.length_cons, ih]
theorem WkL2_start {w W : World} {g bx bm : Nat} {l0 : List Int} {s : Int} (h : WkL1 w g bx bm l0 s l0.length W) : WkL2 w g bx bm l0 s 0 W := by
  obtain ⟨vp, o, pl, b, n, q1, q2, q3, q4⟩ := h
  have hd : l0.drop (l0.length : Int).toNat = [] := by simp
  rw [hd, wkR13, wkMg, List.append_nil] at q3
  rw [hd, wkPlc, List.append_nil] at q4
  have ho : o.length = l0.length := by omega
  rw [ho, Nat.sub_self, List.replicate_zero, List.append_nil, q3, q4] at q1
  exact ⟨vp, [], wkR13 s s l0, b, n, q1, rfl, wkPlcR13 _ _ _ _, rfl⟩
theorem WkL2_keep {w W : World} {g bx bm : Nat} {l0 dn t : List Int} {vp : Value} {b n s k c : Int} (q1 : WkS w g bx bm l0.length vp (wkMg l0 (dn ++ c :: t)) (wkPlc 0 l0) b n W) (q2 : (dn.length : Int) = k) (q3 : (dn ++ c :: t).length = (wkPlc 0 l0).length)
    (q4 : dn ++ wkW4 (dn.getLastD 10) (c :: t) = wkW4 10 (wkR13 s s l0)) (hc : ¬(dn.getLastD 10 = t.headD 10 ∧ (dn.getLastD 10 = 4 ∧ (c = 5 ∨ c = 8) ∨ dn.getLastD 10 = 7 ∧ c = 8))) : WkL2 w g bx bm l0 s (k + 1) W := by
  rw [show dn ++ c :: t = (dn ++ [c]) ++ t by simp] at q1 q3
  refine ⟨vp, dn ++ [c], t, b, n, q1, by simp; omega, q3, ?_⟩
  rw [wkLast_snoc, ← q4, wkW4, if_neg hc]
  simp
theorem WkL2_put {w W : World} {g bx bm : Nat} {l0 dn t : List Int} {vp : Value} {b n s k c : Int} (q1 : WkS w g bx bm l0.length vp ((wkMg l0 (dn ++ c :: t)).set (rd (wkPlc 0 l0) k).toNat (dn.getLastD 10)) (wkPlc 0 l0) b n W) (q2 : (dn.length : Int) = k) (q3 : (dn ++ c :: t).length = (wkPlc 0 l0).length)
    (q4 : dn ++ wkW4 (dn.getLastD 10) (c :: t) = wkW4 10 (wkR13 s s l0)) (hc : dn.getLastD 10 = t.headD 10 ∧ (dn.getLastD 10 = 4 ∧ (c = 5 ∨ c = 8) ∨ dn.getLastD 10 = 7 ∧ c = 8)) : WkL2 w g bx bm l0 s (k + 1) W := by
  rw [wkMg_set l0 _ q3 _ _ (by omega) (by simp; omega), ← q2, wkSet_here] at q1
  refine ⟨vp, dn ++ [dn.getLastD 10], t, b, n, q1, by simp; omega, by rw [← q3]; simp, ?_⟩
  rw [wkLast_snoc, ← q4, wkW4, if_pos hc]
  simp
theorem WkJ_start {w W : World} {g bx bm : Nat} {l0 : List Int} {s : Int} (hs : s = 1 ∨ s = 2) (h : WkL2 w g bx bm l0 s (wkPlc 0 l0).length W) : WkJ w g bx bm l0 s s 0 W := by
  obtain ⟨vp, dn, cur, b, n, q1, q2, q3, q4⟩ := h
  have hcur : cur = [] := by
    rw [List.length_append] at q3
    exact List.length_eq_zero_iff.1 (by omega)
  subst hcur
  rw [wkW4, List.append_nil] at q4
  refine ⟨vp, [], dn, b, n, by simpa using q1, rfl, by simpa using q3, hs, ?_⟩
  rw [q4]; rfl
end Go.Proofs.Ytnpcfiahmadkjaa.X
