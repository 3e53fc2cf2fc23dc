import Derived.Test.YtnpcfiahmadkjaaX
import Derived.Test.YtnpcfiahmadkjaaA
/-! What the functions of chapter 16 come to. -/
namespace Go.Proofs.Ytnpcfiahmadkjaa.A
open Go.RowKit Go.Proofs.Ytnpcfiahmadkjaa.X Go.Proofs.YtnpcfiahmadkjaaW.PrintWords Go.Proofs.YtnpcfiahmadkjaaW.PrintLast Go.Proofs.Ytnpcfiahmadkjaa
set_option linter.unusedVariables false
set_option linter.unusedSimpArgs false

theorem is_self (l : List Int) (hl : l.length ≤ 140737488351232) : Ev (fun k => selvedgelaw16_is.f k l l) true := by
  unfold selvedgelaw16_is.f
  refine E.pos rfl ?_
  suffices h : ∀ (d : Nat) (i : Int), 0 ≤ i → i ≤ l.length → (l.length : Int) - i = d → Ev (fun k => selvedgelaw16_is.l0 k l l i) true from h l.length 0 (by omega) (by omega) (by omega)
  intro d
  induction d with
  | zero =>
    intro i h0 h1 h2
    refine E.succ ?_
    simp only [selvedgelaw16_is.l0]
    exact E.neg (by omega) (E.ret rfl)
  | succ d ih =>
    intro i h0 h1 h2
    refine E.succ ?_
    simp only [selvedgelaw16_is.l0]
    refine E.pos (by omega) (E.pos h0 (E.pos (by omega) (E.pos (by first | rfl | trivial) ?_)))
    rw [E.w64 (by omega) (by omega)]
    exact ih (i + 1) (by omega) (by omega) (by omega)
theorem is_eq {a b : List Int} (h : a = b) (hl : a.length ≤ 140737488351232) : Ev (fun k => selvedgelaw16_is.f k a b) true := by
  subst h
  exact is_self a hl
theorem works_ev : Ev (fun k => selvedgelaw16_works.f k) true := by
  refine E.of (fun k => selvedgelaw16_works.mono k) 20 ?_
  decide +kernel
theorem res_some {l : List Int} (s : Int) (hl : l.length < 17592186044416) : weak_Resolve.f l s = some (wkRes s l) := by
  unfold weak_Resolve.f
  rw [if_pos hl]
theorem wkRes_len (s : Int) (l : List Int) : (wkRes s l).length = l.length := by
  unfold wkRes; rw [wkMg_length]
theorem own_some {l : List Int} (hl : l.length ≤ 140737488351232) : selvedgelaw16_own.f l = some l := by
  unfold selvedgelaw16_own.f
  rw [if_pos (by simp; omega)]; rfl

theorem ref7 (cur : List Int) : ∀ (dn : List Int) (s : Int), (dn ++ cur).length ≤ 140737488351232 → Ev (fun k => selvedgeref16_w7.l0 k (dn ++ cur) s dn.length) (dn ++ wkW7 s cur) := by
  induction cur with
  | nil =>
    intro dn s hl
    refine E.succ ?_
    simp only [selvedgeref16_w7.l0]
    exact E.neg (by rw [List.append_nil]; omega) (E.ret rfl)
  | cons c t ih =>
    intro dn s hl
    have h1 := mid_len dn t c
    have hc : rd (dn ++ c :: t) dn.length = c := E.rd_mid dn t c
    have go : ∀ v s', Ev (fun k => selvedgeref16_w7.l0 k (dn ++ v :: t) s' ((dn.length : Int) + 1)) (dn ++ (v :: wkW7 s' t)) := by
      intro v s'
      have H := ih (dn ++ [v]) s' (by rw [← snoc_app, mid_len]; omega)
      rwa [snoc_len, ← snoc_app, ← snoc_app] at H
    have j : ∀ b : Bool, (b = true ↔ c = 1 ∨ c = 2) → Ev (fun k => selvedgeref16_w7.j1 k (dn ++ c :: t) s dn.length c b) (dn ++ wkW7 s (c :: t)) := by
      intro b hb
      refine E.succ ?_
      simp only [selvedgeref16_w7.j1]
      rw [wkW7_cons, E.w64 (by omega) (by omega), hc, E.set_mid' rfl]
      unfold o7 s7
      by_cases h : c = 1 ∨ c = 2
      · rw [if_pos h, if_neg (show ¬ c = 4 by omega)]
        exact E.pos (hb.2 h) (E.pos (by omega) (E.pos (by omega) (go c c)))
      · rw [if_neg h]
        refine E.neg (fun e => h (hb.1 e)) ?_
        by_cases h4 : c = 4
        · rw [if_pos h4]
          refine E.pos h4 ?_
          by_cases hn : s = 1
          · rw [if_pos hn]
            exact E.pos hn (E.pos (by omega) (E.pos (by omega) (go 1 s)))
          · rw [if_neg hn]
            have := go c s
            rw [h4] at this ⊢
            exact E.neg hn this
        · rw [if_neg h4]
          exact E.neg h4 (go c s)
    refine E.succ ?_
    simp only [selvedgeref16_w7.l0]
    refine E.pos (by omega) (E.pos (by omega) ?_)
    rw [hc]
    by_cases e1 : c = 1
    · exact E.pos e1 (j _ (by simp; omega))
    exact E.neg e1 (j _ (by simp; omega))
/-! ### The reference as a whole -/
def noB (l : List Int) : List Int := l.filter (fun c => c != 10)
theorem noB_ne (l : List Int) : ∀ x ∈ noB l, x ≠ 10 := by
  intro x hx
  have := (List.mem_filter.1 hx).2
  simpa using this
theorem noB_le (l : List Int) : (noB l).length ≤ l.length := List.length_filter_le _ _
theorem r13_noB (l : List Int) : ∀ b n, wkR13 b n (noB l) = wkR13 b n l := by
  induction l with
  | nil => intro b n; rfl
  | cons c l ih =>
    intro b n
    by_cases h : c = 10
    · have : noB (c :: l) = noB l := by unfold noB; rw [List.filter_cons_of_neg (by simp [h])]
      rw [this, ih]; conv => rhs; rw [wkR13, if_pos h]
    · have : noB (c :: l) = c :: noB l := by unfold noB; rw [List.filter_cons_of_pos (by simp [h])]
      rw [this, wkR13, if_neg h, ih]; conv => rhs; rw [wkR13, if_neg h]
theorem refResolve (l : List Int) (s : Int) (hl : l.length ≤ 3000) : Ev (fun k => selvedgeref16_Resolve.f k l s) (wkRes s l) := by
  unfold selvedgeref16_Resolve.f
  have out : ∀ (r : List Int), r.length = cnt l → Ev (fun k => selvedgeref16_Resolve.l1 k l r ([] : List Int) 0 0) (wkMg l r) := by
    intro r hr
    suffices h : ∀ (rest dn o z y : List Int), l = dn ++ rest → o.length = dn.length → r = y ++ z → z.length = cnt rest → Ev (fun k => selvedgeref16_Resolve.l1 k l r o y.length dn.length) (o ++ wkMg rest z) from h l [] [] r [] rfl rfl rfl hr
    intro rest
    induction rest with
    | nil =>
      intro dn o z y h ho hry hz
      have : l.length = dn.length := by rw [h, List.append_nil]
      refine E.succ ?_
      simp only [selvedgeref16_Resolve.l1]
      exact E.neg (by omega) (E.ret (by simp [wkMg]))
    | cons c rest ih =>
      intro dn o z y h ho hry hz
      have hlen : l.length = dn.length + (rest.length + 1) := by rw [h, mid_len]
      have hc : rd l dn.length = c := by rw [h]; exact E.rd_mid _ _ _
      refine E.succ ?_
      simp only [selvedgeref16_Resolve.l1]
      refine E.pos (by omega) (E.pos (by omega) ?_)
      rw [hc, E.w64 (x := (dn.length : Int) + 1) (by omega) (by omega)]
      have hdn : l = (dn ++ [c]) ++ rest := by rw [← snoc_app]; exact h
      by_cases h10 : c = 10
      · rw [cnt, if_pos h10] at hz
        refine E.pos h10 (E.pos (by omega) ?_)
        have H := ih (dn ++ [c]) (o ++ [10]) z y hdn (by simp [ho]) hry hz
        rw [snoc_len] at H
        refine E.same H ?_
        rw [wkMg, if_pos h10]; simp
      · rw [cnt, if_neg h10] at hz
        cases z with
        | nil => simp at hz
        | cons x z =>
          rw [List.length_cons] at hz
          have hx : rd r y.length = x := by rw [hry]; exact E.rd_mid _ _ _
          have hrl : r.length = y.length + (z.length + 1) := by rw [hry, mid_len]
          have hcl : cnt l ≤ l.length := by rw [← cntR13 l 0 0, wkPlcR13 l 0 0 0]; exact wkPlc_le l 0
          refine E.neg h10 (E.pos (by omega) (E.pos (by omega) (E.pos (by omega) ?_)))
          rw [hx, E.w64 (x := (y.length : Int) + 1) (by omega) (by omega)]
          have H := ih (dn ++ [c]) (o ++ [x]) z (y ++ [x]) hdn (by simp [ho]) (by rw [hry]; simp) (by omega)
          rw [snoc_len, snoc_len] at H
          refine E.same H ?_
          rw [wkMg, if_neg h10, List.headD_cons, List.tail_cons]; simp
  have j1 : ∀ s', s' = wkSos s → Ev (fun k => selvedgeref16_Resolve.j1 k l s' (noB l)) (wkRes s l) := by
    intro s' hs
    have hn := noB_le l
    refine E.succ ?_
    simp only [selvedgeref16_Resolve.j1]
    have h1 : Ev (fun k => selvedgeref16_w1.f k (noB l) s') (rW1 s' (noB l)) := by
      unfold selvedgeref16_w1.f
      exact ref1 (noB l) [] s' (by rw [List.nil_append]; omega)
    have l1 : (rW1 s' (noB l)).length = (noB l).length := by
      have : ∀ (z : List Int) b, (rW1 b z).length = z.length := by
        intro z; induction z with
        | nil => intro b; rfl
        | cons c z ih => intro b; rw [rW1, List.length_cons, ih, List.length_cons]
      exact this _ _
    refine E.bnd h1 ?_
    have h2 : Ev (fun k => selvedgeref16_w2.f k (rW1 s' (noB l)) s') (wkR13 s' s' l) := by
      unfold selvedgeref16_w2.f
      have H := ref2a (rW1 s' (noB l)) [] s' (by rw [List.nil_append]; omega)
      rwa [List.nil_append, List.nil_append, refR13 _ _ _ (noB_ne l), r13_noB] at H
    refine E.bnd h2 ?_
    have hc : cnt l ≤ l.length := by rw [← cntR13 l 0 0, wkPlcR13 l 0 0 0]; exact wkPlc_le l 0
    have l2 : (wkR13 s' s' l).length = cnt l := cntR13 _ _ _
    refine E.bnd (ref4f _ (by omega)) ?_
    have h5 : Ev (fun k => selvedgeref16_w5.f k (wkW4 10 (wkR13 s' s' l))) (wkW5 10 (wkW4 10 (wkR13 s' s' l))) := by
      unfold selvedgeref16_w5.f
      exact ref5a _ (wkW4 10 (wkR13 s' s' l)) [] (Nat.le_refl _) (by rw [List.nil_append, wkW4_len]; omega)
    refine E.bnd h5 ?_
    have h7 : Ev (fun k => selvedgeref16_w7.f k (wkW5 10 (wkW4 10 (wkR13 s' s' l))) s') (wkW7 s' (wkW5 10 (wkW4 10 (wkR13 s' s' l)))) := by
      unfold selvedgeref16_w7.f
      exact ref7 (wkW5 10 (wkW4 10 (wkR13 s' s' l))) [] s' (by rw [List.nil_append, wkW5_len, wkW4_len]; omega)
    refine E.bnd h7 ?_
    refine E.same (out _ (by rw [wkW7_len, wkW5_len, wkW4_len, cntR13])) ?_
    unfold wkRes
    rw [hs]
  suffices h : ∀ (rest dn : List Int), l = dn ++ rest → Ev (fun k => selvedgeref16_Resolve.l0 k l s (noB dn) dn.length) (wkRes s l) from h l [] rfl
  intro rest
  induction rest with
  | nil =>
    intro dn h
    have e : l = dn := by rw [h, List.append_nil]
    refine E.succ ?_
    simp only [selvedgeref16_Resolve.l0]
    refine E.neg (by rw [e]; omega) ?_
    rw [← e]
    by_cases hs : s = 2
    · exact E.pos hs (j1 s (by unfold wkSos; rw [if_pos hs]; exact hs))
    · exact E.neg hs (j1 1 (by unfold wkSos; rw [if_neg hs]))
  | cons c rest ih =>
    intro dn h
    have hlen : l.length = dn.length + (rest.length + 1) := by rw [h, mid_len]
    have hc : rd l dn.length = c := by rw [h]; exact E.rd_mid _ _ _
    have hn := noB_le dn
    refine E.succ ?_
    simp only [selvedgeref16_Resolve.l0]
    refine E.pos (by omega) (E.pos (by omega) ?_)
    rw [hc, E.w64 (by omega) (by omega)]
    have H := ih (dn ++ [c]) (by rw [← snoc_app]; exact h)
    rw [snoc_len] at H
    by_cases h10 : c = 10
    · have : noB (dn ++ [c]) = noB dn := by unfold noB; rw [List.filter_append, List.filter_cons_of_neg (by simp [h10])]; simp
      rw [this] at H
      exact E.pos h10 H
    · have : noB (dn ++ [c]) = noB dn ++ [c] := by unfold noB; rw [List.filter_append, List.filter_cons_of_pos (by simp [h10])]; simp
      rw [this] at H
      exact E.neg h10 (E.pos (by omega) H)
end Go.Proofs.Ytnpcfiahmadkjaa.A
