import Derived.Test.YtnpcfiahmadkjaaB
/-! Two laws of chapter 16, for any row: they are asked by the closed one too. -/
namespace Go.Proofs.Ytnpcfiahmadkjaa.A
open Go.RowKit Go.Proofs.Ytnpcfiahmadkjaa.X Go.Proofs.YtnpcfiahmadkjaaW.PrintWords Go.Proofs.YtnpcfiahmadkjaaW.PrintLast Go.Proofs.Ytnpcfiahmadkjaa
set_option linter.unusedVariables false
set_option linter.unusedSimpArgs false

theorem weakResolves (l : List Int) (s : Int) : Ev (fun k => selvedgelaw16_WeakResolves.f k l s) true := by
  unfold selvedgelaw16_WeakResolves.f
  by_cases h : (l.length : Int) > 3000
  · exact E.pos h (E.bnd works_ev (E.ret rfl))
  · exact E.neg h (E.bno (own_some (by omega)) (E.bno (res_some s (by omega)) (E.bnd (refResolve l s (by omega)) (E.bnd (is_self _ (by rw [wkRes_len]; omega)) (E.pos rfl (E.bnd (is_self _ (by omega)) (E.pos rfl (E.bnd works_ev (E.ret rfl)))))))))
theorem endsLoop (l w : List Int) (hl : l.length ≤ 3000) (hwl : w.length = l.length) : ∀ (rest rw_ dn dw : List Int) (st : Int) (ar : Bool), l = dn ++ rest → w = dw ++ rw_ → dn.length = dw.length → eOk st ar rest rw_ →
    Ev (fun k => selvedgelaw16_WeakEnds.l0 k l w st ar dn.length) true := by
  intro rest
  induction rest with
  | nil =>
    intro rw_ dn dw st ar h1 h2 h3 h4
    refine E.succ ?_
    simp only [selvedgelaw16_WeakEnds.l0]
    exact E.neg (by rw [h1, List.append_nil]; omega) (E.bnd works_ev (E.ret rfl))
  | cons c rest ih =>
    intro rw_ dn dw st ar h1 h2 h3 h4
    cases rw_ with
    | nil => exact h4.elim
    | cons x rw_ =>
      have hlen : l.length = dn.length + (rest.length + 1) := by rw [h1, mid_len]
      have hc : rd l dn.length = c := by rw [h1]; exact E.rd_mid _ _ _
      have hx : rd w dn.length = x := by rw [h2]; exact E.rd_mid' (by rw [h3])
      obtain ⟨g1, g2, g3, g4, g5, g6, g7⟩ := h4
      have go : ∀ st' ar', (if c = 1 ∨ c = 2 then c else if c = 3 then 2 else st) = st' → (if c = 1 ∨ c = 2 then false else if c = 3 then true else ar) = ar' → Ev (fun k => selvedgelaw16_WeakEnds.l0 k l w st' ar' ((dn.length : Int) + 1)) true := by
        intro st' ar' e1 e2
        rw [e1, e2] at g7
        have H := ih rw_ (dn ++ [c]) (dw ++ [x]) st' ar' (by rw [← snoc_app]; exact h1) (by rw [← snoc_app]; exact h2) (by simp [h3]) g7
        rwa [snoc_len] at H
      have j5 : ∀ b : Bool, (c ≠ 1 ∧ c ≠ 2 ∧ c ≠ 3) → (b = true ∨ x = c) → Ev (fun k => selvedgelaw16_WeakEnds.j5 k l w st ar dn.length b) true := by
        intro b hn hb
        have H := go st ar (by rw [if_neg (by omega), if_neg (by omega)]) (by rw [if_neg (by omega), if_neg (by omega)])
        refine E.succ ?_
        simp only [selvedgelaw16_WeakEnds.j5]
        rw [E.w64 (by omega) (by omega), hc, hx]
        cases b with
        | true => exact E.pos rfl H
        | false => exact E.neg (by decide) (E.pos (by omega) (E.pos (by omega) (E.pos (by omega) (E.pos (hb.resolve_left (by decide)) H))))
      have j4 : ∀ b : Bool, (b = true ↔ c = 1 ∨ c = 2) → Ev (fun k => selvedgelaw16_WeakEnds.j4 k l w st ar dn.length c b) true := by
        intro b hb
        refine E.succ ?_
        simp only [selvedgelaw16_WeakEnds.j4]
        rw [E.w64 (by omega) (by omega), hc, hx]
        by_cases h12 : c = 1 ∨ c = 2
        · exact E.pos (hb.2 h12) (E.pos (by omega) (E.pos (by omega) (E.pos (by omega) (E.pos (g3 h12) (go c false (if_pos h12) (if_pos h12))))))
        refine E.neg (fun e => h12 (hb.1 e)) ?_
        by_cases e3 : c = 3
        · exact E.pos e3 (E.pos (by omega) (E.pos (by omega) (E.pos (g4 e3) (go 2 true (by rw [if_neg h12, if_pos e3]) (by rw [if_neg h12, if_pos e3])))))
        refine E.neg e3 ?_
        by_cases e4 : c = 4
        · have H := go st ar (by rw [if_neg h12, if_neg e3]) (by rw [if_neg h12, if_neg e3])
          have a := g5 e4
          refine E.pos e4 (E.pos (by omega) (E.pos (by omega) ?_))
          have hne : ¬((ar != (x == 7)) = true) := by
            have := a.1
            cases ar with
            | true => have e7 := this.1 rfl; rw [e7]; decide
            | false =>
              have : x ≠ 7 := fun e => by have := this.2 e; exact absurd this (by decide)
              simp [this]
          refine E.neg hne ?_
          cases ar with
          | true => exact E.pos rfl H
          | false =>
            refine E.neg (by decide) (E.neg ?_ H)
            have := a.2 rfl
            by_cases ex : x = 1
            · have es := this.1 ex
              rw [ex, es]; decide
            · have es : st ≠ 1 := fun e => ex (this.2 e)
              rw [beq_eq_false_iff_ne.mpr ex, beq_eq_false_iff_ne.mpr es]; decide
        refine E.neg e4 ?_
        have hn : c ≠ 1 ∧ c ≠ 2 ∧ c ≠ 3 := by omega
        by_cases e5 : c = 5
        · exact E.pos e5 (j5 _ hn (.inl (by rw [e5]; rfl)))
        refine E.neg e5 ?_
        by_cases e6 : c = 6
        · exact E.pos e6 (j5 _ hn (.inl (by rw [e6]; rfl)))
        refine E.neg e6 ?_
        by_cases e8 : c = 8
        · exact E.pos e8 (j5 _ hn (.inl (by rw [e8]; rfl)))
        refine E.neg e8 (j5 _ hn ?_)
        by_cases e9 : c = 9
        · exact .inl (by rw [e9]; rfl)
        · exact .inr (g6 (by omega))
      have j3 : Ev (fun k => selvedgelaw16_WeakEnds.j3 k l w st ar dn.length) true := by
        refine E.succ ?_
        simp only [selvedgelaw16_WeakEnds.j3]
        rw [hc]
        refine E.pos (by omega) (E.pos (by omega) ?_)
        by_cases e1 : c = 1
        · exact E.pos e1 (j4 _ (by simp; omega))
        · exact E.neg e1 (j4 _ (by simp; omega))
      refine E.succ ?_
      simp only [selvedgelaw16_WeakEnds.l0]
      rw [hx]
      refine E.pos (by omega) (E.pos (by omega) (E.pos (by omega) (E.neg (by omega) (E.neg (by omega) (E.neg (by omega) (E.neg (by omega) ?_))))))
      refine E.succ ?_
      simp only [selvedgelaw16_WeakEnds.j2]
      refine E.neg (by simp; omega) ?_
      by_cases e4 : x = 4
      · have a := g2 e4
        exact E.pos e4 (E.neg a.1 (E.neg (by rw [a.2]; decide) j3))
      · exact E.neg e4 j3
theorem weakEnds (l : List Int) (s : Int) : Ev (fun k => selvedgelaw16_WeakEnds.f k l s) true := by
  unfold selvedgelaw16_WeakEnds.f
  by_cases h : (l.length : Int) > 3000
  · exact E.pos h (E.bnd works_ev (E.ret rfl))
  · have hw := wkRes_len s l
    refine E.neg h (E.bno (res_some s (by omega)) (E.pos (by rw [hw]) ?_))
    have H : Ev (fun k => selvedgelaw16_WeakEnds.j0 k l (wkRes s l) (wkSos s)) true := by
      refine E.succ ?_
      simp only [selvedgelaw16_WeakEnds.j0]
      exact endsLoop l (wkRes s l) (by omega) hw l (wkRes s l) [] [] _ _ rfl rfl rfl (eOk_all s l)
    by_cases hs : s = 2
    · rw [show wkSos s = 2 from if_pos hs] at H
      exact E.pos hs H
    · rw [show wkSos s = 1 from if_neg hs] at H
      exact E.neg hs H
end Go.Proofs.Ytnpcfiahmadkjaa.A
