import Derived.Test.YtdkbkecnhebanaaC
/-! The first strong class, of the program and of the reference. -/
namespace Go.Proofs.Ytdkbkecnhebanaa.X
open Go.RowKit Go.Proofs.YtdkbkecnhebanaaW.PrintWords Go.Proofs.YtdkbkecnhebanaaW.PrintLast Go.Proofs.YtdkbkecnhebanaaW.PrintMore
set_option linter.unusedVariables false
set_option linter.unusedSimpArgs false
theorem pdi_skip : ∀ (t : List Int) (d off e : Nat), pdiAt t d = some off → off < t.length ∧ pdiAt t (d + 1 + e) = (pdiAt (t.drop (off + 1)) e).map (· + (off + 1)) := by
  intro t
  induction t with
  | nil => intro d off e h; cases h
  | cons c t ih =>
    intro d off e h
    by_cases q2 : c = 11
    · have : pdiAt (c :: t) d = none := if_pos q2
      rw [this] at h; cases h
    · by_cases q1 : 20 ≤ c ∧ c ≤ 22
      · have ep : ∀ d, pdiAt (c :: t) d = (pdiAt t (d + 1)).map (· + 1) := fun d => by show (if _ then _ else _) = _; rw [if_neg q2, if_pos q1]
        rw [ep] at h
        obtain ⟨o', ho', rfl⟩ := Option.map_eq_some_iff.1 h
        have := ih (d + 1) o' e ho'
        rw [ep, show d + 1 + e + 1 = d + 1 + 1 + e by omega, this.2, Option.map_map]
        exact ⟨by simp; omega, rfl⟩
      · by_cases q3 : c = 23
        · have ep1 : ∀ d, pdiAt (c :: t) (d + 1) = (pdiAt t d).map (· + 1) := fun d => by show (if _ then _ else _) = _; rw [if_neg q2, if_neg q1, if_pos q3]
          have ep0 : pdiAt (c :: t) 0 = some 0 := by show (if _ then _ else _) = _; rw [if_neg q2, if_neg q1, if_pos q3]
          cases d with
          | zero =>
            rw [ep0] at h
            injection h with h
            subst h
            rw [show 0 + 1 + e = e + 1 by omega, ep1]
            exact ⟨by simp, rfl⟩
          | succ d =>
            rw [ep1] at h
            obtain ⟨o', ho', rfl⟩ := Option.map_eq_some_iff.1 h
            have := ih d o' e ho'
            rw [show d + 1 + 1 + e = (d + 1 + e) + 1 by omega, ep1, this.2, Option.map_map]
            exact ⟨by simp; omega, rfl⟩
        · have ep : ∀ d, pdiAt (c :: t) d = (pdiAt t d).map (· + 1) := fun d => by show (if _ then _ else _) = _; rw [if_neg q2, if_neg q1, if_neg q3]
          rw [ep] at h
          obtain ⟨o', ho', rfl⟩ := Option.map_eq_some_iff.1 h
          have := ih d o' e ho'
          rw [ep, this.2, Option.map_map]
          exact ⟨by simp; omega, rfl⟩
theorem dir_skip (stop : Bool) : ∀ (t : List Int) (d e : Nat), dirS stop t (d + 1 + e) = match pdiAt t d with
    | some off => dirS stop (t.drop (off + 1)) e
    | none => false := by
  intro t
  induction t with
  | nil => intro d e; rfl
  | cons c t ih =>
    intro d e
    by_cases q2 : c = 11
    · have e1 : pdiAt (c :: t) d = none := if_pos q2
      rw [e1]
      exact if_pos q2
    · by_cases q1 : 20 ≤ c ∧ c ≤ 22
      · have ep : pdiAt (c :: t) d = (pdiAt t (d + 1)).map (· + 1) := by show (if _ then _ else _) = _; rw [if_neg q2, if_pos q1]
        have ed : dirS stop (c :: t) (d + 1 + e) = dirS stop t (d + 1 + 1 + e) := by
          show (if _ then _ else _) = _
          rw [if_neg q2, if_pos q1, show d + 1 + e + 1 = d + 1 + 1 + e by omega]
        rw [ep, ed, ih]
        cases pdiAt t (d + 1) <;> rfl
      · by_cases q3 : c = 23
        · have ed1 : ∀ d', dirS stop (c :: t) (d' + 1) = dirS stop t d' := fun d' => by show (if _ then _ else _) = _; rw [if_neg q2, if_neg q1, if_pos q3]
          cases d with
          | zero =>
            have ep0 : pdiAt (c :: t) 0 = some 0 := by show (if _ then _ else _) = _; rw [if_neg q2, if_neg q1, if_pos q3]
            rw [ep0, show 0 + 1 + e = e + 1 by omega, ed1]
            rfl
          | succ d =>
            have ep1 : pdiAt (c :: t) (d + 1) = (pdiAt t d).map (· + 1) := by show (if _ then _ else _) = _; rw [if_neg q2, if_neg q1, if_pos q3]
            rw [ep1, show d + 1 + 1 + e = (d + 1 + e) + 1 by omega, ed1, ih]
            cases pdiAt t d <;> rfl
        · have ep : pdiAt (c :: t) d = (pdiAt t d).map (· + 1) := by show (if _ then _ else _) = _; rw [if_neg q2, if_neg q1, if_neg q3]
          have ed : dirS stop (c :: t) (d + 1 + e) = dirS stop t (d + 1 + e) := by
            show (if _ then _ else _) = _
            rw [if_neg q2, if_neg q1, if_neg q3, if_neg (fun q => by omega), if_neg (fun q => by omega)]
          rw [ep, ed, ih]
          cases pdiAt t d <;> rfl
/-- Where a look for a strong class ends. -/
def EndAt (stop : Bool) (l : List Int) (i te : Int) : Prop := te = if stop = true then mtv i (pdiAt (l.drop i.toNat) 0) l.length else (l.length : Int)
theorem pdiAt_lt : ∀ (t : List Int) (d off : Nat), pdiAt t d = some off → off < t.length := fun t d off h => (pdi_skip t d off 0 h).1
theorem EndAt.le {stop : Bool} {l : List Int} {i te : Int} (h : EndAt stop l i te) (h0 : 0 ≤ i) (hi : i ≤ l.length) : i ≤ te ∧ te ≤ l.length := by
  unfold EndAt at h
  cases stop with
  | false => rw [if_neg (by decide)] at h; omega
  | true =>
    rw [if_pos rfl] at h
    cases hp : pdiAt (l.drop i.toNat) 0 with
    | none => rw [hp] at h; simp only [mtv] at h; omega
    | some n =>
      rw [hp] at h
      have := pdiAt_lt _ _ _ hp
      rw [List.length_drop] at this
      simp only [mtv] at h
      omega
theorem first_ev (stop : Bool) (l : List Int) (hl : l.length ≤ 1000000) (te : Int) : ∀ (d : Nat) (i : Int), 0 ≤ i → i ≤ l.length → l.length - i.toNat ≤ d → EndAt stop l i te →
    Ev (fun k => explicit_text_first.l0 k te i l (mtOf l)) (dirI (dirS stop (l.drop i.toNat) 0)) := by
  intro d
  induction d with
  | zero =>
    intro i h0 hi hd he
    have hle := he.le h0 hi
    refine E.succ (E.neg (by omega) (E.ret ?_))
    rw [List.drop_of_length_le (by omega)]
    rfl
  | succ d ih =>
    intro i h0 hi hd he
    have hle := he.le h0 hi
    cases hs : l.drop i.toNat with
    | nil =>
      have : l.length ≤ i.toNat := List.drop_eq_nil_iff.1 hs
      refine E.succ (E.neg (by omega) (E.ret rfl))
    | cons c t =>
      obtain ⟨hc, hlt, ht⟩ := rd_head h0 hs
      have hml := mtOf_len l
      have hw : wrap64 (i + 1) = i + 1 := E.w64 (by omega) (by omega)
      have hnx : ∀ {x : Int}, 0 ≤ x → x ≤ l.length → i < x → EndAt stop l x te → Ev (fun k => explicit_text_first.l0 k te x l (mtOf l)) (dirI (dirS stop (l.drop x.toNat) 0)) := fun hx0 hx1 hx2 hx3 => ih _ hx0 hx1 (by omega) hx3
      by_cases q1 : 20 ≤ c ∧ c ≤ 22
      · have hne : c ≠ 11 := by omega
        have hin : explicit_initiator.f c = some true := by unfold explicit_initiator.f; rw [if_pos q1.1, decide_eq_true q1.2]
        have ep : pdiAt (c :: t) 0 = (pdiAt t 1).map (· + 1) := by show (if _ then _ else _) = _; rw [if_neg hne, if_pos q1]
        have ed : dirS stop (c :: t) 0 = dirS stop t (0 + 1 + 0) := by show (if _ then _ else _) = _; rw [if_neg hne, if_pos q1]
        rw [ed, dir_skip]
        have hm := mtOf_at l i h0 hlt (by rw [hc]; exact q1)
        rw [ht] at hm
        have hto : i < te := by
          unfold EndAt at he
          rw [hs, ep] at he
          cases stop with
          | false => rw [if_neg (by decide)] at he; omega
          | true =>
            rw [if_pos rfl] at he
            cases hp : pdiAt t 1 with
            | none => rw [hp] at he; simp only [Option.map_none, mtv] at he; omega
            | some n => rw [hp] at he; simp only [Option.map_some, mtv] at he; omega
        refine E.succ (E.pos hto (E.pos h0 (E.pos hlt (E.neg (by rw [hc]; exact hne) (E.bno (by rw [hc]; exact hin) (E.pos rfl (E.pos (by omega) (E.succ ?_))))))))
        cases hp : pdiAt t 0 with
        | none =>
          rw [hp] at hm
          have hm : rd (mtOf l) i = -1 := hm
          exact E.pos (by rw [hm]; rfl) (E.ret rfl)
        | some off =>
          rw [hp] at hm
          have hm : rd (mtOf l) i = i + 1 + (off : Int) := hm
          have hof := pdi_skip t 0 off 0 hp
          have htl : t.length = l.length - (i + 1).toNat := by rw [← ht, List.length_drop]
          have hw2 : wrap64 (i + 1 + (off : Int) + 1) = i + 1 + (off : Int) + 1 := E.w64 (by omega) (by omega)
          refine E.neg (by rw [hm]; simp only [decide_eq_true_eq]; omega) (E.bno (by rw [hc]; exact hin) (E.pos rfl (E.pos h0 (E.pos (by omega) ?_))))
          rw [hm, hw2]
          have hdr : l.drop (i + 1 + (off : Int) + 1).toNat = t.drop (off + 1) := by
            rw [← ht, List.drop_drop]; congr 1; omega
          have := hnx (x := i + 1 + (off : Int) + 1) (by omega) (by omega) (by omega) (by
            unfold EndAt at he ⊢
            rw [hs, ep, show (1 : Nat) = 0 + 1 + 0 from rfl, hof.2] at he
            rw [hdr]
            cases stop with
            | false => exact he
            | true =>
              rw [if_pos rfl] at he ⊢
              rw [he]
              cases pdiAt (t.drop (off + 1)) 0 with
              | none => rfl
              | some n => simp only [Option.map_some, mtv]; omega)
          rw [hdr] at this
          exact this
      · have hin : explicit_initiator.f c = some false := by
          unfold explicit_initiator.f
          by_cases q2 : c ≥ 20
          · rw [if_pos q2, decide_eq_false (fun q => q1 ⟨q2, q⟩)]
          · rw [if_neg q2]
        have step : c ≠ 11 → (c = 23 → stop = false) → EndAt stop l (i + 1) te ∧ i < te := fun q2 q3 => by
          unfold EndAt at he ⊢
          rw [hs] at he
          rw [ht]
          cases stop with
          | false => rw [if_neg (by decide)] at he ⊢; exact ⟨he, by omega⟩
          | true =>
            rw [if_pos rfl] at he ⊢
            have ep : pdiAt (c :: t) 0 = (pdiAt t 0).map (· + 1) := by show (if _ then _ else _) = _; rw [if_neg q2, if_neg q1, if_neg (fun h => by cases q3 h)]
            rw [ep] at he
            cases hp : pdiAt t 0 with
            | none => rw [hp] at he; simp only [Option.map_none, mtv] at he ⊢; exact ⟨he, by omega⟩
            | some n => rw [hp] at he; simp only [Option.map_some, mtv] at he ⊢; exact ⟨by omega, by omega⟩
        by_cases q2 : c = 11
        · have ed : dirS stop (c :: t) 0 = false := if_pos q2
          rw [ed]
          by_cases hto : i < te
          · refine E.succ (E.pos hto (E.pos h0 (E.pos hlt (E.pos (by rw [hc]; exact q2) (E.succ ?_)))))
            exact E.ret rfl
          · exact E.succ (E.neg hto (E.ret rfl))
        · by_cases q3 : c = 23 ∧ stop = true
          · have ed : dirS stop (c :: t) 0 = false := by show (if _ then _ else _) = _; rw [if_neg q2, if_neg q1, if_pos q3.1]; exact if_pos q3.2
            have hto : ¬ i < te := by
              unfold EndAt at he
              have ep0 : pdiAt (c :: t) 0 = some 0 := by show (if _ then _ else _) = _; rw [if_neg q2, if_neg q1, if_pos q3.1]
              rw [hs, ep0, if_pos q3.2] at he
              simp only [mtv] at he
              omega
            rw [ed]
            exact E.succ (E.neg hto (E.ret rfl))
          · obtain ⟨he2, hto⟩ := step q2 (fun h => by cases stop with
              | false => rfl
              | true => exact absurd ⟨h, rfl⟩ q3)
            refine E.succ (E.pos hto (E.pos h0 (E.pos hlt (E.neg (by rw [hc]; exact q2) (E.bno (by rw [hc]; exact hin) (E.neg (by decide) (E.succ ?_)))))))
            refine E.bno (by rw [hc]; exact hin) (E.neg (by decide) ?_)
            have hnx' := hnx (x := i + 1) (by omega) (by omega) (by omega) he2
            rw [ht] at hnx'
            by_cases q4 : c = 1
            · have ed : dirS stop (c :: t) 0 = false := by show (if _ then _ else _) = _; rw [if_neg q2, if_neg q1, if_neg (by omega), if_pos ⟨rfl, q4⟩]
              rw [ed]
              exact E.pos (by rw [hc]; exact q4) (E.ret rfl)
            · refine E.neg (by rw [hc]; exact q4) ?_
              by_cases q5 : c = 2 ∨ c = 3
              · have ed : dirS stop (c :: t) 0 = true := by show (if _ then _ else _) = _; rw [if_neg q2, if_neg q1, if_neg (by omega), if_neg (fun q => q4 q.2), if_pos ⟨rfl, q5⟩]
                have hst : explicit_strong.f c = some true := by unfold explicit_strong.f; rw [if_pos (by omega), decide_eq_true (by omega)]
                rw [ed]
                exact E.bno (by rw [hc]; exact hst) (E.pos rfl (E.ret rfl))
              · have ed : dirS stop (c :: t) 0 = dirS stop t 0 := by
                  show (if _ then _ else _) = _
                  rw [if_neg q2, if_neg q1]
                  by_cases q6 : c = 23
                  · rw [if_pos q6]; exact if_neg (fun h => q3 ⟨q6, h⟩)
                  · rw [if_neg q6, if_neg (fun q => q4 q.2), if_neg (fun q => q5 q.2)]
                have hst : explicit_strong.f c = some false := by
                  unfold explicit_strong.f
                  by_cases q6 : c ≥ 1
                  · rw [if_pos q6, decide_eq_false (by omega)]
                  · rw [if_neg q6]
                rw [ed]
                refine E.bno (by rw [hc]; exact hst) (E.neg (by decide) ?_)
                rw [hw]
                exact hnx'
end Go.Proofs.Ytdkbkecnhebanaa.X
