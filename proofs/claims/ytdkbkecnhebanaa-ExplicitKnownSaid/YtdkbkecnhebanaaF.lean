import Derived.Test.YtdkbkecnhebanaaD
/-! The first strong class, of the reference. -/
namespace Go.Proofs.Ytdkbkecnhebanaa.X
open Go.RowKit Go.Proofs.YtdkbkecnhebanaaW.PrintWords Go.Proofs.YtdkbkecnhebanaaW.PrintLast Go.Proofs.YtdkbkecnhebanaaW.PrintMore
set_option linter.unusedVariables false
set_option linter.unusedSimpArgs false
def StrOk (v : Int) (b : Bool) : Prop := decide (v = 2 ∨ v = 3) = b
theorem strong_ev (stop : Bool) (l : List Int) (hl : l.length ≤ 1000000) (te : Int) : ∀ (d : Nat) (i : Int), 0 ≤ i → i ≤ l.length → l.length - i.toNat ≤ d → EndAt stop l i te →
    ∃ v, StrOk v (dirS stop (l.drop i.toNat) 0) ∧ Ev (fun k => selvedgeref14_strong.l0 k l (mtOf l) te i) v := by
  intro d
  induction d with
  | zero =>
    intro i h0 hi hd he
    have hle := he.le h0 hi
    refine ⟨14, ?_, E.succ (E.neg (by omega) (E.succ ?_))⟩
    · rw [List.drop_of_length_le (by omega)]; rfl
    · exact E.ret rfl
  | succ d ih =>
    intro i h0 hi hd he
    have hle := he.le h0 hi
    have out : ¬ i < te → Ev (fun k => selvedgeref14_strong.l0 k l (mtOf l) te i) 14 := fun h => by
      refine E.succ (E.neg h (E.succ ?_))
      exact E.ret rfl
    cases hs : l.drop i.toNat with
    | nil =>
      have : l.length ≤ i.toNat := List.drop_eq_nil_iff.1 hs
      exact ⟨14, rfl, out (by omega)⟩
    | cons c t =>
      obtain ⟨hc, hlt, ht⟩ := rd_head h0 hs
      have hml := mtOf_len l
      have hw : wrap64 (i + 1) = i + 1 := E.w64 (by omega) (by omega)
      have hnx : ∀ {x : Int}, 0 ≤ x → x ≤ l.length → i < x → EndAt stop l x te → ∃ v, StrOk v (dirS stop (l.drop x.toNat) 0) ∧ Ev (fun k => selvedgeref14_strong.l0 k l (mtOf l) te x) v := fun hx0 hx1 hx2 hx3 => ih _ hx0 hx1 (by omega) hx3
      by_cases q1 : 20 ≤ c ∧ c ≤ 22
      · have hne : c ≠ 11 := by omega
        have hin : selvedgeref14_Initiator.f c = some true := by rw [initiator14, decide_eq_true q1]
        have ep : pdiAt (c :: t) 0 = (pdiAt t 1).map (· + 1) := by show (if _ then _ else _) = _; rw [if_neg hne, if_pos q1]
        have ed : dirS stop (c :: t) 0 = dirS stop t (0 + 1 + 0) := by show (if _ then _ else _) = _; rw [if_neg hne, if_pos q1]
        rw [ed, dir_skip]
        have hm := mtOf_at l i h0 hlt (by rw [hc]; exact q1)
        rw [ht] at hm
        have hto : i < te := by
          unfold EndAt at he
          rw [hs, ep] at he
          cases stop with
          | false => rw [if_neg (by decide)] at he; omega
          | true =>
            rw [if_pos rfl] at he
            cases hp : pdiAt t 1 with
            | none => rw [hp] at he; simp only [Option.map_none, mtv] at he; omega
            | some n => rw [hp] at he; simp only [Option.map_some, mtv] at he; omega
        have go : ∀ v, Ev (fun k => selvedgeref14_strong.j3 k l (mtOf l) te i (decide (rd (mtOf l) i < 0))) v → Ev (fun k => selvedgeref14_strong.l0 k l (mtOf l) te i) v := fun v hv => by
          refine E.succ (E.pos hto (E.pos h0 (E.pos hlt ?_)))
          have e1 : (rd l i != 11) = true := by rw [hc]; simpa using hne
          rw [e1]
          refine E.succ ?_
          refine E.pos h0 (E.pos hlt (E.neg (by rw [hc]; omega) (E.neg (by rw [hc]; omega) ?_)))
          have e2 : (rd l i == 3) = false := by rw [hc]; simp; omega
          rw [e2]
          refine E.succ ?_
          exact E.pos h0 (E.pos hlt (E.bno (by rw [hc]; exact hin) (E.pos rfl (E.pos (by omega) hv))))
        cases hp : pdiAt t 0 with
        | none =>
          rw [hp] at hm
          have hm : rd (mtOf l) i = -1 := hm
          refine ⟨14, rfl, go _ (E.succ (E.pos (by rw [hm]; rfl) (E.ret rfl)))⟩
        | some off =>
          rw [hp] at hm
          have hm : rd (mtOf l) i = i + 1 + (off : Int) := hm
          have hof := pdi_skip t 0 off 0 hp
          have htl : t.length = l.length - (i + 1).toNat := by rw [← ht, List.length_drop]
          have hw2 : wrap64 (i + 1 + (off : Int) + 1) = i + 1 + (off : Int) + 1 := E.w64 (by omega) (by omega)
          have hdr : l.drop (i + 1 + (off : Int) + 1).toNat = t.drop (off + 1) := by
            rw [← ht, List.drop_drop]; congr 1; omega
          obtain ⟨v, hv1, hv2⟩ := hnx (x := i + 1 + (off : Int) + 1) (by omega) (by omega) (by omega) (by
            unfold EndAt at he ⊢
            rw [hs, ep, show (1 : Nat) = 0 + 1 + 0 from rfl, hof.2] at he
            rw [hdr]
            cases stop with
            | false => exact he
            | true =>
              rw [if_pos rfl] at he ⊢
              rw [he]
              cases pdiAt (t.drop (off + 1)) 0 with
              | none => rfl
              | some n => simp only [Option.map_some, mtv]; omega)
          rw [hdr] at hv1
          refine ⟨v, hv1, go _ (E.succ (E.neg (by rw [hm]; simp only [decide_eq_true_eq]; omega) (E.pos h0 (E.pos hlt (E.bno (by rw [hc]; exact hin) (E.pos rfl (E.pos (by omega) ?_)))))))⟩
          rw [hm, hw2]
          exact hv2
      · have hin : selvedgeref14_Initiator.f c = some false := by rw [initiator14, decide_eq_false q1]
        have step : c ≠ 11 → (c = 23 → stop = false) → EndAt stop l (i + 1) te ∧ i < te := fun q2 q3 => by
          unfold EndAt at he ⊢
          rw [hs] at he
          rw [ht]
          cases stop with
          | false => rw [if_neg (by decide)] at he ⊢; exact ⟨he, by omega⟩
          | true =>
            rw [if_pos rfl] at he ⊢
            have ep : pdiAt (c :: t) 0 = (pdiAt t 0).map (· + 1) := by show (if _ then _ else _) = _; rw [if_neg q2, if_neg q1, if_neg (fun h => by cases q3 h)]
            rw [ep] at he
            cases hp : pdiAt t 0 with
            | none => rw [hp] at he; simp only [Option.map_none, mtv] at he ⊢; exact ⟨he, by omega⟩
            | some n => rw [hp] at he; simp only [Option.map_some, mtv] at he ⊢; exact ⟨by omega, by omega⟩
        by_cases q2 : c = 11
        · have ed : dirS stop (c :: t) 0 = false := if_pos q2
          rw [ed]
          refine ⟨14, rfl, ?_⟩
          by_cases hto : i < te
          · refine E.succ (E.pos hto (E.pos h0 (E.pos hlt ?_)))
            have e1 : (rd l i != 11) = false := by rw [hc, q2]; rfl
            rw [e1]
            refine E.succ ?_
            exact E.ret rfl
          · exact out hto
        · by_cases q3 : c = 23 ∧ stop = true
          · have ed : dirS stop (c :: t) 0 = false := by show (if _ then _ else _) = _; rw [if_neg q2, if_neg q1, if_pos q3.1]; exact if_pos q3.2
            have hto : ¬ i < te := by
              unfold EndAt at he
              have ep0 : pdiAt (c :: t) 0 = some 0 := by show (if _ then _ else _) = _; rw [if_neg q2, if_neg q1, if_pos q3.1]
              rw [hs, ep0, if_pos q3.2] at he
              simp only [mtv] at he
              omega
            rw [ed]
            exact ⟨14, rfl, out hto⟩
          · obtain ⟨he2, hto⟩ := step q2 (fun h => by cases stop with
              | false => rfl
              | true => exact absurd ⟨h, rfl⟩ q3)
            have go : ∀ v, Ev (fun k => selvedgeref14_strong.j2 k l (mtOf l) te i (decide (c = 1 ∨ c = 2 ∨ c = 3))) v → Ev (fun k => selvedgeref14_strong.l0 k l (mtOf l) te i) v := fun v hv => by
              refine E.succ (E.pos hto (E.pos h0 (E.pos hlt ?_)))
              have e1 : (rd l i != 11) = true := by rw [hc]; simpa using q2
              rw [e1]
              refine E.succ ?_
              refine E.pos h0 (E.pos hlt ?_)
              by_cases p1 : c = 1
              · rw [decide_eq_true (.inl p1)] at hv; exact E.pos (by rw [hc]; exact p1) hv
              · refine E.neg (by rw [hc]; exact p1) ?_
                by_cases p2 : c = 2
                · rw [decide_eq_true (.inr (.inl p2))] at hv; exact E.pos (by rw [hc]; exact p2) hv
                · refine E.neg (by rw [hc]; exact p2) ?_
                  by_cases p3 : c = 3
                  · rw [decide_eq_true (.inr (.inr p3))] at hv
                    have e2 : (rd l i == 3) = true := by rw [hc, p3]; rfl
                    rw [e2]; exact hv
                  · rw [decide_eq_false (by omega)] at hv
                    have e2 : (rd l i == 3) = false := by rw [hc]; simpa using p3
                    rw [e2]; exact hv
            by_cases q4 : c = 1 ∨ c = 2 ∨ c = 3
            · refine ⟨c, ?_, go c ?_⟩
              · unfold StrOk
                by_cases q5 : c = 1
                · have ed : dirS stop (c :: t) 0 = false := by show (if _ then _ else _) = _; rw [if_neg q2, if_neg q1, if_neg (by omega), if_pos ⟨rfl, q5⟩]
                  rw [ed]; exact decide_eq_false (by omega)
                · have ed : dirS stop (c :: t) 0 = true := by show (if _ then _ else _) = _; rw [if_neg q2, if_neg q1, if_neg (by omega), if_neg (fun q => q5 q.2), if_pos ⟨rfl, by omega⟩]
                  rw [ed]; exact decide_eq_true (by omega)
              · rw [decide_eq_true q4]
                refine E.succ ?_
                exact E.pos h0 (E.pos hlt (E.ret hc))
            · have ed : dirS stop (c :: t) 0 = dirS stop t 0 := by
                show (if _ then _ else _) = _
                rw [if_neg q2, if_neg q1]
                by_cases q6 : c = 23
                · rw [if_pos q6]; exact if_neg (fun h => q3 ⟨q6, h⟩)
                · rw [if_neg q6, if_neg (by omega), if_neg (by omega)]
              rw [ed]
              obtain ⟨v, hv1, hv2⟩ := hnx (x := i + 1) (by omega) (by omega) (by omega) he2
              rw [ht] at hv1
              refine ⟨v, hv1, go v ?_⟩
              rw [decide_eq_false q4]
              refine E.succ ?_
              refine E.pos h0 (E.pos hlt (E.bno (by rw [hc]; exact hin) (E.neg (by decide) (E.succ ?_))))
              refine E.pos h0 (E.pos hlt (E.bno (by rw [hc]; exact hin) (E.neg (by decide) ?_)))
              rw [hw]
              exact hv2
theorem right_f (v : Int) (b : Bool) (h : StrOk v b) : selvedgeref14_right.f v = some b := by
  unfold StrOk at h
  unfold selvedgeref14_right.f
  rw [← h]
  by_cases q : v = 2
  · rw [if_pos q, decide_eq_true (.inl q)]
  · rw [if_neg q]
    congr 1
    by_cases q2 : v = 3
    · rw [decide_eq_true (.inr q2)]; simpa using q2
    · rw [decide_eq_false (by omega)]; simpa using q2
theorem rbase_f (l : List Int) (hl : l.length ≤ 1000000) : Ev (fun k => selvedgeref14_Base.f k l) (if dirS false l 0 = true then 1 else 0) := by
  obtain ⟨v, h1, h2⟩ := strong_ev false l hl (l.length : Int) l.length 0 (by omega) (by omega) (by simp) rfl
  refine E.bnd (ref14_Match_ev l hl) (E.bnd h2 (E.bno (right_f v _ h1) ?_))
  show Ev (fun n => if dirS false l 0 = true then some (1 : Int) else some 0) _
  cases dirS false l 0 with
  | true => exact E.ret rfl
  | false => exact E.ret rfl
theorem behind_f (l : List Int) (hl : l.length ≤ 1000000) (i : Int) (h0 : 0 ≤ i) (hi : i < l.length) (hc : 20 ≤ rd l i ∧ rd l i ≤ 22) : ∃ k, selvedgeref14_behind.f k l (mtOf l) i = some (if dirS true (l.drop (i + 1).toNat) 0 = true then 2 else 1) := by
  apply E.out
  have hm := mtOf_at l i h0 hi hc
  have hml := mtOf_len l
  have hw : wrap64 (i + 1) = i + 1 := E.w64 (by omega) (by omega)
  have fin : ∀ te, EndAt true l (i + 1) te → Ev (fun k => selvedgeref14_behind.j0 k l (mtOf l) i te) (if dirS true (l.drop (i + 1).toNat) 0 = true then 2 else 1) := fun te he => by
    obtain ⟨v, h1, h2⟩ := strong_ev true l hl te l.length (i + 1) (by omega) (by omega) (by omega) he
    have h2' : Ev (fun k => selvedgeref14_strong.f k l (mtOf l) (wrap64 (i + 1)) te) v := by rw [hw]; exact h2
    refine E.succ ?_
    refine E.bnd h2' (E.bno (right_f v _ h1) ?_)
    show Ev (fun n => if dirS true (l.drop (i + 1).toNat) 0 = true then some (2 : Int) else some 1) _
    cases dirS true (l.drop (i + 1).toNat) 0 with
    | true => exact E.ret rfl
    | false => exact E.ret rfl
  refine E.pos h0 (E.pos (by omega) ?_)
  cases hp : pdiAt (l.drop (i + 1).toNat) 0 with
  | none =>
    rw [hp] at hm
    have hm : rd (mtOf l) i = -1 := hm
    exact E.neg (by omega) (fin _ (by unfold EndAt; rw [if_pos rfl, hp]; rfl))
  | some n =>
    rw [hp] at hm
    have hm : rd (mtOf l) i = i + 1 + (n : Int) := hm
    refine E.pos (by omega) ?_
    rw [hm]
    exact fin _ (by unfold EndAt; rw [if_pos rfl, hp]; rfl)
end Go.Proofs.Ytdkbkecnhebanaa.X
