import Derived.Test.YtdkbkecnhebanaaA
import Derived.Test.YtdkbkecnhebanaaE
import Derived.Test.YtdkbkecnhebanaaU3
/-! Matching initiators and PDIs; the first strong class: what is printed is what is said plainly. -/
namespace Go.Proofs.Ytdkbkecnhebanaa.X
open Go.RowKit Go.Proofs.YtdkbkecnhebanaaW.PrintWords Go.Proofs.YtdkbkecnhebanaaW.PrintLast Go.Proofs.YtdkbkecnhebanaaW.PrintMore
set_option linter.unusedVariables false
set_option linter.unusedSimpArgs false
/-- Where the PDI stands that ends an isolate in which one is; d: in how many more. -/
def pdiAt : List Int → Nat → Option Nat
  | [], _ => none
  | c :: t, d =>
    if c = 11 then none
    else if 20 ≤ c ∧ c ≤ 22 then (pdiAt t (d + 1)).map (· + 1)
    else if c = 23 then (match d with
      | 0 => some 0
      | d' + 1 => (pdiAt t d').map (· + 1))
    else (pdiAt t d).map (· + 1)
def mtF : List Int → Int → List Int → List Int → List Int
  | [], _, _, out => out
  | c :: t, i, op, out =>
    if 20 ≤ c ∧ c ≤ 22 then mtF t (i + 1) (op ++ [i]) (out.set i.toNat (-1))
    else if c = 11 then mtF t (i + 1) [] (out.set i.toNat (-1))
    else if c = 23 ∧ 0 < op.length then mtF t (i + 1) (op.take ((op.length : Int) - 1).toNat) (((out.set i.toNat (-1)).set i.toNat (rd op ((op.length : Int) - 1))).set (rd op ((op.length : Int) - 1)).toNat i)
    else mtF t (i + 1) op (out.set i.toNat (-1))
def mtOf (l : List Int) : List Int := mtF l 0 [] (List.replicate l.length 0)
def OpOk (i : Int) (op : List Int) : Prop := (op.length : Int) ≤ i ∧ ∀ x ∈ op, 0 ≤ x ∧ x < i
theorem OpOk.snoc {i : Int} {op : List Int} (h : OpOk i op) (hi : 0 ≤ i) : OpOk (i + 1) (op ++ [i]) := by
  refine ⟨by have := h.1; simp; omega, fun x hx => ?_⟩
  rcases List.mem_append.1 hx with hx | hx
  · have := h.2 x hx; omega
  · have := List.mem_singleton.1 hx; omega
theorem OpOk.next {i : Int} {op : List Int} (h : OpOk i op) : OpOk (i + 1) op := ⟨by have := h.1; omega, fun x hx => by have := h.2 x hx; omega⟩
theorem OpOk.take {i : Int} {op : List Int} (h : OpOk i op) (n : Nat) : OpOk i (op.take n) := ⟨by have := h.1; rw [List.length_take]; omega, fun x hx => h.2 x (List.mem_of_mem_take hx)⟩
theorem OpOk.last {i : Int} {op : List Int} (h : OpOk i op) (hp : 0 < op.length) : 0 ≤ rd op ((op.length : Int) - 1) ∧ rd op ((op.length : Int) - 1) < i := h.2 _ (E.rd_mem (by omega) (by omega))
theorem rd_head {l : List Int} {i : Int} {c : Int} {t : List Int} (h0 : 0 ≤ i) (h : l.drop i.toNat = c :: t) : rd l i = c ∧ i < l.length ∧ l.drop (i + 1).toNat = t := by
  have hlt : i.toNat < l.length := by
    rcases Nat.lt_or_ge i.toNat l.length with h1 | h1
    · exact h1
    · rw [List.drop_of_length_le h1] at h; cases h
  have := E.rd_drop h0 (l := l) (by omega)
  rw [h] at this
  injection this with h1 h2
  exact ⟨h1.symm, by omega, h2.symm⟩
theorem match_ev (l : List Int) (hl : l.length ≤ 1000000) : ∀ (t : List Int) (i : Int) (op out : List Int), 0 ≤ i → l.drop i.toNat = t → OpOk i op → out.length = l.length → i ≤ l.length → 
    Ev (fun k => explicit_Match.l0 k out op l (l.length : Int) i) (mtF t i op out) := by
  intro t
  induction t with
  | nil =>
    intro i op out h0 ht hop ho hi
    have : ¬ i < (l.length : Int) := by
      intro h
      have := E.rd_drop h0 h
      rw [ht] at this
      cases this
    exact E.succ (E.neg this (E.ret rfl))
  | cons c t ih =>
    intro i op out h0 ht hop ho hi
    obtain ⟨hc, hlt, ht'⟩ := rd_head h0 ht
    have hw : wrap64 (i + 1) = i + 1 := E.w64 (by omega) (by omega)
    have hopl := hop.1
    refine E.succ (E.pos hlt (E.pos h0 (E.pos hlt (E.pos (by omega) (E.bno rfl ?_)))))
    by_cases q1 : 20 ≤ c ∧ c ≤ 22
    · have e1 : explicit_initiator.f (rd l i) = some true := by unfold explicit_initiator.f; rw [hc, if_pos q1.1, decide_eq_true q1.2]
      refine E.bno e1 (E.pos rfl (E.pos (by omega) ?_))
      have e2 : mtF (c :: t) i op out = mtF t (i + 1) (op ++ [i]) (out.set i.toNat (-1)) := if_pos q1
      rw [hw, e2]
      exact ih (i + 1) _ _ (by omega) ht' (hop.snoc h0) (by simpa using ho) (by omega)
    · have e1 : explicit_initiator.f (rd l i) = some false := by
        unfold explicit_initiator.f
        rw [hc]
        by_cases q2 : c ≥ 20
        · rw [if_pos q2, decide_eq_false (fun q => q1 ⟨q2, q⟩)]
        · rw [if_neg q2]
      refine E.bno e1 (E.neg (by decide) ?_)
      by_cases q2 : c = 11
      · refine E.pos (by rw [hc]; exact q2) (E.pos (by omega) ?_)
        have e2 : mtF (c :: t) i op out = mtF t (i + 1) [] (out.set i.toNat (-1)) := (if_neg q1).trans (if_pos q2)
        rw [hw, e2]
        exact ih (i + 1) _ _ (by omega) ht' ⟨by simp; omega, fun x hx => by simp at hx⟩ (by simpa using ho) (by omega)
      · refine E.neg (by rw [hc]; exact q2) ?_
        by_cases q3 : c = 23
        · refine E.pos (by rw [hc]; exact q3) ?_
          by_cases q4 : (op.length : Int) > 0
          · have hw2 : wrap64 ((op.length : Int) - 1) = (op.length : Int) - 1 := E.w64 (by omega) (by omega)
            have hla := hop.last (by omega)
            refine E.pos q4 (E.pos (by rw [hw2]; omega) (E.pos (by rw [hw2]; omega) (E.pos (by rw [hw2]; omega) (E.pos (by rw [hw2]; omega) (E.pos (by rw [hw2]; omega) ?_)))))
            have e2 : mtF (c :: t) i op out = mtF t (i + 1) (op.take ((op.length : Int) - 1).toNat) (((out.set i.toNat (-1)).set i.toNat (rd op ((op.length : Int) - 1))).set (rd op ((op.length : Int) - 1)).toNat i) :=
              (if_neg q1).trans ((if_neg q2).trans (if_pos ⟨q3, by omega⟩))
            rw [hw, hw2, e2]
            exact ih (i + 1) _ _ (by omega) ht' (hop.next.take _) (by simpa using ho) (by omega)
          · refine E.neg q4 ?_
            have e2 : mtF (c :: t) i op out = mtF t (i + 1) op (out.set i.toNat (-1)) := (if_neg q1).trans ((if_neg q2).trans (if_neg (fun q => q4 (by have := q.2; omega))))
            rw [hw, e2]
            exact ih (i + 1) _ _ (by omega) ht' hop.next (by simpa using ho) (by omega)
        · refine E.neg (by rw [hc]; exact q3) ?_
          have e2 : mtF (c :: t) i op out = mtF t (i + 1) op (out.set i.toNat (-1)) := (if_neg q1).trans ((if_neg q2).trans (if_neg (fun q => q3 q.1)))
          rw [hw, e2]
          exact ih (i + 1) _ _ (by omega) ht' hop.next (by simpa using ho) (by omega)
theorem explicit_Match_ev (l : List Int) (hl : l.length ≤ 1000000) : Ev (fun k => explicit_Match.f k l) (mtOf l) := by
  refine E.pos (by omega) (E.pos (by rw [Int.toNat_natCast]; omega) ?_)
  rw [Int.toNat_natCast]
  exact match_ev l hl l 0 [] _ (by omega) rfl ⟨by simp, fun x hx => by simp at hx⟩ (by simp) (by omega)
theorem initiator14 (c : Int) : selvedgeref14_Initiator.f c = some (decide (20 ≤ c ∧ c ≤ 22)) := by
  unfold selvedgeref14_Initiator.f
  split
  · rw [decide_eq_true (by omega)]
  · split
    · rw [decide_eq_true (by omega)]
    · congr 1
      by_cases q : c = 22
      · rw [decide_eq_true (by omega)]; simpa using q
      · rw [decide_eq_false (by omega)]; simpa using q
theorem match14_ev (l : List Int) (hl : l.length ≤ 1000000) : ∀ (t : List Int) (i : Int) (op out : List Int), 0 ≤ i → l.drop i.toNat = t → OpOk i op → out.length = l.length → i ≤ l.length → 
    Ev (fun k => selvedgeref14_Match.l0 k l out op i) (mtF t i op out) := by
  intro t
  induction t with
  | nil =>
    intro i op out h0 ht hop ho hi
    have : ¬ i < (l.length : Int) := by
      intro h
      have := E.rd_drop h0 h
      rw [ht] at this
      cases this
    exact E.succ (E.neg this (E.ret rfl))
  | cons c t ih =>
    intro i op out h0 ht hop ho hi
    obtain ⟨hc, hlt, ht'⟩ := rd_head h0 ht
    have hw : wrap64 (i + 1) = i + 1 := E.w64 (by omega) (by omega)
    have hopl := hop.1
    refine E.succ (E.pos hlt (E.pos h0 (E.pos (by omega) (E.bno rfl ?_))))
    by_cases q1 : 20 ≤ c ∧ c ≤ 22
    · have e1 : selvedgeref14_Initiator.f (rd l i) = some true := by rw [initiator14, hc, decide_eq_true q1]
      refine E.bno e1 (E.pos rfl (E.pos (by omega) ?_))
      have e2 : mtF (c :: t) i op out = mtF t (i + 1) (op ++ [i]) (out.set i.toNat (-1)) := if_pos q1
      rw [hw, e2]
      exact ih (i + 1) _ _ (by omega) ht' (hop.snoc h0) (by simpa using ho) (by omega)
    · have e1 : selvedgeref14_Initiator.f (rd l i) = some false := by rw [initiator14, hc, decide_eq_false q1]
      refine E.bno e1 (E.neg (by decide) ?_)
      by_cases q2 : c = 11
      · refine E.pos (by rw [hc]; exact q2) ?_
        have e2 : mtF (c :: t) i op out = mtF t (i + 1) [] (out.set i.toNat (-1)) := (if_neg q1).trans (if_pos q2)
        rw [hw, e2]
        exact ih (i + 1) _ _ (by omega) ht' ⟨by simp; omega, fun x hx => by simp at hx⟩ (by simpa using ho) (by omega)
      · refine E.neg (by rw [hc]; exact q2) ?_
        by_cases q3 : c = 23
        · refine E.pos (by rw [hc]; exact q3) ?_
          by_cases q4 : (op.length : Int) > 0
          · have hw2 : wrap64 ((op.length : Int) - 1) = (op.length : Int) - 1 := E.w64 (by omega) (by omega)
            have hla := hop.last (by omega)
            refine E.pos q4 (E.pos (by rw [hw2]; omega) (E.pos (by rw [hw2]; omega) (E.pos (by rw [hw2]; omega) (E.pos (by rw [hw2]; omega) (E.pos (by rw [hw2]; omega) ?_)))))
            have e2 : mtF (c :: t) i op out = mtF t (i + 1) (op.take ((op.length : Int) - 1).toNat) (((out.set i.toNat (-1)).set i.toNat (rd op ((op.length : Int) - 1))).set (rd op ((op.length : Int) - 1)).toNat i) :=
              (if_neg q1).trans ((if_neg q2).trans (if_pos ⟨q3, by omega⟩))
            rw [hw, hw2, e2]
            exact ih (i + 1) _ _ (by omega) ht' (hop.next.take _) (by simpa using ho) (by omega)
          · refine E.neg q4 ?_
            have e2 : mtF (c :: t) i op out = mtF t (i + 1) op (out.set i.toNat (-1)) := (if_neg q1).trans ((if_neg q2).trans (if_neg (fun q => q4 (by have := q.2; omega))))
            rw [hw, e2]
            exact ih (i + 1) _ _ (by omega) ht' hop.next (by simpa using ho) (by omega)
        · refine E.neg (by rw [hc]; exact q3) ?_
          have e2 : mtF (c :: t) i op out = mtF t (i + 1) op (out.set i.toNat (-1)) := (if_neg q1).trans ((if_neg q2).trans (if_neg (fun q => q3 q.1)))
          rw [hw, e2]
          exact ih (i + 1) _ _ (by omega) ht' hop.next (by simpa using ho) (by omega)
theorem ref14_Match_ev (l : List Int) (hl : l.length ≤ 1000000) : Ev (fun k => selvedgeref14_Match.f k l) (mtOf l) := by
  refine E.pos (by omega) (E.pos (by rw [Int.toNat_natCast]; omega) ?_)
  rw [Int.toNat_natCast]
  exact match14_ev l hl l 0 [] _ (by omega) rfl ⟨by simp, fun x hx => by simp at hx⟩ (by simp) (by omega)
end Go.Proofs.Ytdkbkecnhebanaa.X
