import Derived.Test.YtdkbkecnhebanaaB
/-! What matches; the first strong class by what matches. -/
namespace Go.Proofs.Ytdkbkecnhebanaa.X
open Go.RowKit Go.Proofs.YtdkbkecnhebanaaW.PrintWords Go.Proofs.YtdkbkecnhebanaaW.PrintLast Go.Proofs.YtdkbkecnhebanaaW.PrintMore
set_option linter.unusedVariables false
set_option linter.unusedSimpArgs false
/-- What matches is told for places (a row of rows' own): the initiator at p, in front of t, at depth d. -/
def mtv (q : Int) (o : Option Nat) (z : Int) : Int := match o with
  | some n => q + n
  | none => z
theorem mtF_len : ∀ (t : List Int) (i : Int) (op out : List Int), (mtF t i op out).length = out.length := by
  intro t
  induction t with
  | nil => intros; rfl
  | cons c t ih =>
    intro i op out
    unfold mtF
    split
    · rw [ih]; simp
    · split
      · rw [ih]; simp
      · split
        · rw [ih]; simp
        · rw [ih]; simp
/-- A row of open places, the last one first. -/
def OpR (i : Int) (op : List Int) : Prop := op.Pairwise (· < ·) ∧ ∀ x ∈ op, 0 ≤ x ∧ x < i
theorem OpR.snoc {i : Int} {op : List Int} (h : OpR i op) (hi : 0 ≤ i) : OpR (i + 1) (op ++ [i]) := by
  refine ⟨List.pairwise_append.2 ⟨h.1, List.pairwise_singleton _ _, fun a ha b hb => ?_⟩, fun x hx => ?_⟩
  · have := h.2 a ha; have := List.mem_singleton.1 hb; omega
  · rcases List.mem_append.1 hx with hx | hx
    · have := h.2 x hx; omega
    · have := List.mem_singleton.1 hx; omega
theorem OpR.next {i : Int} {op : List Int} (h : OpR i op) : OpR (i + 1) op := ⟨h.1, fun x hx => by have := h.2 x hx; omega⟩
theorem rd_set_ne' {l : List Int} {i j v : Int} (hj : 0 ≤ j) (hi : 0 ≤ i) (hne : j ≠ i) : rd (l.set i.toNat v) j = rd l j := by
  obtain ⟨n, rfl⟩ := Int.eq_ofNat_of_zero_le hi
  obtain ⟨m, rfl⟩ := Int.eq_ofNat_of_zero_le hj
  simp only [rd, Int.toNat_natCast, List.getD_eq_getElem?_getD, List.getElem?_set]
  rw [if_neg (by omega)]
theorem rd_set_eq {l : List Int} {i v : Int} (hi : 0 ≤ i) (h : i < l.length) : rd (l.set i.toNat v) i = v := by
  rw [E.rd_set hi h hi, if_pos rfl]
/-- What becomes of a place ahead (open at depth j, or not open), and of one behind. -/
theorem mtF_spec : ∀ (t : List Int) (i : Int) (op out : List Int), 0 ≤ i → OpR i op → (out.length : Int) = i + t.length →
    (∀ p, 0 ≤ p → p < i → p ∉ op → rd (mtF t i op out) p = rd out p) ∧
    (∀ (a b : List Int) (p : Int), op = a ++ p :: b → rd (mtF t i op out) p = mtv i (pdiAt t b.length) (rd out p)) ∧
    (∀ (n : Nat), (h : n < t.length) → 20 ≤ t[n] ∧ t[n] ≤ 22 → rd (mtF t i op out) (i + n) = mtv (i + n + 1) (pdiAt (t.drop (n + 1)) 0) (-1)) := by
  intro t
  induction t with
  | nil =>
    intro i op out h0 hop ho
    refine ⟨fun _ _ _ _ => rfl, fun _ _ _ _ => rfl, fun n h => absurd h (by simp)⟩
  | cons c t ih =>
    intro i op out h0 hop ho
    simp only [List.length_cons] at ho
    have hip : i < out.length := by omega
    by_cases q1 : 20 ≤ c ∧ c ≤ 22
    · have e2 : mtF (c :: t) i op out = mtF t (i + 1) (op ++ [i]) (out.set i.toNat (-1)) := if_pos q1
      have hne : c ≠ 11 := by omega
      have ep : ∀ d, pdiAt (c :: t) d = (pdiAt t (d + 1)).map (· + 1) := fun d => by show (if _ then _ else _) = _; rw [if_neg hne, if_pos q1]
      obtain ⟨i1, i2, i3⟩ := ih (i + 1) (op ++ [i]) (out.set i.toNat (-1)) (by omega) (hop.snoc h0) (by simp; omega)
      rw [e2]
      refine ⟨fun p hp0 hp hn => ?_, fun a b p he => ?_, fun n hn hc => ?_⟩
      · rw [i1 p hp0 (by omega) (by simp; exact ⟨hn, by omega⟩), rd_set_ne' hp0 h0 (by omega)]
      · have hp := hop.2 p (by rw [he]; simp)
        rw [i2 a (b ++ [i]) p (by rw [he]; simp), rd_set_ne' hp.1 h0 (by omega), ep, List.length_append]
        show mtv (i + 1) (pdiAt t (b.length + 1)) _ = _
        cases pdiAt t (b.length + 1) with
        | none => rfl
        | some n => show i + 1 + (n : Int) = i + ((n + 1 : Nat) : Int); omega
      · cases n with
        | zero =>
          have := i2 op [] i rfl
          simp only [Int.natCast_zero, Int.add_zero, Nat.zero_add, List.drop_succ_cons, List.drop_zero]
          rw [this, rd_set_eq h0 hip]
          rfl
        | succ n =>
          have := i3 n (by simpa using hn) (by simpa using hc)
          rw [show i + ((n + 1 : Nat) : Int) = i + 1 + (n : Int) by omega, this]
          simp only [List.drop_succ_cons]
    · by_cases q2 : c = 11
      · have e2 : mtF (c :: t) i op out = mtF t (i + 1) [] (out.set i.toNat (-1)) := (if_neg q1).trans (if_pos q2)
        have ep : ∀ d, pdiAt (c :: t) d = none := fun d => by show (if _ then _ else _) = _; rw [if_pos q2]
        obtain ⟨i1, i2, i3⟩ := ih (i + 1) [] (out.set i.toNat (-1)) (by omega) ⟨List.Pairwise.nil, fun x hx => by simp at hx⟩ (by simp; omega)
        rw [e2]
        refine ⟨fun p hp0 hp hn => ?_, fun a b p he => ?_, fun n hn hc => ?_⟩
        · rw [i1 p hp0 (by omega) (by simp), rd_set_ne' hp0 h0 (by omega)]
        · have hp := hop.2 p (by rw [he]; simp)
          rw [i1 p hp.1 (by omega) (by simp), rd_set_ne' hp.1 h0 (by omega), ep]
          rfl
        · cases n with
          | zero => exact absurd hc q1
          | succ n =>
            have := i3 n (by simpa using hn) (by simpa using hc)
            rw [show i + ((n + 1 : Nat) : Int) = i + 1 + (n : Int) by omega, this]
            simp only [List.drop_succ_cons]
      · by_cases q3 : c = 23 ∧ 0 < op.length
        · have e2 : mtF (c :: t) i op out = mtF t (i + 1) (op.take ((op.length : Int) - 1).toNat) (((out.set i.toNat (-1)).set i.toNat (rd op ((op.length : Int) - 1))).set (rd op ((op.length : Int) - 1)).toNat i) :=
            (if_neg q1).trans ((if_neg q2).trans (if_pos q3))
          have ep0 : pdiAt (c :: t) 0 = some 0 := by show (if _ then _ else _) = _; rw [if_neg q2, if_neg q1, if_pos q3.1]
          have ep1 : ∀ d, pdiAt (c :: t) (d + 1) = (pdiAt t d).map (· + 1) := fun d => by show (if _ then _ else _) = _; rw [if_neg q2, if_neg q1, if_pos q3.1]
          obtain ⟨u, k, hu⟩ : ∃ u k, op = u ++ [k] := by
            rcases List.eq_nil_or_concat op with h | ⟨u, k, h⟩
            · rw [h] at q3; exact absurd q3.2 (by simp)
            · exact ⟨u, k, by simpa using h⟩
          have el : rd op ((op.length : Int) - 1) = k := by
            rw [hu]; simp only [List.length_append, List.length_singleton]
            rw [show ((u.length + 1 : Nat) : Int) - 1 = (u.length : Int) by omega]
            exact E.rd_mid u [] k
          have et : op.take ((op.length : Int) - 1).toNat = u := by
            rw [hu]; simp only [List.length_append, List.length_singleton]
            rw [show (((u.length + 1 : Nat) : Int) - 1).toNat = u.length by omega]
            simp
          have hk := hop.2 k (by rw [hu]; simp)
          have hu1 : OpR (i + 1) u := by
            have := hop.next
            rw [hu] at this
            exact ⟨(List.pairwise_append.1 this.1).1, fun x hx => this.2 x (by simp [hx])⟩
          have hku : k ∉ u := fun hk' => by
            have := hop.1
            rw [hu] at this
            have := (List.pairwise_append.1 this).2.2 k hk' k (by simp)
            omega
          rw [el, et] at e2
          obtain ⟨i1, i2, i3⟩ := ih (i + 1) u (((out.set i.toNat (-1)).set i.toNat k).set k.toNat i) (by omega) hu1 (by simp; omega)
          rw [e2]
          refine ⟨fun p hp0 hp hn => ?_, fun a b p he => ?_, fun n hn hc => ?_⟩
          · have hpk : p ≠ k := fun e => hn (by rw [hu, e]; simp)
            rw [i1 p hp0 (by omega) (fun h => hn (by rw [hu]; simp [h])), rd_set_ne' hp0 hk.1 hpk, rd_set_ne' hp0 h0 (by omega), rd_set_ne' hp0 h0 (by omega)]
          · have hp := hop.2 p (by rw [he]; simp)
            rcases List.eq_nil_or_concat b with hb | ⟨b', x, hb⟩
            · subst hb
              have hpk : p = k := by
                rw [hu] at he
                have := List.append_inj' he (by simp)
                simpa using this.2.symm
              subst hpk
              rw [i1 p hp.1 (by omega) hku, rd_set_eq hp.1 (by simp; omega)]
              show i = mtv i (pdiAt (c :: t) 0) _
              rw [ep0]
              show i = i + ((0 : Nat) : Int)
              omega
            · have hb2 : b = b' ++ [x] := by simpa using hb
              subst hb2
              have hux : u = a ++ p :: b' := by
                rw [hu] at he
                have := List.append_inj' (he.trans (by simp : a ++ p :: (b' ++ [x]) = (a ++ p :: b') ++ [x])) (by simp)
                exact this.1
              have hpk : p ≠ k := fun e => hku (by rw [hux, ← e]; simp)
              rw [i2 a b' p hux, rd_set_ne' hp.1 hk.1 hpk, rd_set_ne' hp.1 h0 (by omega), rd_set_ne' hp.1 h0 (by omega), List.length_append]
              show _ = mtv i (pdiAt (c :: t) (b'.length + 1)) _
              rw [ep1]
              cases pdiAt t b'.length with
              | none => rfl
              | some n => show i + 1 + (n : Int) = i + ((n + 1 : Nat) : Int); omega
          · cases n with
            | zero => exact absurd hc q1
            | succ n =>
              have := i3 n (by simpa using hn) (by simpa using hc)
              rw [show i + ((n + 1 : Nat) : Int) = i + 1 + (n : Int) by omega, this]
              simp only [List.drop_succ_cons]
        · have e2 : mtF (c :: t) i op out = mtF t (i + 1) op (out.set i.toNat (-1)) := (if_neg q1).trans ((if_neg q2).trans (if_neg q3))
          have ep : ∀ d, (c = 23 → False) → pdiAt (c :: t) d = (pdiAt t d).map (· + 1) := fun d h => by show (if _ then _ else _) = _; rw [if_neg q2, if_neg q1, if_neg h]
          obtain ⟨i1, i2, i3⟩ := ih (i + 1) op (out.set i.toNat (-1)) (by omega) hop.next (by simp; omega)
          rw [e2]
          refine ⟨fun p hp0 hp hn => ?_, fun a b p he => ?_, fun n hn hc => ?_⟩
          · rw [i1 p hp0 (by omega) hn, rd_set_ne' hp0 h0 (by omega)]
          · have hp := hop.2 p (by rw [he]; simp)
            have h23 : c = 23 → False := fun h => q3 ⟨h, by rw [he]; simp; omega⟩
            rw [i2 a b p he, rd_set_ne' hp.1 h0 (by omega), ep _ h23]
            cases pdiAt t b.length with
            | none => rfl
            | some n => show i + 1 + (n : Int) = i + ((n + 1 : Nat) : Int); omega
          · cases n with
            | zero => exact absurd hc q1
            | succ n =>
              have := i3 n (by simpa using hn) (by simpa using hc)
              rw [show i + ((n + 1 : Nat) : Int) = i + 1 + (n : Int) by omega, this]
              simp only [List.drop_succ_cons]
theorem mtOf_len (l : List Int) : (mtOf l).length = l.length := by unfold mtOf; rw [mtF_len]; simp
theorem mtOf_at (l : List Int) (i : Int) (h0 : 0 ≤ i) (h : i < l.length) (hc : 20 ≤ rd l i ∧ rd l i ≤ 22) : rd (mtOf l) i = mtv (i + 1) (pdiAt (l.drop (i + 1).toNat) 0) (-1) := by
  obtain ⟨n, rfl⟩ := Int.eq_ofNat_of_zero_le h0
  have hn : n < l.length := by omega
  have := (mtF_spec l 0 [] (List.replicate l.length 0) (by omega) ⟨List.Pairwise.nil, fun x hx => by simp at hx⟩ (by simp)).2.2 n hn (by rw [E.rd_get hn] at hc; exact hc)
  rw [show ((n : Int) + 1).toNat = n + 1 by omega]
  rw [Int.zero_add] at this
  exact this
end Go.Proofs.Ytdkbkecnhebanaa.X
