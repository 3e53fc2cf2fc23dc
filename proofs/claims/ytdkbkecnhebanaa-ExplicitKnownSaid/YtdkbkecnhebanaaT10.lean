import Derived.Test.YtdkbkecnhebanaaD
/-! explicit.state's take, whole. -/
namespace Go.Proofs.Ytdkbkecnhebanaa.X
open Go.RowKit Go.Proofs.YtdkbkecnhebanaaW.PrintWords Go.Proofs.YtdkbkecnhebanaaW.PrintLast Go.Proofs.YtdkbkecnhebanaaW.PrintMore
set_option linter.unusedVariables false
set_option linter.unusedSimpArgs false
theorem end_f (l : List Int) (hl : l.length ≤ 1000000) (i : Int) (h0 : 0 ≤ i) (hi : i < l.length) (hc : 20 ≤ rd l i ∧ rd l i ≤ 22) :
    ∃ en, explicit_text_end.f l (mtOf l) i = some en ∧ EndAt true l (i + 1) en := by
  have hm := mtOf_at l i h0 hi hc
  have hml := mtOf_len l
  refine ⟨mtv (i + 1) (pdiAt (l.drop (i + 1).toNat) 0) l.length, ?_, by unfold EndAt; rw [if_pos rfl]⟩
  unfold explicit_text_end.f
  rw [if_pos h0, if_pos (by omega), hm]
  cases hp : pdiAt (l.drop (i + 1).toNat) 0 with
  | none => exact if_pos (show (-1 : Int) < 0 by decide)
  | some n => exact if_neg (show ¬ (i + 1 + (n : Int) < 0) by omega)
theorem fsi_f (l : List Int) (hl : l.length ≤ 1000000) (i : Int) (h0 : 0 ≤ i) (hi : i < l.length) (hc : 20 ≤ rd l i ∧ rd l i ≤ 22) :
    ∃ k en, explicit_text_end.f l (mtOf l) i = some en ∧ explicit_text_first.f k l (mtOf l) (i + 1) en = some (dirI (dirS true (l.drop (i + 1).toNat) 0)) := by
  obtain ⟨en, h1, h2⟩ := end_f l hl i h0 hi hc
  obtain ⟨k, hk⟩ := E.out (first_ev true l hl en l.length (i + 1) (by omega) (by omega) (by omega) h2)
  exact ⟨k, en, h1, hk⟩
theorem dirI_or (b : Bool) : dirI b = 1 ∨ dirI b = 2 := by cases b <;> simp [dirI]
theorem take_c (g : Nat) (a : Sk) (m : Int) (hm : m ≤ 1000000) (ha : Wf a m) (W : World) (h : Holds W g a) (A0 A1 : Option Addr) (c0 c1 : Nat) (l : List Int) (hl : l.length ≤ 1000000)
    (hr0 : Kd.C (Kd.int .u8) W A0 l.length l) (hc0 : l.length ≤ c0) (hr1 : Kd.C (Kd.int .i64) W A1 (mtOf l).length (mtOf l)) (hc1 : (mtOf l).length ≤ c1) (i : Int) (h0 : 0 ≤ i) (hi : i < l.length) :
    Calls Try.prog 29 #[.pointer (some ⟨g, 0, none⟩), .agg #[.slice A0 l.length c0, .slice A1 (mtOf l).length c1], .int .i64 i] W fun e w' => Ret0 e (Holds w' g (takeA a (rd l i) (dirI (dirS true (l.drop (i + 1).toNat) 0))) ∧ W.grownBy w' (some g)) := by
  obtain ⟨ad, rfl, hx⟩ := Kd.at_int hr0 i h0 hi
  obtain ⟨C, hb, hC⟩ := h
  have hH : Holds W g a := ⟨C, hb, hC⟩
  by_cases q1 : rd l i = 18
  · rw [q1] at hx ⊢
    exact take_c18 g a m hm ha W hH ad _ c0 _ c1 A1 i h0 hi hx
  by_cases q2 : rd l i = 16
  · rw [q2] at hx ⊢
    exact take_c16 g a m hm ha W hH ad _ c0 _ c1 A1 i h0 hi hx
  by_cases q3 : rd l i = 15
  · rw [q3] at hx ⊢
    exact take_c15 g a m hm ha W hH ad _ c0 _ c1 A1 i h0 hi hx
  by_cases q4 : rd l i = 17
  · rw [q4] at hx ⊢
    exact take_c17 g a m hm ha W hH ad _ c0 _ c1 A1 i h0 hi hx
  by_cases q5 : rd l i = 20
  · rw [q5] at hx ⊢
    exact take_c20 g a m hm ha W hH ad _ c0 _ c1 A1 i h0 hi hx hC
  by_cases q6 : rd l i = 21
  · rw [q6] at hx ⊢
    exact take_c21 g a m hm ha W hH ad _ c0 _ c1 A1 i h0 hi hx hC
  by_cases q7 : rd l i = 22
  · obtain ⟨k, en, h1, h2⟩ := fsi_f l hl i h0 hi (by omega)
    rw [q7] at hx ⊢
    exact take_c22 g a m hm ha W hH ad c0 c1 A1 l (mtOf l) i h0 hi hx hr0 hc0 hr1 hc1 k en _ h1 h2 (dirI_or _) hC
  by_cases q8 : rd l i = 19
  · rw [q8] at hx ⊢
    exact take_c19 g a m hm ha W hH ad _ c0 _ c1 A1 i h0 hi hx
  have e : takeA a (rd l i) (dirI (dirS true (l.drop (i + 1).toNat) 0)) = a := by
    unfold takeA
    rw [if_neg q1, if_neg q2, if_neg q3, if_neg q4, if_neg q5, if_neg q6, if_neg q7, if_neg q8]
  rw [e]
  exact take_none g a m hm ha W hH ad _ c0 _ c1 A1 i (rd l i) h0 hi hx ⟨beq_eq_false_iff_ne.2 q3, beq_eq_false_iff_ne.2 q2, beq_eq_false_iff_ne.2 q4, beq_eq_false_iff_ne.2 q1, beq_eq_false_iff_ne.2 q8, beq_eq_false_iff_ne.2 q5, beq_eq_false_iff_ne.2 q6, beq_eq_false_iff_ne.2 q7⟩
end Go.Proofs.Ytdkbkecnhebanaa.X
