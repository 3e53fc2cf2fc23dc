import Derived.Test.YtofiflhjlohakaaT13
/-! selvedgelaw15.RunsSequences: its contract on the way on which it is true. -/
namespace Go.Proofs.Ytofiflhjlohakaa.X
open Go.RowKit Go.Proofs.YtofiflhjlohakaaW.PrintWords Go.Proofs.YtofiflhjlohakaaW.PrintLast Go.Proofs.YtofiflhjlohakaaW.PrintMore
set_option linter.unusedVariables false
set_option linter.unusedSimpArgs false
theorem rseq_big0 (k : Nat) (A0 : Option Addr) (c0 : Nat) (l0 : List Int) (A1 : Option Addr) (c1 : Nat) (l1 : List Int) (a2 : Int) (r : Bool) (w : World) (h0 : 2000 < l0.length) (hR : selvedgelaw15_works.f k = some r) :
    Calls Try.prog 3 #[.slice A0 l0.length c0, .slice A1 l1.length c1, .int .u8 a2] w fun e w' => e = .returned (.bool r) ∧ Below w.heap.size w w' := by
  have d0 : decide (2000 < (l0.length : Int)) = true := decide_eq_true (by omega)
  have d1 : decide (2000 < l0.length) = true := decide_eq_true h0
  have HR := Aside0.mk hR
  clear hR h0
  go_enter Try.func3, Try.ntmps3
  go_wp2_with (go_at_call 8; refine (selvedgelaw15_works.calls k r _ HR.out).mono ?_; rintro e w6 ⟨rfl, hb⟩; have HZ := Aside0.mk hb; clear hb)
  go_ret
  exact ⟨rfl, HZ.out⟩
theorem rseq_big1 (k : Nat) (A0 : Option Addr) (c0 : Nat) (l0 : List Int) (A1 : Option Addr) (c1 : Nat) (l1 : List Int) (a2 : Int) (r : Bool) (w : World) (h0 : ¬ 2000 < l0.length) (h1 : 2000 < l1.length) (hR : selvedgelaw15_works.f k = some r) :
    Calls Try.prog 3 #[.slice A0 l0.length c0, .slice A1 l1.length c1, .int .u8 a2] w fun e w' => e = .returned (.bool r) ∧ Below w.heap.size w w' := by
  have d0 : decide (2000 < (l0.length : Int)) = false := decide_eq_false (by omega)
  have d2 : decide (2000 < l0.length) = false := decide_eq_false h0
  have d1 : decide (2000 < (l1.length : Int)) = true := decide_eq_true (by omega)
  have d3 : decide (2000 < l1.length) = true := decide_eq_true h1
  have HR := Aside0.mk hR
  clear hR h0 h1
  go_enter Try.func3, Try.ntmps3
  go_wp2_with (go_at_call 8; refine (selvedgelaw15_works.calls k r _ HR.out).mono ?_; rintro e w6 ⟨rfl, hb⟩; have HZ := Aside0.mk hb; clear hb)
  go_ret
  exact ⟨rfl, HZ.out⟩
def selvedgelaw15_RunsSequences.f (k : Nat) (l0 : List Int) (l1 : List Int) (a2 : Int) : Option (Bool) :=
  if 2000 < l0.length then selvedgelaw15_works.f k else if 2000 < l1.length then selvedgelaw15_works.f k
  else (selvedgeref15_Sequences.f k l0 l1 a2).bind fun want => (runs_Sequences.f l0 l1 a2).bind fun got =>
    if got.2 = want.2 ∧ got.1.length ≤ 100000 ∧ (got.1.all fun s => decide (s.f0.length ≤ 100000)) = true then (selvedgelaw15_same.f k got.1 want.1).bind fun b => if b = true then selvedgelaw15_works.f k else none else none
theorem selvedgelaw15_RunsSequences.mono : ∀ a0 a1 a2 k, LeO (selvedgelaw15_RunsSequences.f k a0 a1 a2) (selvedgelaw15_RunsSequences.f (k + 1) a0 a1 a2) := by
  intro a0 a1 a2 k
  unfold selvedgelaw15_RunsSequences.f
  refine LeO.ite (selvedgelaw15_works.mono k) (LeO.ite (selvedgelaw15_works.mono k) (LeO.bind (selvedgeref15_Sequences.mono _ _ _ k) (fun want => LeO.bind (LeO.refl _) (fun got => LeO.ite (LeO.bind (selvedgelaw15_same.mono _ _ k) (fun b => LeO.ite (selvedgelaw15_works.mono k) (LeO.refl _))) (LeO.refl _)))))
theorem selvedgelaw15_RunsSequences.calls (k : Nat) (A0 : Option Addr) (c0 : Nat) (l0 : List Int) (A1 : Option Addr) (c1 : Nat) (l1 : List Int) (a2 : Int) (r : Bool) (w : World) (hr0 : Kd.C (Kd.int .u8) w A0 l0.length l0) (hc0 : l0.length ≤ c0) (hr1 : Kd.C (Kd.int .u8) w A1 l1.length l1) (hc1 : l1.length ≤ c1) (h : selvedgelaw15_RunsSequences.f k l0 l1 a2 = some r) :
    Calls Try.prog 3 #[.slice A0 l0.length c0, .slice A1 l1.length c1, .int .u8 a2] w fun e w' => e = .returned (.bool r) ∧ Below w.heap.size w w' := by
  unfold selvedgelaw15_RunsSequences.f at h
  by_cases q0 : 2000 < l0.length
  · rw [if_pos q0] at h
    exact rseq_big0 k A0 c0 l0 A1 c1 l1 a2 r w q0 h
  · rw [if_neg q0] at h
    by_cases q1 : 2000 < l1.length
    · rw [if_pos q1] at h
      exact rseq_big1 k A0 c0 l0 A1 c1 l1 a2 r w q0 q1 h
    · rw [if_neg q1] at h
      obtain ⟨want, hW, h⟩ := Option.bind_eq_some_iff.mp h
      obtain ⟨got, hG, h⟩ := Option.bind_eq_some_iff.mp h
      by_cases q2 : got.2 = want.2 ∧ got.1.length ≤ 100000 ∧ (got.1.all fun s => decide (s.f0.length ≤ 100000)) = true
      · rw [if_pos q2] at h
        obtain ⟨b, hS, h⟩ := Option.bind_eq_some_iff.mp h
        by_cases q3 : b = true
        · rw [if_pos q3] at h
          subst q3
          refine rseq_main k A0 c0 l0 A1 c1 l1 a2 r want.1 want.2 got.1 w hr0 hc0 hr1 hc1 (by omega) (by omega) hW (by rw [hG, ← q2.1]) hS h q2.2.1 (fun i hi => ?_)
          have e : rd_T36 got.1 (i : Int) = got.1[i] := by simp [rd_T36, hi]
          rw [e]
          exact of_decide_eq_true (List.all_eq_true.mp q2.2.2 _ (List.getElem_mem hi))
        · rw [if_neg q3] at h
          cases h
      · rw [if_neg q2] at h
        cases h
def selvedgelaw15_RunsSequences.Pure : Prop := ∀ (l0 : List Int) (l1 : List Int) (a2 : Int), l0.length ≤ maxLen → l0.length * 1 ≤ 140737488351232 → (∀ x ∈ l0, (Lit.int .u8 x).wf = true) → l1.length ≤ maxLen → l1.length * 1 ≤ 140737488351232 → (∀ x ∈ l1, (Lit.int .u8 x).wf = true) → (Lit.int .u8 a2).wf = true → ∃ k, selvedgelaw15_RunsSequences.f k l0 l1 a2 = some true
theorem selvedgelaw15_RunsSequences.walk (P : selvedgelaw15_RunsSequences.Pure) (a0 : Option Addr) (len0 cap0 : Nat) (z0 : List Int) (a1 : Option Addr) (len1 cap1 : Nat) (z1 : List Int) (a2 : Int) (w : World) (w0 : (a0 = none ∧ len0 = 0 ∧ cap0 = 0 ∧ z0 = []) ∨ ∃ x, a0 = some x ∧ len0 ≤ cap0 ∧ cap0 ≤ maxLen ∧ z0.length = cap0 ∧ (∀ i, i < z0.length → w.cell? (x.add i) = some (.int .u8 (z0.getD i 0))) ∧ ∀ n ∈ z0, (Lit.int .u8 n).wf = true) (y0 : len0 * 1 ≤ 140737488351232) (w1 : (a1 = none ∧ len1 = 0 ∧ cap1 = 0 ∧ z1 = []) ∨ ∃ x, a1 = some x ∧ len1 ≤ cap1 ∧ cap1 ≤ maxLen ∧ z1.length = cap1 ∧ (∀ i, i < z1.length → w.cell? (x.add i) = some (.int .u8 (z1.getD i 0))) ∧ ∀ n ∈ z1, (Lit.int .u8 n).wf = true) (y1 : len1 * 1 ≤ 140737488351232) (w2 : (Lit.int .u8 a2).wf = true) :
  Calls Try.prog 3 #[.slice a0 len0 cap0, .slice a1 len1 cap1, .int .u8 a2] w fun e w' => e = .returned (.bool true) ∧ Below w.heap.size w w' := by
 obtain ⟨l0, rfl, hr0, hm0, hw0, hc0⟩ := ReadsInt.ofRowC w0
 obtain ⟨l1, rfl, hr1, hm1, hw1, hc1⟩ := ReadsInt.ofRowC w1
 obtain ⟨k, h⟩ := P l0 l1 a2 hm0 y0 hw0 hm1 y1 hw1 w2
 refine (selvedgelaw15_RunsSequences.calls k _ _ l0 _ _ l1 a2 true w (Kd.C_of_reads (d := (0 : Int)) (h1 := fun _ => rfl) hr0) hc0 (Kd.C_of_reads (d := (0 : Int)) (h1 := fun _ => rfl) hr1) hc1 h).mono ?_
 rintro e w' ⟨rfl, hd⟩
 exact ⟨rfl, hd⟩
end Go.Proofs.Ytofiflhjlohakaa.X
