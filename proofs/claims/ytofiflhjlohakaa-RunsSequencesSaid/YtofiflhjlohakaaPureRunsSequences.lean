import Derived.Test.YtofiflhjlohakaaT14
import Derived.Test.YtofiflhjlohakaaK6
namespace Go.Proofs.Ytofiflhjlohakaa.Pure
open Go.RowKit Go.Proofs.Ytofiflhjlohakaa.X Go.Proofs.Ytofiflhjlohakaa Go.Proofs.YtofiflhjlohakaaW.PrintWords Go.Proofs.YtofiflhjlohakaaW.PrintLast
set_option linter.unusedVariables false
set_option linter.unusedSimpArgs false
theorem same_loop (a : List S36) (ha : a.length ≤ 2000) (hp : ∀ s ∈ a, s.f0.length ≤ 2000) : ∀ (t i : Nat), i + t = a.length → Ev (fun k => selvedgelaw15_same.l0 k a (a.map to56) (i : Int)) true := by
  intro t
  induction t with
  | zero => intro i hi; exact E.succ (E.neg (by omega) (E.ret rfl))
  | succ t ih =>
    intro i hi
    have w : wrap64 ((i : Int) + 1) = ((i + 1 : Nat) : Int) := by rw [E.w64 (by omega) (by omega)]; omega
    have IH := ih (i + 1) (by omega)
    rw [← w] at IH
    have hil : i < a.length := by omega
    have e1 : rd_T36 a (i : Int) = a[i] := by simp [rd_T36, hil]
    have e2 : rd_T56 (a.map to56) (i : Int) = to56 a[i] := by simp [rd_T56, hil]
    have hpl := hp _ (List.getElem_mem hil)
    refine E.succ ?_
    unfold selvedgelaw15_same.l0
    simp only [e1, e2, to56]
    exact E.pos (by omega) (E.pos (by omega) (E.pos (by rw [List.length_map]; omega) (E.bnd (places_ev _ (by omega)) (E.pos rfl (E.pos trivial (E.pos trivial (E.pos trivial IH)))))))
theorem same_ev (a : List S36) (ha : a.length ≤ 2000) (hp : ∀ s ∈ a, s.f0.length ≤ 2000) : Ev (fun k => selvedgelaw15_same.f k a (a.map to56)) true :=
  E.pos (by rw [List.length_map]) (same_loop a ha hp a.length 0 (by omega))
theorem RunsSequences : selvedgelaw15_RunsSequences.Pure := by
  intro l lev base _ _ hlw _ _ hvw hbw
  have hb := E.u8_lo hbw
  have hu : ∀ x ∈ lev, 0 ≤ x ∧ x ≤ 255 := fun x hx => E.u8_lo (hvw x hx)
  refine E.out (g := fun k => selvedgelaw15_RunsSequences.f k l lev base) ?_
  by_cases q0 : 2000 < l.length
  · exact E.pos q0 works_ev
  · refine E.neg q0 ?_
    by_cases q1 : 2000 < lev.length
    · exact E.pos q1 works_ev
    · refine E.neg q1 ?_
      by_cases q2 : lev.length = l.length
      · obtain ⟨got, hg, hw, h1, h2⟩ := ref_answer l lev base hb hu (by omega) q2
        exact E.bnd hw (E.bno hg (E.pos ⟨rfl, by show got.length ≤ _; omega, List.all_eq_true.mpr (fun s hs => decide_eq_true (by have := h2 s hs; omega))⟩ (E.bnd (same_ev got h1 h2) (E.pos rfl works_ev))))
      · have hg : runs_Sequences.f l lev base = some ([], 2) := by
          unfold runs_Sequences.f sqRes
          rw [if_pos ⟨hb, List.all_eq_true.mpr (fun x hx => decide_eq_true (hu x hx))⟩, if_neg (by omega), if_pos (by omega)]
        have hw : Ev (fun k => selvedgeref15_Sequences.f k l lev base) (([] : List S56), 2) := E.neg (by omega) (E.neg (by omega) (E.ret rfl))
        exact E.bnd hw (E.bno hg (E.pos ⟨rfl, by decide, rfl⟩ (E.bnd (same_ev [] (by decide) (fun s hs => by cases hs)) (E.pos rfl works_ev))))
end Go.Proofs.Ytofiflhjlohakaa.Pure
