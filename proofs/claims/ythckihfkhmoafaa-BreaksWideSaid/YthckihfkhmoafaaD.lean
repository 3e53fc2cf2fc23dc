import Derived.Test.YthckihfkhmoafaaC
/-! The law BreaksMeasures, for any items (its row, from the data to the items, is not written yet). -/
namespace Go.Proofs.Ythckihfkhmoafaa.A
open Go.RowKit Go.Proofs.Ythckihfkhmoafaa.X Go.Proofs.YthckihfkhmoafaaW.PrintWords Go.Proofs.YthckihfkhmoafaaW.PrintLast Go.Proofs.Ythckihfkhmoafaa
set_option linter.unusedVariables false
set_option linter.unusedSimpArgs false

theorem ref_ev (l : List S36) (hl : l.length < 4398046511104) : Ev (fun k => selvedgelaw21_ref.f k l) (l.map c49) := by
  unfold selvedgelaw21_ref.f
  suffices h : ∀ (rest dn : List S36), l = dn ++ rest → Ev (fun k => selvedgelaw21_ref.l0 k l (dn.map c49) dn.length) (l.map c49) from h l [] rfl
  intro rest
  induction rest with
  | nil =>
    intro dn h
    refine E.succ ?_
    simp only [selvedgelaw21_ref.l0]
    have e : l = dn := by rw [h, List.append_nil]
    exact E.neg (by rw [e]; omega) (E.ret (by rw [e]))
  | cons c rest ih =>
    intro dn h
    have hlen : l.length = dn.length + (rest.length + 1) := by rw [h]; simp
    have hc : rd_T36 l (dn.length : Int) = c := by rw [h]; simp [rd_T36]
    refine E.succ ?_
    simp only [selvedgelaw21_ref.l0]
    rw [hc, E.w64 (by omega) (by omega)]
    refine E.pos (by omega) (E.pos (by omega) (E.pos (by simp; omega) ?_))
    have H := ih (dn ++ [c]) (by rw [h]; simp)
    rw [List.length_append, List.length_singleton, List.map_append] at H
    exact H
def mayV (l : List S36) : Int := if (l.length : Int) > 65536 then 3 else if l.any brBad then 2 else 0
theorem may_some {l : List S36} (hl : l.length < 17592186044416) : breaks_may.f l = some (mayV l) := by
  unfold breaks_may.f mayV
  rw [if_pos hl]
theorem refMay (l : List S36) : Ev (fun k => selvedgeref21_may.f k (l.map c49)) (mayV l) := by
  unfold selvedgeref21_may.f mayV
  by_cases h : (l.length : Int) > 65536
  · rw [if_pos h]
    exact E.pos (by rw [List.length_map]; exact h) (E.ret rfl)
  rw [if_neg h]
  refine E.neg (by rw [List.length_map]; exact h) ?_
  suffices hh : ∀ (d i : Nat), i + d = l.length → Ev (fun k => selvedgeref21_may.l0 k (l.map c49) i) (if (l.drop i).any brBad then 2 else 0) from hh l.length 0 (by omega)
  intro d
  induction d with
  | zero =>
    intro i hi
    refine E.succ ?_
    simp only [selvedgeref21_may.l0]
    refine E.neg (by rw [List.length_map]; omega) (E.ret ?_)
    rw [List.drop_of_length_le (by omega)]; rfl
  | succ d ih =>
    intro i hi
    have hst := any_step l i (by omega) (by omega)
    rw [Int.toNat_natCast, show ((i : Int) + 1).toNat = i + 1 by omega] at hst
    have H := ih (i + 1) (by omega)
    refine E.succ ?_
    simp only [selvedgeref21_may.l0, rd49]
    rw [hst, E.w64 (by omega) (by omega)]
    generalize rd_T36 l (i : Int) = x
    refine E.pos (by rw [List.length_map]; omega) (E.pos (by omega) ?_)
    have c1 : (c49 x).f1 = x.f1 := rfl
    have c2 : (c49 x).f2 = x.f2 := rfl
    have c3 : (c49 x).f3 = x.f3 := rfl
    rw [c1, c2, c3]
    by_cases q1 : x.f1 < 0
    · exact E.pos q1 (E.ret (by simp [brBad, q1]))
    refine E.neg q1 ?_
    by_cases q2 : x.f1 > 4096
    · exact E.pos q2 (E.ret (by simp [brBad, show (4096 : Int) < x.f1 from q2]))
    refine E.neg q2 ?_
    by_cases q3 : x.f2 < 0
    · exact E.pos q3 (E.ret (by simp [brBad, q3]))
    refine E.neg q3 ?_
    by_cases q4 : x.f2 > 16777216
    · exact E.pos q4 (E.ret (by simp [brBad, show (16777216 : Int) < x.f2 from q4]))
    refine E.neg q4 ?_
    by_cases q5 : x.f3 < 0
    · exact E.pos q5 (E.ret (by simp [brBad, q5]))
    refine E.neg q5 ?_
    by_cases q6 : x.f3 > 16777216
    · exact E.pos q6 (E.ret (by simp [brBad, show (16777216 : Int) < x.f3 from q6]))
    refine E.neg q6 ?_
    have hb : brBad x = false := by simp [brBad]; omega
    rw [hb, Bool.false_or]
    exact H
end Go.Proofs.Ythckihfkhmoafaa.A
