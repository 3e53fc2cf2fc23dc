import Derived.Test.YtiogpnefnapfeaaDoorX4
import Derived.Test.YtiogpnefnapfeaaDoorD
/-! PairsPairs: what the printed function computes is true. -/
namespace Go.Proofs.YtiogpnefnapfeaaDoor.Pure
open Go.RowKit Go.Proofs.YtiogpnefnapfeaaDoor.X Go.Proofs.YtiogpnefnapfeaaDoorW.PrintWords Go.Proofs.YtiogpnefnapfeaaDoorW.PrintLast
set_option linter.unusedSimpArgs false
set_option linter.unusedVariables false
set_option maxRecDepth 100000
theorem pairs_f (l now : List Int) (h : l.length ≤ 65536) : pairs_Pairs.f l now = some ((pairsF l now).map ofP) := if_pos h
theorem rd30 (ps : List (Int × Int)) (i : Nat) (p : Int × Int) (h : ps[i]? = some p) : rd_T30 (ps.map ofP) (i : Int) = ofP p := by
  unfold rd_T30
  rw [Int.toNat_natCast, List.getD_eq_getElem?_getD, List.getElem?_map, h]
  rfl
theorem rd31b (ps : List (Int × Int)) (i : Nat) (p : Int × Int) (h : ps[i]? = some p) : rd_T31 (ps.map m31) (i : Int) = m31 p := by
  unfold rd_T31
  rw [Int.toNat_natCast, List.getD_eq_getElem?_getD, List.getElem?_map, h]
  rfl
theorem pp_l0 (P : List (Int × Int)) (hP : P.length ≤ 65536) : ∀ m i : Nat, i + m = P.length → Ev (fun k => selvedgelaw17_PairsPairs.l0 k (P.map ofP) (P.map m31) (i : Int)) true := by
  intro m
  induction m with
  | zero =>
    intro i h
    refine E.succ ?_
    simp only [selvedgelaw17_PairsPairs.l0]
    exact E.neg (by rw [List.length_map]; omega) (E.bnd works_ev (E.ret rfl))
  | succ m ih =>
    intro i h
    obtain ⟨p, hp⟩ : ∃ p, P[i]? = some p := ⟨_, List.getElem?_eq_getElem (by omega)⟩
    refine E.succ ?_
    simp only [selvedgelaw17_PairsPairs.l0, rd30 P i p hp, rd31b P i p hp]
    rw [nat1 i (by omega)]
    exact E.pos (by rw [List.length_map]; omega) (E.pos (by omega) (E.pos (by rw [List.length_map]; omega) (E.pos rfl (E.pos rfl (ih (i + 1) (by omega))))))
theorem PairsPairs : selvedgelaw17_PairsPairs.Pure := by
  intro l now _ _ _ _ _ _
  have ht : Ev (fun k => selvedgelaw17_PairsPairs.j0 k l now true) true := by
    refine E.succ ?_
    simp only [selvedgelaw17_PairsPairs.j0]
    exact E.pos (by trivial) (E.bnd works_ev (E.ret rfl))
  refine E.out (g := fun k => selvedgelaw17_PairsPairs.f k l now) ?_
  simp only [selvedgelaw17_PairsPairs.f]
  by_cases q : (l.length : Int) > 800
  · exact E.pos q ht
  · refine E.neg q ?_
    by_cases q2 : (now.length : Int) > 800
    · rw [decide_eq_true q2]; exact ht
    · rw [decide_eq_false q2]
      refine E.succ ?_
      simp only [selvedgelaw17_PairsPairs.j0]
      have hpl := pairsF_len l now
      refine E.neg (by decide) (E.bno (pairs_f l now (by omega)) (E.bnd (refpairs_ev l now (by omega)) (E.pos (by rw [List.length_map, List.length_map]) ?_)))
      exact pp_l0 (pairsF l now) (by omega) (pairsF l now).length 0 (by omega)
end Go.Proofs.YtiogpnefnapfeaaDoor.Pure
