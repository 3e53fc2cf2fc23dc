import Derived.Test.YtiogpnefnapfeaaDoorT12
import Derived.Test.YtiogpnefnapfeaaDoorPurePairsNest
/-! PairsKnown: what the walk's function computes is true. -/
namespace Go.Proofs.YtiogpnefnapfeaaDoor.Pure
open Go.RowKit Go.Proofs.YtiogpnefnapfeaaDoor.X Go.Proofs.YtiogpnefnapfeaaDoorW.PrintWords Go.Proofs.YtiogpnefnapfeaaDoorW.PrintLast
set_option linter.unusedSimpArgs false
set_option linter.unusedVariables false
set_option maxRecDepth 100000
def deepA : List Int := List.replicate 70 40
def deepB : List Int := deepA ++ List.replicate 70 41
def deepC : List Int := List.replicate 140 14
theorem deepC_ev : Ev (fun k => selvedgelaw17_classes.f k deepB) deepC := E.of (fun k => selvedgelaw17_classes.mono _ k) 400 (by decide +kernel)
def rowA : List Int := [40, 120, 41, 40, 40, 121, 41, 41]
def rowC : List Int := [14, 1, 14, 14, 14, 1, 14, 14]
theorem rowC_ev : Ev (fun k => selvedgelaw17_classes.f k rowA) rowC := E.of (fun k => selvedgelaw17_classes.mono _ k) 400 (by decide +kernel)
theorem big_res : pairs_Resolve.f (List.replicate 65537 0) (List.replicate 65537 0) (List.replicate 65537 0) 0 1 = some (([] : List Int), (3 : Int)) := by
  unfold pairs_Resolve.f resolveF
  rw [if_pos (by decide), if_pos (by rw [List.length_replicate]; decide)]
theorem known_j4 : Ev (fun k => selvedgelaw17_PairsKnown.j4 k 1 2 14 true true true) true := by
  refine E.succ ?_
  simp only [selvedgelaw17_PairsKnown.j4]
  refine E.bno rfl (E.bnd rowC_ev (E.bno rfl (E.pos (by decide) (E.pos (by decide) (E.bno big_res (E.pos (by decide) ?_))))))
  refine E.bno (a := (([] : List Int), (2 : Int))) (by decide +kernel) (E.bno (a := (([] : List Int), (2 : Int))) (by decide +kernel) ?_)
  refine E.bnd (pres_ev _ _ _ 0 1 (by decide)) (E.pos (by trivial) (E.bnd (pres_ev _ _ _ 1 1 (by decide)) (E.pos (by trivial) (E.bnd (nest_ev _ _ _ 0 2 (by decide)) (E.pos (by trivial) ?_)))))
  exact E.pos (by trivial) (E.pos (by trivial) (E.pos (by trivial) (E.pos (by trivial) (E.pos (by trivial) (E.pos (by trivial) (E.bnd works_ev (E.ret rfl)))))))
theorem pairs_none : pairsF deepB deepC = [] := by decide +kernel
theorem pairs_63 : (pairsF ((deepB.take 133).drop 7) ((deepC.take 133).drop 7)).length = 63 := by decide +kernel
theorem deep_none : pairs_Pairs.f deepB deepC = some [] := by
  rw [pairs_f deepB deepC (by decide), pairs_none]
  rfl
theorem known_l1e : Ev (fun k => selvedgelaw17_PairsKnown.l1 k 1 2 14 true true deepB 70) true := by
  refine E.succ ?_
  simp only [selvedgelaw17_PairsKnown.l1]
  refine E.neg (by decide) (E.bnd deepC_ev (E.bno (a := ([] : List S30)) deep_none (E.pos (by trivial) (E.pos (by decide) (E.pos (by decide) (E.pos (by decide) ?_))))))
  obtain ⟨P, hP, hl⟩ : ∃ P, pairs_Pairs.f ((deepB.take 133).drop 7) ((deepC.take 133).drop 7) = some P ∧ P.length = 63 := ⟨_, pairs_f _ _ (by decide), by rw [List.length_map]; exact pairs_63⟩
  exact E.bno hP (E.pos (by omega) (E.bnd (pres_ev _ _ _ 0 1 (by decide)) (E.pos (by trivial) (E.bnd (nest_ev _ _ _ 1 1 (by decide)) known_j4))))
theorem known_l1 : ∀ m i : Nat, i + m = 70 → Ev (fun k => selvedgelaw17_PairsKnown.l1 k 1 2 14 true true (deepA ++ List.replicate i 41) (i : Int)) true := by
  intro m
  induction m with
  | zero =>
    intro i h
    obtain rfl : i = 70 := by omega
    exact known_l1e
  | succ m ih =>
    intro i h
    have ih2 := ih (i + 1) (by omega)
    rw [List.replicate_succ', ← List.append_assoc] at ih2
    refine E.succ ?_
    simp only [selvedgelaw17_PairsKnown.l1]
    rw [nat1 i (by omega)]
    exact E.pos (by omega) (E.pos (by rw [List.length_append, List.length_replicate]; have : deepA.length = 70 := rfl; omega) ih2)
theorem known_l0 : ∀ m i : Nat, i + m = 70 → Ev (fun k => selvedgelaw17_PairsKnown.l0 k 1 2 14 true true (List.replicate i 40) (i : Int)) true := by
  intro m
  induction m with
  | zero =>
    intro i h
    obtain rfl : i = 70 := by omega
    refine E.succ ?_
    simp only [selvedgelaw17_PairsKnown.l0]
    refine E.neg (by decide) ?_
    have := known_l1 70 0 rfl
    rw [List.replicate_zero, List.append_nil] at this
    exact this
  | succ m ih =>
    intro i h
    have ih2 := ih (i + 1) (by omega)
    rw [List.replicate_succ'] at ih2
    refine E.succ ?_
    simp only [selvedgelaw17_PairsKnown.l0]
    rw [nat1 i (by omega)]
    exact E.pos (by omega) (E.pos (by rw [List.length_replicate]; omega) ih2)
theorem known_j1 : Ev (fun k => selvedgelaw17_PairsKnown.j1 k 1 2 14 true true) true := by
  refine E.succ ?_
  simp only [selvedgelaw17_PairsKnown.j1]
  exact known_l0 70 0 rfl
theorem bec (s : ByteArray) (lv sos : Int) (want : List Int) (h : selvedgelaw17_become.f 400 s lv sos want = some true) : Ev (fun k => selvedgelaw17_become.f k s lv sos want) true := E.of (fun k => selvedgelaw17_become.mono s lv sos want k) 400 h
theorem known_j0 : Ev (fun k => selvedgelaw17_PairsKnown.j0 k 1 2 14 true) true := by
  refine E.succ ?_
  simp only [selvedgelaw17_PairsKnown.j0]
  exact E.bnd (bec _ _ _ _ (by decide +kernel)) (E.pos (by trivial) (E.bnd (bec _ _ _ _ (by decide +kernel)) (E.pos (by trivial) (E.bnd (bec _ _ _ _ (by decide +kernel)) (E.pos (by trivial) (E.bnd (bec _ _ _ _ (by decide +kernel)) known_j1))))))
theorem PairsKnown : selvedgelaw17_PairsKnown.Pure := by
  refine E.out (g := fun k => selvedgelaw17_PairsKnown.f k) ?_
  simp only [selvedgelaw17_PairsKnown.f]
  exact E.bnd (bec _ _ _ _ (by decide +kernel)) (E.pos (by trivial) (E.bnd (bec _ _ _ _ (by decide +kernel)) (E.pos (by trivial) (E.bnd (bec _ _ _ _ (by decide +kernel)) (E.pos (by trivial) (E.bnd (bec _ _ _ _ (by decide +kernel)) (E.pos (by trivial) (E.bnd (bec _ _ _ _ (by decide +kernel)) (E.pos (by trivial) (E.bnd (bec _ _ _ _ (by decide +kernel)) (E.pos (by trivial) (E.bnd (bec _ _ _ _ (by decide +kernel)) (E.pos (by trivial) (E.bnd (bec _ _ _ _ (by decide +kernel)) known_j0))))))))))))))
end Go.Proofs.YtiogpnefnapfeaaDoor.Pure
