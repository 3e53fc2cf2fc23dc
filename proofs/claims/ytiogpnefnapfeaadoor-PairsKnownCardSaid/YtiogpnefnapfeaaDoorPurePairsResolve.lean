import Derived.Test.YtiogpnefnapfeaaDoorX6
import Derived.Test.YtiogpnefnapfeaaDoorF
/-! PairsResolve: what the printed function computes is true. -/
namespace Go.Proofs.YtiogpnefnapfeaaDoor.Pure
open Go.RowKit Go.Proofs.YtiogpnefnapfeaaDoor.X Go.Proofs.YtiogpnefnapfeaaDoorW.PrintWords Go.Proofs.YtiogpnefnapfeaaDoorW.PrintLast
set_option linter.unusedSimpArgs false
set_option linter.unusedVariables false
set_option maxRecDepth 100000
theorem resolve_f (l first now : List Int) (lv sos : Int) (h : 0 ≤ lv ∧ lv ≤ 255) : pairs_Resolve.f l first now lv sos = some (resolveF l first now lv sos) := if_pos h
theorem resolve_len (l first now : List Int) (lv sos : Int) : (resolveF l first now lv sos).1.length ≤ now.length := by
  unfold resolveF
  split
  · exact Nat.zero_le _
  · split
    · exact Nat.zero_le _
    · unfold resF; dsimp only; rw [fold_len]; exact Nat.le_refl _
theorem u8_wf {a : Int} (h : (Lit.int .u8 a).wf = true) : 0 ≤ a ∧ a ≤ 255 := by
  have h1 : IntKind.u8.min = 0 := rfl
  have h2 : IntKind.u8.max = 255 := rfl
  simp only [Lit.wf, Bool.and_eq_true, decide_eq_true_eq] at h
  omega
theorem pres_ev (l first now : List Int) (lv sos : Int) (hv : 0 ≤ lv ∧ lv ≤ 255) : Ev (fun k => selvedgelaw17_PairsResolve.f k l first now lv sos) true := by
  have ht : Ev (fun k => selvedgelaw17_PairsResolve.j0 k l first now lv sos true) true := by
    refine E.succ ?_
    simp only [selvedgelaw17_PairsResolve.j0]
    exact E.pos (by trivial) (E.bnd works_ev (E.ret rfl))
  simp only [selvedgelaw17_PairsResolve.f]
  by_cases q : (l.length : Int) > 800
  · exact E.pos q ht
  · refine E.neg q ?_
    by_cases q2 : (first.length : Int) > 800
    · exact E.pos q2 ht
    · refine E.neg q2 ?_
      by_cases q3 : (now.length : Int) > 800
      · rw [decide_eq_true q3]; exact ht
      · rw [decide_eq_false q3]
        refine E.succ ?_
        simp only [selvedgelaw17_PairsResolve.j0, List.nil_append]
        have hrl := resolve_len l first now lv sos
        refine E.neg (by decide) (E.pos (by simp; omega) (E.bno rfl (E.pos (by simp; omega) (E.bno rfl (E.bno (resolve_f l first now lv sos hv) (E.bnd (refres_ev l first now lv sos hv (by omega)) (E.bnd (is_ev _ (by omega)) (E.pos (by trivial) (E.pos (by trivial) (E.bnd (is_ev first (by omega)) (E.pos (by trivial) (E.bnd (is_ev now (by omega)) (E.pos (by trivial) (E.bnd works_ev (E.ret rfl)))))))))))))))
theorem PairsResolve : selvedgelaw17_PairsResolve.Pure := fun l first now lv sos _ _ _ _ _ _ _ _ _ hlv _ => E.out (pres_ev l first now lv sos (u8_wf hlv))
end Go.Proofs.YtiogpnefnapfeaaDoor.Pure
