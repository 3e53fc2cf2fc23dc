import Derived.Test.YtiogpnefnapfeaaDoorX8
import Derived.Test.YtiogpnefnapfeaaDoorF
import Derived.Test.YtiogpnefnapfeaaDoorPurePairsPairs
import Derived.Test.YtiogpnefnapfeaaDoorPurePairsResolve
/-! PairsPlain: what the printed function computes is true. -/
namespace Go.Proofs.YtiogpnefnapfeaaDoor.Pure
open Go.RowKit Go.Proofs.YtiogpnefnapfeaaDoor.X Go.Proofs.YtiogpnefnapfeaaDoorW.PrintWords Go.Proofs.YtiogpnefnapfeaaDoorW.PrintLast
set_option linter.unusedSimpArgs false
set_option linter.unusedVariables false
set_option maxRecDepth 100000
def pf (r : Int) : Int := if (brk r).2.2 = true then 97 else r
def nf (c : Int) : Int := if sideF c = 0 then c else 13
theorem pf_none (r : Int) : (brk (pf r)).2.2 = false := by
  unfold pf
  split
  · decide
  · next q => exact Bool.eq_false_iff.mpr q
theorem nf_none (c : Int) : sideF (nf c) = 0 := by
  unfold nf
  split
  · next q => exact q
  · decide
theorem plain_l0 (l first now : List Int) (lv sos : Int) (hv : 0 ≤ lv ∧ lv ≤ 255) (hl : l.length ≤ 800) (hf : first.length = l.length) (hn : now.length = l.length) : ∀ (d e a b : List Int), l = a ++ d → now = b ++ e → a.length = b.length → d.length = e.length → Ev (fun k => selvedgelaw17_PairsPlain.l0 k l first now lv sos (a.map pf) (b.map nf) (a.length : Int)) true := by
  intro d
  induction d with
  | nil =>
    intro e a b h1 h2 hab hde
    have he : e = [] := List.eq_nil_of_length_eq_zero hde.symm
    subst he
    rw [List.append_nil] at h1 h2
    subst h1; subst h2
    have hp1 : ∀ i, i < (l.map pf).length → (brk ((l.map pf).getD i 0)).2.2 = false := by
      intro i hi
      rw [List.length_map] at hi
      rw [List.getD_eq_getElem?_getD, List.getElem?_map, List.getElem?_eq_getElem hi]
      exact pf_none _
    have r1 : resolveF (l.map pf) first now lv sos = (now, 0) := by
      unfold resolveF
      rw [if_neg (by rw [List.length_map]; omega), if_neg (by rw [List.length_map]; omega), resF_plain lv sos hp1]
    have r2 : resolveF l first (now.map nf) lv sos = (now.map nf, 0) := by
      unfold resolveF
      rw [if_neg (by omega), if_neg (by rw [List.length_map]; omega), resF_none lv sos]
      intro c hc
      obtain ⟨c', _, rfl⟩ := List.mem_map.1 hc
      exact nf_none c'
    have p1 := pairs_f (l.map pf) now (by rw [List.length_map]; omega)
    rw [pairsF_none hp1] at p1
    have f1 := resolve_f (l.map pf) first now lv sos hv
    have f2 := resolve_f l first (now.map nf) lv sos hv
    rw [r1] at f1
    rw [r2] at f2
    refine E.succ ?_
    simp only [selvedgelaw17_PairsPlain.l0]
    exact E.neg (by omega) (E.bno f1 (E.bno f2 (E.pos (by trivial) (E.pos (by trivial) (E.bnd (is_ev now (by omega)) (E.pos (by trivial) (E.bnd (is_ev (now.map nf) (by rw [List.length_map]; omega)) (E.pos (by trivial) (E.bno p1 (E.pos (by trivial) (E.bnd works_ev (E.ret rfl))))))))))))
  | cons r d ih =>
    intro e a b h1 h2 hab hde
    cases e with
    | nil => simp at hde
    | cons c e =>
      have hal : a.length + (d.length + 1) = l.length := by rw [h1]; simp
      have hr : rd l (a.length : Int) = r := by rw [rd_nat', h1, List.getD_eq_getElem?_getD, List.getElem?_append_right (Nat.le_refl _)]; simp
      have hc : rd now (a.length : Int) = c := by rw [rd_nat', h2, hab, List.getD_eq_getElem?_getD, List.getElem?_append_right (Nat.le_refl _)]; simp
      have ih2 := ih e (a ++ [r]) (b ++ [c]) (by rw [h1]; simp) (by rw [h2]; simp) (by simp; omega) (by simpa using hde)
      rw [List.length_append, List.length_singleton, List.map_append, List.map_append] at ih2
      refine E.succ ?_
      simp only [selvedgelaw17_PairsPlain.l0, hr, hc]
      rw [nat1 _ (by omega)]
      have hside : ∀ y, y = a.map pf ++ [pf r] → Ev (fun k => (selvedgeref17_Side.f c).bind fun t281 => (if t281 = 0 then (if (b.map nf).length < 140737488355328 then (selvedgelaw17_PairsPlain.l0 k l first now lv sos y (b.map nf ++ [c]) ((a.length + 1 : Nat) : Int)) else (none)) else (if (b.map nf).length < 140737488355328 then (selvedgelaw17_PairsPlain.l0 k l first now lv sos y (b.map nf ++ [13]) ((a.length + 1 : Nat) : Int)) else (none)))) true := by
        intro y hy
        subst hy
        refine E.bno (side_f c) ?_
        by_cases q : sideF c = 0
        · refine E.pos q (E.pos (by rw [List.length_map]; omega) ?_)
          have e1 : nf c = c := if_pos q
          rw [List.map_cons, List.map_nil, List.map_cons, List.map_nil, e1] at ih2
          exact ih2
        · refine E.neg q (E.pos (by rw [List.length_map]; omega) ?_)
          have e1 : nf c = 13 := if_neg q
          rw [List.map_cons, List.map_nil, List.map_cons, List.map_nil, e1] at ih2
          exact ih2
      refine E.pos (by omega) (E.pos (by omega) (E.bnd (bracket_ev r) ?_))
      by_cases q : (brk r).2.2 = true
      · exact E.pos q (E.pos (by rw [List.length_map]; omega) (E.bno rfl (E.pos (by omega) (hside _ (by unfold pf; rw [if_pos q])))))
      · exact E.neg q (E.pos (by rw [List.length_map]; omega) (E.bno rfl (E.pos (by omega) (hside _ (by unfold pf; rw [if_neg q])))))
theorem PairsPlain : selvedgelaw17_PairsPlain.Pure := by
  intro l first now lv sos _ _ _ _ _ _ _ _ _ hlv hsos
  have hv := u8_wf hlv
  have ht : Ev (fun k => selvedgelaw17_PairsPlain.j0 k l first now lv sos true) true := by
    refine E.succ ?_
    simp only [selvedgelaw17_PairsPlain.j0]
    exact E.pos (by trivial) (E.bnd works_ev (E.ret rfl))
  refine E.out (g := fun k => selvedgelaw17_PairsPlain.f k l first now lv sos) ?_
  simp only [selvedgelaw17_PairsPlain.f]
  by_cases q : (l.length : Int) > 800
  · exact E.pos q ht
  · refine E.neg q ?_
    by_cases q2 : (first.length : Int) = (l.length : Int)
    · refine E.pos q2 ?_
      by_cases q3 : now.length = l.length
      · have e1 : ((now.length : Int) != (l.length : Int)) = false := by rw [q3]; simp
        rw [e1]
        refine E.succ ?_
        simp only [selvedgelaw17_PairsPlain.j0]
        refine E.neg (by decide) ?_
        exact plain_l0 l first now lv sos hv (by omega) (by omega) q3 l now [] [] rfl rfl rfl q3.symm
      · have e1 : ((now.length : Int) != (l.length : Int)) = true := bne_iff_ne.mpr (by omega)
        rw [e1]
        exact ht
    · exact E.neg q2 ht
end Go.Proofs.YtiogpnefnapfeaaDoor.Pure
