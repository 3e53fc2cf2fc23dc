import Derived.Test.YtiogpnefnapfeaaDoorX7
import Derived.Test.YtiogpnefnapfeaaDoorF
import Derived.Test.YtiogpnefnapfeaaDoorPurePairsPairs
import Derived.Test.YtiogpnefnapfeaaDoorPurePairsResolve
/-! PairsNest: what the printed function computes is true. -/
namespace Go.Proofs.YtiogpnefnapfeaaDoor.Pure
open Go.RowKit Go.Proofs.YtiogpnefnapfeaaDoor.X Go.Proofs.YtiogpnefnapfeaaDoorW.PrintWords Go.Proofs.YtiogpnefnapfeaaDoorW.PrintLast
set_option linter.unusedSimpArgs false
set_option linter.unusedVariables false
set_option maxRecDepth 100000
theorem rdB (B : List Bool) (j : Nat) : rdOf false B (j : Int) = B.getD j false := rfl
theorem setB (B : List Bool) (i j : Nat) (h : i < B.length) : (B.set i true).getD j false = (decide (i = j) || B.getD j false) := by
  rw [List.getD_eq_getElem?_getD, List.getElem?_set]
  by_cases q : i = j
  · rw [if_pos q, decide_eq_true q]; subst q; simp [h]
  · rw [if_neg q, decide_eq_false q, Bool.false_or, List.getD_eq_getElem?_getD]
/-- The marks behind some pairs. -/
def Mk (Q : List (Int × Int)) (B : List Bool) (n : Nat) : Prop := B.length = n ∧ ∀ j : Nat, B.getD j false = true ↔ ∃ p ∈ Q, p.1 = (j : Int) ∨ p.2 = (j : Int)
theorem nest_l2 (l first now out : List Int) (B : List Bool) (hl : l.length ≤ 800) (hf : first.length = l.length) (hn : now.length = l.length) (hI : NestI first now (pairsF l now) (pairsF l now) out) (hB : Mk (pairsF l now) B l.length) : ∀ m i : Nat, i + m = l.length → Ev (fun k => selvedgelaw17_PairsNest.l2 k l first now out B (i : Int)) true := by
  have ho := hI.len
  intro m
  induction m with
  | zero =>
    intro i h
    refine E.succ ?_
    simp only [selvedgelaw17_PairsNest.l2]
    exact E.neg (by omega) (E.bnd works_ev (E.ret rfl))
  | succ m ih =>
    intro i h
    have ih2 := ih (i + 1) (by omega)
    refine E.succ ?_
    simp only [selvedgelaw17_PairsNest.l2, rdB]
    rw [rd_nat', rd_nat', rd_nat', nat1 i (by omega)]
    have hBl := hB.1
    refine E.pos (by omega) (E.pos (by omega) (E.pos (by omega) (E.pos (by omega) ?_)))
    by_cases q : out.getD i 0 = now.getD i 0
    · exact E.pos q ih2
    · refine E.neg q (E.pos (by omega) ?_)
      have hw := (hI.was i).resolve_left q
      have h12 : Ev (fun k => if out.getD i 0 = 1 then selvedgelaw17_PairsNest.l2 k l first now out B ((i + 1 : Nat) : Int) else if out.getD i 0 = 2 then selvedgelaw17_PairsNest.l2 k l first now out B ((i + 1 : Nat) : Int) else some false) true := by
        by_cases q1 : out.getD i 0 = 1
        · exact E.pos q1 ih2
        · exact E.neg q1 (E.pos (hw.1.resolve_left q1) ih2)
      by_cases q2 : B.getD i false = true
      · exact E.pos q2 h12
      · refine E.neg q2 (E.pos (by omega) (E.pos ?_ h12))
        rcases hw.2 with z | z
        · exact z
        · exact absurd ((hB.2 i).2 z) q2
theorem nest_l1 (l first now out : List Int) (B : List Bool) (i x y : Nat) (hpl : (pairsF l now).length ≤ 65536) (hi : (pairsF l now)[i]? = some ((x : Int), (y : Int))) (nx : Ev (fun k => selvedgelaw17_PairsNest.l0 k l first now ((pairsF l now).map ofP) out B ((i + 1 : Nat) : Int)) true) : ∀ m j : Nat, j + m = i → Ev (fun k => selvedgelaw17_PairsNest.l1 k l first now ((pairsF l now).map ofP) out B (i : Int) (x : Int) (y : Int) (j : Int)) true := by
  have hil := (List.getElem?_eq_some_iff.mp hi).1
  intro m
  induction m with
  | zero =>
    intro j h
    refine E.succ ?_
    simp only [selvedgelaw17_PairsNest.l1]
    rw [nat1 i (by omega)]
    exact E.neg (by omega) nx
  | succ m ih =>
    intro j h
    have ih2 := ih (j + 1) (by omega)
    obtain ⟨p, hp⟩ : ∃ p, (pairsF l now)[j]? = some p := ⟨_, List.getElem?_eq_getElem (by omega)⟩
    have hinc := List.pairwise_iff_getElem.1 (pairsF_inc l now) j i (by omega) hil (by omega)
    rw [(List.getElem?_eq_some_iff.mp hp).2, (List.getElem?_eq_some_iff.mp hi).2] at hinc
    have hnest := pairsF_nest (List.mem_of_getElem? hp) (List.mem_of_getElem? hi) hinc
    dsimp only at hinc hnest
    refine E.succ ?_
    simp only [selvedgelaw17_PairsNest.l1, rd30 _ j p hp, ofP]
    rw [nat1 j (by omega)]
    refine E.pos (by omega) (E.pos (by omega) (E.pos (by rw [List.length_map]; omega) (E.neg (by omega) ?_)))
    by_cases q : p.2 > (x : Int)
    · exact E.pos q (E.neg (by omega) ih2)
    · exact E.neg q ih2
theorem nest_l0 (l first now : List Int) (lv sos : Int) (hl : l.length ≤ 800) (hf : first.length = l.length) (hn : now.length = l.length) : ∀ (m i : Nat) (B : List Bool), i + m = (pairsF l now).length → Mk ((pairsF l now).take i) B l.length → Ev (fun k => selvedgelaw17_PairsNest.l0 k l first now ((pairsF l now).map ofP) (resF l first now lv sos) B (i : Int)) true := by
  have hI := resF_nest (l := l) (first := first) lv sos hn
  have hpl := pairsF_len l now
  have ho := hI.len
  generalize resF l first now lv sos = out at hI ho
  intro m
  induction m with
  | zero =>
    intro i B h hB
    refine E.succ ?_
    simp only [selvedgelaw17_PairsNest.l0]
    refine E.neg (by rw [List.length_map]; omega) ?_
    rw [List.take_of_length_le (by omega)] at hB
    exact nest_l2 l first now out B hl hf hn hI hB l.length 0 (by omega)
  | succ m ih =>
    intro i B h hB
    have hil : i < (pairsF l now).length := by omega
    obtain ⟨p, hp⟩ : ∃ p, (pairsF l now)[i]? = some p := ⟨_, List.getElem?_eq_getElem hil⟩
    have hpm := List.mem_of_getElem? hp
    have hg := goF_mem ((mem_pairsF p).1 hpm)
    obtain ⟨x, hx⟩ := Int.eq_ofNat_of_zero_le hg.1.nn
    obtain ⟨y, hy⟩ := Int.eq_ofNat_of_zero_le (Int.le_trans hg.1.nn (Int.le_of_lt hg.1.lt))
    have hxy := hg.1.lt
    have hyl := hg.2.1
    obtain ⟨c, b1, b2⟩ := hg.1.ends
    have n1 := hg.1.a
    have n2 := hg.1.b
    have hsm := hI.same p hpm
    have hp2 : p = ((x : Int), (y : Int)) := Prod.ext hx hy
    rw [hx, hy] at hxy
    rw [hy] at hyl
    subst hp2
    dsimp only at b1 b2 n1 n2 hsm
    rw [Int.toNat_natCast] at b1 b2 n1 n2 hsm hsm

    have hBl := hB.1
    have hno : ∀ j : Nat, j = x ∨ j = y → ¬ B.getD j false = true := by
      intro j hj hb
      obtain ⟨r, hr, hrj⟩ := (hB.2 j).1 hb
      have hrm := List.mem_of_mem_take hr
      obtain ⟨k, hk, ek⟩ := List.getElem_of_mem hr
      rw [List.length_take] at hk
      rw [List.getElem_take] at ek
      have hinc := List.pairwise_iff_getElem.1 (pairsF_inc l now) k i (by omega) hil (by omega)
      rw [ek, (List.getElem?_eq_some_iff.mp hp).2] at hinc
      dsimp only at hinc
      obtain ⟨a1, a2, a3⟩ := pairsF_apart hrm hpm
      obtain ⟨d1, d2, d3⟩ := pairsF_apart hpm hrm
      dsimp only at a1 a2 a3 d1 d2 d3
      rcases hj with rfl | rfl
      · rcases hrj with z | z
        · omega
        · exact d1 z.symm
      · rcases hrj with z | z
        · exact a1 z
        · have := a3 z
          rw [this] at hinc
          dsimp only at hinc
          omega
    have nx : Ev (fun k => selvedgelaw17_PairsNest.l0 k l first now ((pairsF l now).map ofP) out ((B.set x true).set y true) ((i + 1 : Nat) : Int)) true := by
      refine ih (i + 1) _ (by omega) ⟨by rw [List.length_set, List.length_set]; exact hBl, fun j => ?_⟩
      rw [setB _ _ _ (by rw [List.length_set]; omega), setB _ _ _ (by omega), List.take_add_one, hp]
      simp only [Bool.or_eq_true, decide_eq_true_eq, hB.2 j, List.mem_append, Option.toList_some, List.mem_singleton]
      constructor
      · rintro (z | z | ⟨r, hr, z⟩)
        · exact ⟨_, Or.inr rfl, Or.inr (by dsimp only; omega)⟩
        · exact ⟨_, Or.inr rfl, Or.inl (by dsimp only; omega)⟩
        · exact ⟨r, Or.inl hr, z⟩
      · rintro ⟨r, hr | hr, z⟩
        · exact Or.inr (Or.inr ⟨r, hr, z⟩)
        · subst hr
          dsimp only at z
          omega
    have hj3 : Ev (fun k => selvedgelaw17_PairsNest.j3 k l first now ((pairsF l now).map ofP) out B (i : Int) (x : Int) (y : Int) false) true := by
      refine E.succ ?_
      simp only [selvedgelaw17_PairsNest.j3]
      have e1 := bracket_ev (rd l (x : Int))
      have e2 := bracket_ev (rd l (y : Int))
      rw [rd_nat', b1] at e1
      rw [rd_nat', b2] at e2
      rw [rd_nat', rd_nat']
      refine E.neg (by decide) (E.pos (by omega) (E.pos (by omega) (E.bnd e1 (E.pos (by omega) (E.pos (by omega) (E.bnd e2 (E.pos (by trivial) (E.pos (by trivial) (E.neg (by simp) (E.pos (by trivial) ?_))))))))))
      have ec : ((c, true, true) : Int × Bool × Bool).1 = c := rfl
      dsimp only
      rw [bne_self_eq_false]
      refine E.succ ?_
      simp only [selvedgelaw17_PairsNest.j4]
      rw [Int.toNat_natCast, Int.toNat_natCast]
      exact E.neg (by decide) (E.pos (by omega) (E.pos (by omega) (E.pos (by omega) (E.pos (by omega) (nest_l1 l first now out _ i x y (by omega) hp nx i 0 (by omega))))))
    refine E.succ ?_
    simp only [selvedgelaw17_PairsNest.l0, rd30 _ i _ hp, ofP, rdB]
    rw [rd_nat', rd_nat', rd_nat', rd_nat', rd_nat', rd_nat']
    refine E.pos (by rw [List.length_map]; omega) (E.pos (by omega) (E.neg (by omega) (E.neg (by omega) (E.neg (by omega) (E.pos (by omega) (E.pos (by omega) (E.neg (hno x (Or.inl rfl)) (E.pos (by omega) (E.pos (by omega) (E.neg (hno y (Or.inr rfl)) (E.pos (by omega) (E.pos n1 (E.pos (by omega) (E.pos n2 (E.pos (by omega) (E.pos (by omega) ?_))))))))))))))))
    by_cases q : out.getD x 0 = out.getD y 0
    · exact E.pos q hj3
    · refine E.neg q (E.pos (by omega) ?_)
      by_cases q1 : first.getD x 0 = 9
      · exact E.pos q1 hj3
      · refine E.neg q1 (E.pos (by omega) ?_)
        have : first.getD y 0 = 9 := by
          by_cases q2 : first.getD y 0 = 9
          · exact q2
          · exact absurd (hsm q1 q2) q
        rw [this]
        exact hj3
theorem nest_ev (l first now : List Int) (lv sos : Int) (hv : 0 ≤ lv ∧ lv ≤ 255) : Ev (fun k => selvedgelaw17_PairsNest.f k l first now lv sos) true := by
  have ht : Ev (fun k => selvedgelaw17_PairsNest.j0 k l first now lv sos true) true := by
    refine E.succ ?_
    simp only [selvedgelaw17_PairsNest.j0]
    exact E.pos (by trivial) (E.bnd works_ev (E.ret rfl))
  simp only [selvedgelaw17_PairsNest.f]
  by_cases q : (l.length : Int) > 800
  · exact E.pos q ht
  · refine E.neg q ?_
    by_cases q2 : (first.length : Int) = (l.length : Int)
    · refine E.pos q2 ?_
      by_cases q3 : now.length = l.length
      · have e1 : ((now.length : Int) != (l.length : Int)) = false := by rw [q3]; simp
        rw [e1]
        have r1 : resolveF l first now lv sos = (resF l first now lv sos, 0) := by
          unfold resolveF
          rw [if_neg (by omega), if_neg (by omega)]
        have f1 := resolve_f l first now lv sos hv
        rw [r1] at f1
        have hlen := (resF_nest (l := l) (first := first) lv sos q3).len
        refine E.succ ?_
        simp only [selvedgelaw17_PairsNest.j0]
        refine E.neg (by decide) (E.bno (pairs_f l now (by omega)) (E.bno f1 (E.pos (by trivial) ?_)))
        dsimp only
        have e2 : (((resF l first now lv sos).length : Int) != (l.length : Int)) = false := by rw [hlen, q3]; simp
        rw [e2]
        refine E.succ ?_
        simp only [selvedgelaw17_PairsNest.j1]
        refine E.neg (by decide) (E.pos (by omega) (E.pos (by omega) ?_))
        refine nest_l0 l first now lv sos (by omega) (by omega) q3 (pairsF l now).length 0 _ (by omega) ⟨by simp, fun j => ?_⟩
        rw [List.take_zero]
        simp [List.getD_eq_getElem?_getD, List.getElem?_replicate]
        split <;> rfl
      · have e1 : ((now.length : Int) != (l.length : Int)) = true := bne_iff_ne.mpr (by omega)
        rw [e1]
        exact ht
    · exact E.neg q2 ht
theorem PairsNest : selvedgelaw17_PairsNest.Pure := fun l first now lv sos _ _ _ _ _ _ _ _ _ hlv _ => E.out (nest_ev l first now lv sos (u8_wf hlv))
end Go.Proofs.YtiogpnefnapfeaaDoor.Pure
