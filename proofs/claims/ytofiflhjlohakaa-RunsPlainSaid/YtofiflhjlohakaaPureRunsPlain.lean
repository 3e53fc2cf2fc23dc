import Derived.Test.YtofiflhjlohakaaX9
import Derived.Test.YtofiflhjlohakaaC
namespace Go.Proofs.Ytofiflhjlohakaa.Pure
open Go.RowKit Go.Proofs.Ytofiflhjlohakaa.X Go.Proofs.Ytofiflhjlohakaa Go.Proofs.YtofiflhjlohakaaW.PrintWords Go.Proofs.YtofiflhjlohakaaW.PrintLast
set_option linter.unusedVariables false
set_option linter.unusedSimpArgs false
theorem plain_l2 (c : List Int) (S : List S36) (hc : c.length ≤ 2000) (hS : (S.length : Int) = 1) (hy : (rd_T36 S 0).f0 = upto c.length) : ∀ (t i : Nat), i + t = c.length → Ev (fun k => selvedgelaw15_RunsPlain.l2 k c S (i : Int)) true := by
  intro t
  induction t with
  | zero => intro i hi; exact E.succ (E.neg (by omega) (E.bnd works_ev (E.ret rfl)))
  | succ t ih =>
    intro i hi
    have w : wrap64 ((i : Int) + 1) = ((i + 1 : Nat) : Int) := by rw [E.w64 (by omega) (by omega)]; omega
    have IH := ih (i + 1) (by omega)
    rw [← w] at IH
    have e1 := hy
    refine E.succ (E.pos (by omega) (E.pos (by omega) (E.pos (by omega) (E.pos (by rw [e1]; simp [upto]; omega) (E.pos ?_ IH)))))
    rw [e1]
    exact rd_range c.length (fun j : Nat => (j : Int)) i (by omega)
theorem plain_j4 (v s : Int) (c : List Int) (hc : c.length ≤ 2000) (S : List S36) (hS : S = [⟨upto c.length, v, s, s⟩]) : Ev (fun k => selvedgelaw15_RunsPlain.j4 k v c S s) true := by
  have h1 : (S.length : Int) = 1 := by rw [hS]; rfl
  have h2 : rd_T36 S 0 = ⟨upto c.length, v, s, s⟩ := by rw [hS]; rfl
  have h3 : ((rd_T36 S 0).f3 != s) = false := by rw [h2]; simp
  have h4 : ((rd_T36 S 0).f0.length : Int) = (c.length : Int) := by rw [h2]; simp [upto]
  clear hS
  have h5 : ∀ b : Bool, b = false → Ev (fun k => selvedgelaw15_RunsPlain.j5 k c S b) true := fun b hb => E.succ (E.neg (by rw [hb]; decide) (plain_l2 c S hc h1 (by rw [h2]) c.length 0 (by omega)))
  exact E.succ (E.pos h1 (E.pos (by omega) (E.pos h4 (E.pos (by rw [h2]) (E.pos (by rw [h2]) (h5 _ h3))))))
theorem plain_j3t (v e : Int) (c : List Int) (S : List S36) (b : Bool) (hb : b = true) (he : e = 0) (hS : (S.length : Int) = 0) : Ev (fun k => selvedgelaw15_RunsPlain.j3 k v c S e b) true :=
  E.succ (E.pos hb (E.pos he (E.pos hS (E.bnd works_ev (E.ret rfl)))))
theorem plain_j3f (v e : Int) (hv : 0 ≤ v) (c : List Int) (hc : c.length ≤ 2000) (S : List S36) (b : Bool) (hb : b = false) (hS : S = [⟨upto c.length, v, sideV v, sideV v⟩]) : Ev (fun k => selvedgelaw15_RunsPlain.j3 k v c S e b) true := by
  have ht : Int.tmod v 2 = v % 2 := Int.tmod_eq_emod_of_nonneg hv
  refine E.succ (E.neg (by rw [hb]; decide) ?_)
  by_cases q : v % 2 = 1
  · have e2 : sideV v = 2 := if_pos q
    exact E.pos (by rw [ht]; exact q) (plain_j4 v 2 c hc S (by rw [hS, e2]))
  · have e2 : sideV v = 1 := if_neg q
    exact E.neg (by rw [ht]; exact q) (plain_j4 v 1 c hc S (by rw [hS, e2]))
theorem plain_l1 (v base : Int) (hb : 0 ≤ base ∧ base ≤ 255) (hv : base ≤ v ∧ v ≤ 255) (c : List Int) (hc : c.length ≤ 2000) (hr : ∀ x ∈ c, remC x = false) : ∀ (t i : Nat), i + t = c.length →
    Ev (fun k => selvedgelaw15_RunsPlain.l1 k v base c (List.replicate i v ++ List.replicate t 0) (i : Int)) true := by
  intro t
  induction t with
  | zero =>
    intro i hi
    have e : i = c.length := by omega
    refine E.succ (E.neg (by simp; try omega) ?_)
    rw [e, List.replicate_zero, List.append_nil]
    by_cases h0 : c.length = 0
    · have : c = [] := List.eq_nil_of_length_eq_zero h0
      subst this
      have hs : runs_Sequences.f [] [] base = some ([], 0) := seq_f [] [] base hb rfl (by decide) rfl
      exact E.bno hs (E.pos rfl (plain_j3t v 0 [] [] _ rfl rfl rfl))
    · have hs := plain_seq c v base hb hv (by omega) (by omega) hr
      have hz : ((c.length : Int) == 0) = false := beq_eq_false_iff_ne.mpr (by omega)
      exact E.bno hs (E.pos rfl (plain_j3f v 0 (by omega) c hc _ _ hz rfl))
  | succ t ih =>
    intro i hi
    have w : wrap64 ((i : Int) + 1) = ((i + 1 : Nat) : Int) := by rw [E.w64 (by omega) (by omega)]; omega
    have IH := ih (i + 1) (by omega)
    rw [← w] at IH
    have es : (List.replicate i v ++ List.replicate (t + 1) 0).set ((i : Int)).toNat v = List.replicate (i + 1) v ++ List.replicate t 0 := by
      rw [List.replicate_succ, E.set_mid' (by simp), List.replicate_succ', List.append_assoc]
      rfl
    rw [← es] at IH
    exact E.succ (E.pos (by simp; omega) (E.pos (by omega) IH))
theorem plain_l0 (l : List Int) (v base : Int) (hb : 0 ≤ base ∧ base ≤ 255) (hv : base ≤ v ∧ v ≤ 255) (hl : l.length ≤ 2000) : ∀ (t i : Nat) (c : List Int), i + t = l.length → c.length ≤ i → (∀ x ∈ c, remC x = false) →
    Ev (fun k => selvedgelaw15_RunsPlain.l0 k l v base c (i : Int)) true := by
  intro t
  induction t with
  | zero =>
    intro i c hi hc hr
    refine E.succ (E.neg (by omega) (E.pos (by omega) (E.pos (by rw [Int.toNat_natCast]; omega) ?_)))
    rw [Int.toNat_natCast]
    exact plain_l1 v base hb hv c (by omega) hr c.length 0 (by omega)
  | succ t ih =>
    intro i c hi hc hr
    have w : wrap64 ((i : Int) + 1) = ((i + 1 : Nat) : Int) := by rw [E.w64 (by omega) (by omega)]; omega
    refine E.succ (E.pos (by omega) (E.pos (by omega) (E.bno (removed14 _) ?_)))
    rw [w]
    cases q : remC (rd l (i : Int)) with
    | true => exact E.pos rfl (ih (i + 1) c (by omega) (by omega) hr)
    | false =>
      refine E.neg (by decide) (E.pos (by omega) (ih (i + 1) _ (by omega) (by simp; omega) (fun x hx => ?_)))
      rcases List.mem_append.mp hx with hx | hx
      · exact hr x hx
      · rw [List.mem_singleton.mp hx]; exact q
theorem RunsPlain : selvedgelaw15_RunsPlain.Pure := by
  intro l v base hl hl2 hlw hvw hbw
  have hv := E.u8_lo hvw
  have hb := E.u8_lo hbw
  have hj : ∀ b : Bool, (b = false → (l.length : Int) ≤ 2000 ∧ ¬ v < base) → Ev (fun k => selvedgelaw15_RunsPlain.j0 k l v base b) true := by
    intro b hq
    by_cases hb2 : b = true
    · exact E.succ (E.pos hb2 (E.bnd works_ev (E.ret rfl)))
    · obtain ⟨h1, h2⟩ := hq (eq_false_of_ne_true hb2)
      exact E.succ (E.neg hb2 (plain_l0 l v base hb (by omega) (by omega) l.length 0 [] (by omega) (by simp) (fun x hx => by simp at hx)))
  refine E.out (g := fun k => selvedgelaw15_RunsPlain.f k l v base) ?_
  by_cases h : (l.length : Int) > 2000
  · exact E.pos h (hj true (fun h => by cases h))
  · exact E.neg h (hj _ (fun h2 => ⟨by omega, of_decide_eq_false h2⟩))
end Go.Proofs.Ytofiflhjlohakaa.Pure
