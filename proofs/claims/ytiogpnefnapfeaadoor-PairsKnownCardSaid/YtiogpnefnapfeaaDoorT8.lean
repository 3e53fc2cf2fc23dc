import Derived.Test.YtiogpnefnapfeaaDoorX0
import Derived.Test.YtiogpnefnapfeaaDoorB
import Derived.Test.YtiogpnefnapfeaaDoorE
import Derived.Deep.RegionHeld3
import Derived.Carry
import Derived.Deep.Cut
import Derived.Deep.CutBlock
/-! What pairs.Resolve leans on: side, slices.Clone. -/
namespace Go.Proofs.YtiogpnefnapfeaaDoor.X
open Go.RowKit Go.Proofs.YtiogpnefnapfeaaDoorW.PrintWords Go.Proofs.YtiogpnefnapfeaaDoorW.PrintLast Go.Proofs.YtiogpnefnapfeaaDoorW.PrintMore Go.Proofs.YtiogpnefnapfeaaDoor.Pure
set_option linter.unusedVariables false
set_option linter.unusedSimpArgs false
set_option maxRecDepth 100000
set_option maxHeartbeats 8000000
theorem side_w (c : Int) (w : World) : Calls Tryd.prog 24 #[.int .u8 c] w fun e w' => e = .returned (.int .u8 (sideF c)) ∧ w' = w := by
  obtain ⟨R, hR⟩ : ∃ R, sideF c = R := ⟨_, rfl⟩
  rw [hR]
  unfold sideF at hR
  by_cases q1 : c = 1
  · rw [if_pos q1] at hR
    subst hR; subst q1
    go_enter Tryd.func24, Tryd.ntmps24
    go_wp2
    go_ret
    exact ⟨rfl, rfl⟩
  · have e1 : (c == 1) = false := beq_eq_false_iff_ne.mpr q1
    rw [if_neg q1] at hR
    by_cases q2 : c = 2
    · rw [if_pos (Or.inl q2)] at hR
      subst hR; subst q2
      go_enter Tryd.func24, Tryd.ntmps24
      go_wp2
      go_ret
      exact ⟨rfl, rfl⟩
    · have e2 : (c == 2) = false := beq_eq_false_iff_ne.mpr q2
      by_cases q3 : c = 4
      · rw [if_pos (Or.inr (Or.inl q3))] at hR
        subst hR; subst q3
        go_enter Tryd.func24, Tryd.ntmps24
        go_wp2
        go_ret
        exact ⟨rfl, rfl⟩
      · have e3 : (c == 4) = false := beq_eq_false_iff_ne.mpr q3
        by_cases q4 : c = 7
        · rw [if_pos (Or.inr (Or.inr q4))] at hR
          subst hR; subst q4
          go_enter Tryd.func24, Tryd.ntmps24
          go_wp2
          go_ret
          exact ⟨rfl, rfl⟩
        · have e4 : (c == 7) = false := beq_eq_false_iff_ne.mpr q4
          rw [if_neg (by rintro (z | z | z) <;> contradiction)] at hR
          subst hR
          clear q1 q2 q3 q4
          go_enter Tryd.func24, Tryd.ntmps24
          go_wp2
          go_ret
          exact ⟨rfl, rfl⟩
theorem eq_nil_in (d : Nat) (A : Option Addr) (n c : Nat) (w : World) : (Op.equalIn (d + 1) 23 (.slice A n c) (.slice none 0 0)).run Tryd.prog w = .ok A.isNone w := by
  unfold Op.equalIn
  rw [Sem.run_bind, run_underlying Tryd.underlying23]
  cases A <;> rfl
theorem eq_nil (A : Option Addr) (n c : Nat) (w : World) : (binOp .eql 23 (.slice A n c) (.slice none 0 0)).run Tryd.prog w = .ok (.bool A.isNone) w := by
  have h := eq_nil_in 9999 A n c w
  have h2 : (Op.equal 23 (.slice A n c) (.slice none 0 0)).run Tryd.prog w = .ok A.isNone w := h
  simp [binOp, h2]
theorem clone_w (A : Option Addr) (c : Nat) (l : List Int) (w : World) (hr : Kd.C (Kd.int .u8) w A l.length l) (hc : l.length ≤ c) (hl : l.length ≤ 65536) :
    Calls Tryd.prog 21 #[.slice A l.length c] w fun e w' => ∃ v0 : Value, e = .returned v0 ∧ Kd.R (Kd.int .u8) 33 w' w.heap.size (fun _ => True) v0 l ∧ Below w.heap.size w w' := by
  cases A with
  | none =>
    have hn : l = [] := by
      cases l with
      | nil => rfl
      | cons x l =>
        obtain ⟨ad, e, _⟩ := Kd.at_int hr 0 (by decide) (by rw [List.length_cons]; omega)
        cases e
    subst hn
    clear hr
    have en := eq_nil none 0 c
    go_enter Tryd.func21, Tryd.ntmps21
    go_wp2
    go_ret
    exact ⟨_, rfl, Kd.R_nil _ _ _ _ _, Below.refl _ _⟩
  | some ad =>
    have HR := Aside0.mk hr
    have HL := Aside0.mk hl
    clear hr hl
    have en := eq_nil (some ad) l.length c
    go_enter Tryd.func21, Tryd.ntmps21
    go_wp2_with (first | ((with_reducible refine gate_dst (N := 5) rfl ?_); refine Kd.R_lit (Kd.int .u8) (w0 := w) w.heap.size 33 rfl (N := 5) rfl (xs := ([] : List Int)) (inner := []) (ok := fun _ => True) (okp := fun _ => True) ?hr (Reps.none _ _) (fun _ hk => hk) trivial (Below.refl _ _) (Nat.le_refl _) (by simp) ?_; (case hr => first | kernel_rfl | (go_simp; rfl)); intro v5 w5 ho hb hg_ hnew_; have X5 := Aside0.mk (And.intro ho hb); clear ho hb hg_ hnew_) | ((with_reducible refine gate_builtin (b := .append) (xs := #[.tmp 5, .tmp 6]) rfl ?_); at_builtin; refine Kd.R_append_rows (Kd.int .u8) (w0 := w) w.heap.size rfl (.tmp 5) (.tmp 6) 23 33 (.int .u8 0) 1 rfl Tryd.underlying23 info33 rfl (by decide) (by omega) v5 ([] : List Int) l _ _ _ (fun _ => True) (fun _ => False) rfl rfl ?aO ?aR (fun _ _ h => h) (fun _ h => h.elim) ?aF ?aB ?aS ?aL ?_; (case aR => exact (Kd.C_below HR.out X5.out.2)); (case aB => exact X5.out.2); (case aF => exact (fun _ _ => trivial)); (case aO => exact X5.out.1); (case aS => exact X5.out.2.size); (case aL => have := HL.out; simp; omega); intro v7 w7 ho hb hg hat; have X7 := Aside0.mk (And.intro ho hb); clear ho hb hg hat))
    go_ret
    exact ⟨_, rfl, X7.out.1, X7.out.2⟩
end Go.Proofs.YtiogpnefnapfeaaDoor.X
