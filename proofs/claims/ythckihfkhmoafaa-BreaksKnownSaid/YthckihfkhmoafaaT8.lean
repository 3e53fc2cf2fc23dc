import Derived.Test.YthckihfkhmoafaaT7
namespace Go.Proofs.Ythckihfkhmoafaa.X
open Go.RowKit Go.Proofs.YthckihfkhmoafaaW.PrintWords Go.Proofs.YthckihfkhmoafaaW.PrintLast Go.Proofs.YthckihfkhmoafaaW.PrintMore
attribute [local go_sem] max2_int min2_int max_two min_two max_three min_three max_four min_four   -- for this text's walks alone
set_option linter.unusedVariables false
set_option linter.unusedSimpArgs false

def breaks_Lines.f (l0 : List S36) (a1 : Int) : Option (List Int × Int) :=
  if l0.length < 17592186044416 then some (if (l0.length : Int) > 65536 then ([], 3) else if l0.any brBad then ([], 2) else if a1 < 1 ∨ 16777216 < a1 then ([], 2) else (brLines l0 a1, 0)) else none
/-- What a call leaves that refuses. -/
def ResE (w : World) (c : Int) (e : Ending) (w' : World) : Prop := e = .returned (.tuple #[.slice none 0 0, .int .i64 c]) ∧ Below w.heap.size w w'
set_option maxHeartbeats 4000000 in
set_option maxRecDepth 100000 in
theorem lines_may (A0 : Option Addr) (c0 : Nat) (l0 : List S36) (a1 c : Int) (w : World) (hr0 : Kd.C k36 w A0 l0.length l0) (hc0 : l0.length ≤ c0) (hm : breaks_may.f l0 = some c) (hc : c ≠ 0) :
    Calls Try.prog 14 #[.slice A0 l0.length c0, .int .i64 a1] w (ResE w c) := by
  have HR0 := Aside0.mk hr0
  have b1 : (c != 0) = true := bne_iff_ne.mpr hc
  clear hr0 hc
  have M1 := breaks_may.calls A0 c0 l0 c (w.alloc (.cells #[.int .i64 a1] 3)) (Kd.C_alloc HR0.out _) hc0 hm
  go_enter Try.func14, Try.ntmps14
  go_wp2_with (go_at_call 21; (with_reducible refine M1.mono ?_); rintro e w1 ⟨rfl, hB⟩)
  refine bodyPost_ret (results_tmp2 rfl _ _ _) rfl ?_
  exact ⟨rfl, below_step ((Below.refl _ w).alloc (Nat.le_refl _) _) hB⟩
set_option maxHeartbeats 4000000 in
set_option maxRecDepth 100000 in
theorem lines_width (A0 : Option Addr) (c0 : Nat) (l0 : List S36) (a1 : Int) (w : World) (hr0 : Kd.C k36 w A0 l0.length l0) (hc0 : l0.length ≤ c0) (hm : breaks_may.f l0 = some 0) (hc : a1 < 1 ∨ 16777216 < a1) :
    Calls Try.prog 14 #[.slice A0 l0.length c0, .int .i64 a1] w (ResE w 2) := by
  have HR0 := Aside0.mk hr0
  clear hr0
  have M1 := breaks_may.calls A0 c0 l0 0 (w.alloc (.cells #[.int .i64 a1] 3)) (Kd.C_alloc HR0.out _) hc0 hm
  by_cases h1 : a1 < 1
  · have b1 : decide (a1 < 1) = true := decide_eq_true h1
    clear h1 hc
    go_enter Try.func14, Try.ntmps14
    go_wp2_with (go_at_call 21; (with_reducible refine M1.mono ?_); rintro e w1 ⟨rfl, hB⟩; have hc5 : w1.cell? ⟨w.heap.size, 0, none⟩ = some (.int .i64 a1) := (hB.cell (by simp)).trans (Boxed.new w 3 (.int .i64 a1)).cell; have HB := Aside0.mk hB; clear hB)
    refine bodyPost_ret (results_tmp2 rfl _ _ _) rfl ?_
    exact ⟨rfl, below_step ((Below.refl _ w).alloc (Nat.le_refl _) _) HB.out⟩
  · have b1 : decide (a1 < 1) = false := decide_eq_false h1
    have b2 : decide (16777216 < a1) = true := decide_eq_true (by omega)
    clear h1 hc
    go_enter Try.func14, Try.ntmps14
    go_wp2_with (go_at_call 21; (with_reducible refine M1.mono ?_); rintro e w1 ⟨rfl, hB⟩; have hc5 : w1.cell? ⟨w.heap.size, 0, none⟩ = some (.int .i64 a1) := (hB.cell (by simp)).trans (Boxed.new w 3 (.int .i64 a1)).cell; have HB := Aside0.mk hB; clear hB)
    refine bodyPost_ret (results_tmp2 rfl _ _ _) rfl ?_
    exact ⟨rfl, below_step ((Below.refl _ w).alloc (Nat.le_refl _) _) HB.out⟩
theorem breaks_Lines.calls (A0 : Option Addr) (c0 : Nat) (l0 : List S36) (a1 : Int) (r1 : List Int) (r2 : Int) (w : World) (hr0 : Kd.C k36 w A0 l0.length l0) (hc0 : l0.length ≤ c0) (h : breaks_Lines.f l0 a1 = some (r1, r2)) :
    Calls Try.prog 14 #[.slice A0 l0.length c0, .int .i64 a1] w fun e w' => ∃ v0_ : Value, e = .returned (.tuple #[v0_, .int .i64 r2]) ∧ Kd.R (Kd.int .i64) 3 w' w.heap.size (fun _ => True) v0_ r1 ∧ Below w.heap.size w w' := by
  unfold breaks_Lines.f at h
  by_cases hl : l0.length < 17592186044416
  case neg => rw [if_neg hl] at h; cases h
  rw [if_pos hl] at h
  injection h with h
  have err : ∀ c, c ≠ 0 → ([], c) = (r1, r2) → Calls Try.prog 14 #[.slice A0 l0.length c0, .int .i64 a1] w (ResE w c) → Calls Try.prog 14 #[.slice A0 l0.length c0, .int .i64 a1] w fun e w' => ∃ v0_ : Value, e = .returned (.tuple #[v0_, .int .i64 r2]) ∧ Kd.R (Kd.int .i64) 3 w' w.heap.size (fun _ => True) v0_ r1 ∧ Below w.heap.size w w' := by
    intro c _ hc hC
    injection hc with h1 h2
    subst h1
    subst h2
    exact hC.mono fun e w' hh => ⟨_, hh.1, Kd.R_nil _ _ _ _ _, hh.2⟩
  by_cases h1 : (l0.length : Int) > 65536
  · rw [if_pos h1] at h
    exact err 3 (by decide) h (lines_may A0 c0 l0 a1 3 w hr0 hc0 (by unfold breaks_may.f; rw [if_pos hl, if_pos h1]) (by decide))
  rw [if_neg h1] at h
  by_cases h2 : l0.any brBad = true
  · rw [if_pos h2] at h
    exact err 2 (by decide) h (lines_may A0 c0 l0 a1 2 w hr0 hc0 (by unfold breaks_may.f; rw [if_pos hl, if_neg h1, if_pos h2]) (by decide))
  rw [if_neg h2] at h
  have hm : breaks_may.f l0 = some 0 := by unfold breaks_may.f; rw [if_pos hl, if_neg h1, if_neg h2]
  by_cases h3 : a1 < 1 ∨ 16777216 < a1
  · rw [if_pos h3] at h
    exact err 2 (by decide) h (lines_width A0 c0 l0 a1 w hr0 hc0 hm h3)
  rw [if_neg h3] at h
  injection h with h4 h5
  subst h4
  subst h5
  exact lines_c A0 c0 l0 a1 w hr0 hc0 (by omega) (Bool.eq_false_iff.mpr h2) (by omega) (by omega)
end Go.Proofs.Ythckihfkhmoafaa.X
