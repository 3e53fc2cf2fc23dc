import Derived.Test.YtofiflhjlohakaaB
import Derived.Test.YtofiflhjlohakaaT6
/-! runs.Sequences: its contract. -/
namespace Go.Proofs.Ytofiflhjlohakaa.X
open Go.RowKit Go.Proofs.YtofiflhjlohakaaW.PrintWords Go.Proofs.YtofiflhjlohakaaW.PrintLast Go.Proofs.YtofiflhjlohakaaW.PrintMore
set_option linter.unusedVariables false
set_option linter.unusedSimpArgs false
set_option maxHeartbeats 4000000
theorem seq_limit (A0 : Option Addr) (c0 : Nat) (l : List Int) (A1 : Option Addr) (c1 : Nat) (lev : List Int) (base : Int) (w : World) (h0 : 65536 < l.length) :
    Calls Try.prog 10 #[.slice A0 l.length c0, .slice A1 lev.length c1, .int .u8 base] w fun e w' => e = .returned (.tuple #[.slice none 0 0, .int .i64 3]) ∧ Below w.heap.size w w' := by
  have d0 : decide (65536 < (l.length : Int)) = true := decide_eq_true (by omega)
  go_enter Try.func10, Try.ntmps10
  have B1 := Aside0.mk (below_alloc (Below.refl w.heap.size w) (.cells #[.slice A0 l.length c0] 22))
  have y3 := (blk_cell (heap_alloc_new w (.cells #[.slice A0 l.length c0] 22)) 0).trans rfl
  go_wp2
  go_ret2
  exact ⟨rfl, B1.out⟩
theorem seq_arg (A0 : Option Addr) (c0 : Nat) (l : List Int) (A1 : Option Addr) (c1 : Nat) (lev : List Int) (base : Int) (w : World) (h0 : l.length ≤ 65536) (h1 : l.length ≠ lev.length) :
    Calls Try.prog 10 #[.slice A0 l.length c0, .slice A1 lev.length c1, .int .u8 base] w fun e w' => e = .returned (.tuple #[.slice none 0 0, .int .i64 2]) ∧ Below w.heap.size w w' := by
  have d0 : decide (65536 < (l.length : Int)) = false := decide_eq_false (by omega)
  have d1 : ((l.length : Int) != (lev.length : Int)) = true := bne_iff_ne.mpr (by omega)
  have d1' : ((l.length : Int) == (lev.length : Int)) = false := beq_eq_false_iff_ne.mpr (by omega)
  go_enter Try.func10, Try.ntmps10
  have B1 := Aside0.mk (below_alloc (Below.refl w.heap.size w) (.cells #[.slice A0 l.length c0] 22))
  have y3 := (blk_cell (heap_alloc_new w (.cells #[.slice A0 l.length c0] 22)) 0).trans rfl
  go_wp2
  go_ret2
  exact ⟨rfl, B1.out⟩
theorem runs_Sequences.calls (A0 : Option Addr) (c0 : Nat) (l0 : List Int) (A1 : Option Addr) (c1 : Nat) (l1 : List Int) (a2 : Int) (r1 : List S36) (r2 : Int) (w : World) (hr0 : Kd.C (Kd.int .u8) w A0 l0.length l0) (hc0 : l0.length ≤ c0) (hr1 : Kd.C (Kd.int .u8) w A1 l1.length l1) (hc1 : l1.length ≤ c1) (h : runs_Sequences.f l0 l1 a2 = some (r1, r2)) :
    Calls Try.prog 10 #[.slice A0 l0.length c0, .slice A1 l1.length c1, .int .u8 a2] w fun e w' => ∃ v0_ : Value, e = .returned (.tuple #[v0_, .int .i64 r2]) ∧ Kd.S k36 36 w' w.heap.size (fun _ => True) v0_ r1 ∧ Below w.heap.size w w' := by
  unfold runs_Sequences.f at h
  split at h
  · next hg =>
    injection h with h
    have hlv : ∀ x ∈ l1, 0 ≤ x ∧ x ≤ 255 := fun x hx => of_decide_eq_true (List.all_eq_true.mp hg.2 x hx)
    unfold sqRes at h
    split at h
    · next q =>
      injection h with e1 e2
      subst e1; subst e2
      refine (seq_limit A0 c0 l0 A1 c1 l1 a2 w q).mono ?_
      rintro e w' ⟨rfl, hB⟩
      exact ⟨_, rfl, Kd.S_nil _ _ _ _ _, hB⟩
    · next q =>
      split at h
      · next q2 =>
        injection h with e1 e2
        subst e1; subst e2
        refine (seq_arg A0 c0 l0 A1 c1 l1 a2 w (by omega) q2).mono ?_
        rintro e w' ⟨rfl, hB⟩
        exact ⟨_, rfl, Kd.S_nil _ _ _ _ _, hB⟩
      · next q2 =>
        injection h with e1 e2
        subst e1; subst e2
        have he : l1.length = l0.length := by omega
        obtain ⟨k1, hk1⟩ := E.out (explicit_Match_ev l0 (by omega))
        obtain ⟨k2, hk2⟩ := E.out (neighbours_ev l0 l1 a2 (by omega) he)
        have hm := mtOf_ok l0
        exact seq_ok A0 c0 l0 A1 c1 l1 a2 w hr0 hc0 hr1 hc1 (by omega) he hlv hg.1 (mtOf l0) (ahF l0 l1 a2) (beF l0 l1 a2) hm.1 (fun x hx => by have := hm.2 x hx; omega) (ahF_ok l0 l1 a2 hg.1 hlv he) (beF_ok l0 l1 a2 hg.1 hlv he) k1 k2 hk1 hk2
  · cases h
end Go.Proofs.Ytofiflhjlohakaa.X
