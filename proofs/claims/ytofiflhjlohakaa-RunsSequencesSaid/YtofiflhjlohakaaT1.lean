import Derived.Test.YtofiflhjlohakaaA
/-! runs.side of two levels. -/
namespace Go.Proofs.Ytofiflhjlohakaa.X
open Go.RowKit Go.Proofs.YtofiflhjlohakaaW.PrintWords Go.Proofs.YtofiflhjlohakaaW.PrintLast Go.Proofs.YtofiflhjlohakaaW.PrintMore
attribute [local go_sem] max2_int min2_int max_two min_two max_three min_three max_four min_four
set_option linter.unusedVariables false
set_option linter.unusedSimpArgs false
theorem and1 (n : Int) (h0 : 0 ≤ n) (h1 : n ≤ 255) : Go.bits .and .u8 n 1 = n % 2 := by
  obtain ⟨k, rfl⟩ := Int.eq_ofNat_of_zero_le h0
  have : ∀ k : Fin 256, Go.bits .and .u8 ((k.val : Nat) : Int) 1 = ((k.val : Nat) : Int) % 2 := by decide +kernel
  exact this ⟨k, by omega⟩
theorem ix73_0 (W : World) : (Instr.index 73 (.agg #[.int .u8 1, .int .u8 2]) (.int .u8 0)).run Try.prog W = .ok (.int .u8 1) W := by kernel_rfl
theorem ix73_1 (W : World) : (Instr.index 73 (.agg #[.int .u8 1, .int .u8 2]) (.int .u8 1)).run Try.prog W = .ok (.int .u8 2) W := by kernel_rfl
attribute [local go_sem] ix73_0 ix73_1
set_option maxHeartbeats 4000000 in
theorem side_c (g : Nat) (a b : Int) (ha0 : 0 ≤ a) (ha1 : a ≤ 255) (hb0 : 0 ≤ b) (hb1 : b ≤ 255) (w : World) (h0 : w.cell? ⟨g, 0, none⟩ = some (.int .u8 a)) (h1 : w.cell? ⟨g, 1, none⟩ = some (.int .u8 b)) :
    Calls Try.prog 25 #[.slice (some ⟨g, 0, none⟩) 2 2] w fun e w' => e = .returned (.int .u8 (sideV (mx a b))) ∧ w' = w := by
  obtain ⟨m, hm⟩ : ∃ m, mx a b = m := ⟨_, rfl⟩
  have hm0 : 0 ≤ m := by rw [← hm]; unfold mx; split <;> omega
  have hm1 : m ≤ 255 := by rw [← hm]; unfold mx; split <;> omega
  have hand := and1 m hm0 hm1
  have hsd : sideV m = if m % 2 = 1 then 2 else 1 := rfl
  rw [hm]
  have main : ∀ q : Int, m % 2 = q → (q = 0 ∨ q = 1) → Calls Try.prog 25 #[.slice (some ⟨g, 0, none⟩) 2 2] w fun e w' => e = .returned (.int .u8 (if q = 1 then 2 else 1)) ∧ w' = w := by
    intro q hq hq2
    rw [hq] at hand
    clear hq hsd
    go_enter Try.func25, Try.ntmps25
    go_wp2
    go_loopw [3, 8] (fun v3 v8 wr => ∃ i p : Int, v8 = .int .i64 i ∧ v3 = .int .u8 p ∧ (i = 0 ∧ p = 0 ∨ i = 1 ∧ p = a ∨ i = 2 ∧ p = m) ∧ wr = w) (fun _ v8 _ => 2 - (intOf v8).toNat)
    case atStart => exact ⟨0, 0, rfl, rfl, .inl ⟨rfl, rfl⟩, rfl⟩
    case round =>
      obtain ⟨i, p, rfl, rfl, hc, rfl⟩ := hrel
      rcases hc with ⟨rfl, rfl⟩ | ⟨rfl, rfl⟩ | ⟨rfl, rfl⟩
      · go_wp2
        go_roundw
        case measure => simp [intOf]
        case rel => exact ⟨1, _, rfl, rfl, .inr (.inl ⟨rfl, by split <;> omega⟩), trivial⟩
      · go_wp2
        go_roundw
        case measure => simp [intOf]
        case rel => exact ⟨2, _, rfl, rfl, .inr (.inr ⟨rfl, hm⟩), trivial⟩
      · rcases hq2 with rfl | rfl
        · go_wp2
          go_ret
          exact ⟨rfl, rfl⟩
        · go_wp2
          go_ret
          exact ⟨rfl, rfl⟩
  rw [hsd]
  rcases Int.emod_two_eq m with e | e
  · have := main 0 e (.inl rfl); rw [e]; exact this
  · have := main 1 e (.inr rfl); rw [e]; exact this
end Go.Proofs.Ytofiflhjlohakaa.X
