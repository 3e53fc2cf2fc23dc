import Derived.Test.YtdkbkecnhebanaaT21
/-! ExplicitBounds: its row's walk. -/
namespace Go.Proofs.Ytdkbkecnhebanaa.X
open Go.RowKit Go.Proofs.YtdkbkecnhebanaaW.PrintWords Go.Proofs.YtdkbkecnhebanaaW.PrintLast Go.Proofs.YtdkbkecnhebanaaW.PrintMore
set_option linter.unusedVariables false
def selvedgelaw14_ExplicitBounds.Pure : Prop := ∀ (l0 : List Int) (a1 : Int), l0.length ≤ maxLen → l0.length * 1 ≤ 140737488351232 → (∀ x ∈ l0, (Lit.int .u8 x).wf = true) → (Lit.int .u8 a1).wf = true → selvedgelaw14_ExplicitBounds.f l0 a1 = some true
theorem selvedgelaw14_ExplicitBounds.walk (P : selvedgelaw14_ExplicitBounds.Pure) (a0 : Option Addr) (len0 cap0 : Nat) (z0 : List Int) (a1 : Int) (w : World) (w0 : (a0 = none ∧ len0 = 0 ∧ cap0 = 0 ∧ z0 = []) ∨ ∃ x, a0 = some x ∧ len0 ≤ cap0 ∧ cap0 ≤ maxLen ∧ z0.length = cap0 ∧ (∀ i, i < z0.length → w.cell? (x.add i) = some (.int .u8 (z0.getD i 0))) ∧ ∀ n ∈ z0, (Lit.int .u8 n).wf = true) (y0 : len0 * 1 ≤ 140737488351232) (w1 : (Lit.int .u8 a1).wf = true) :
    Calls Try.prog 6 #[.slice a0 len0 cap0, .int .u8 a1] w fun e w' => e = .returned (.bool true) ∧ Below w.heap.size w w' := by
  obtain ⟨l0, rfl, hr0, hm0, hw0, hc0⟩ := ReadsInt.ofRowC w0
  have h := P l0 a1 hm0 y0 hw0 w1
  exact selvedgelaw14_ExplicitBounds.calls _ _ l0 a1 true w (Kd.C_of_reads (d := (0 : Int)) (h1 := fun _ => rfl) hr0) hc0 h
end Go.Proofs.Ytdkbkecnhebanaa.X
