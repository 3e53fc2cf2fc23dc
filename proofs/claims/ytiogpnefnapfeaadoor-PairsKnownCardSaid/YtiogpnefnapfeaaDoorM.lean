import Derived.Test.YtiogpnefnapfeaaDoorWMore
/-! Short words for steps that printed proofs take again and again. -/
namespace Go.Proofs.YtiogpnefnapfeaaDoor.X
open Go.RowKit Go.Proofs.YtiogpnefnapfeaaDoorW.PrintWords Go.Proofs.YtiogpnefnapfeaaDoorW.PrintLast
/-- The world has moved on by new blocks and draws alone. -/
def Mov (w w' : World) : Prop := Below w.heap.size w w'
theorem Mov.refl (w : World) : Mov w w := Below.refl _ _
theorem Mov.alloc {w w' : World} (h : Mov w w') (o : Obj) : Mov w (w'.alloc o) := below_alloc h o
theorem Mov.drewN {w w' : World} (h : Mov w w') (m : Nat) : Mov w (w'.drewN m) := pw_below_drewN h m
theorem Mov.drew {w w' : World} (h : Mov w w') : Mov w w'.drew := below_drew1 h
theorem mvR {α : Type} {d : Kd α} {e : Nat} {w w' : World} {base : Nat} {ok : Nat → Prop} {v : Value} {xs : List α} (h : Aside0 (d.R e w base ok v xs)) (hm : Mov w w' := by with_reducible repeat (first | exact Mov.refl _ | apply Mov.alloc | apply Mov.drewN | apply Mov.drew)) : d.R e w' base ok v xs := Kd.R_below h.out hm
theorem mvB {n : Nat} {w W W' : World} (h : Aside0 (Below n w W)) (hn : Aside0 (n = w.heap.size) := by exact ⟨rfl⟩) (hm : Mov W W' := by first | (with_reducible repeat (first | exact Mov.refl _ | apply Mov.alloc | apply Mov.drewN | apply Mov.drew)) | exact Mov.refl _) : Below n w W' := by
  have hn := hn.out
  subst hn
  exact below_step h.out hm
theorem dT (p : Prop) [Decidable p] (h : decide p = true := by first | (with_reducible assumption) | assumption) : p := of_decide_eq_true h
theorem atI {k : IntKind} {w : World} {A : Option Addr} {n : Nat} {xs : List Int} (h : Kd.C (Kd.int k) w A n xs) (i : Int) (h0 : decide (0 ≤ i) = true := by first | (with_reducible assumption) | assumption) (h1 : decide (i < (n : Int)) = true := by first | (with_reducible assumption) | assumption) :
    ∃ ad, A = some ad ∧ w.cell? (ad.add i.toNat) = some (.int k (rd xs i)) ∧ (0 ≤ i) = True ∧ (i < (n : Int)) = True := by
  obtain ⟨ad, e, hx⟩ := Kd.at_int h i (of_decide_eq_true h0) (of_decide_eq_true h1)
  exact ⟨ad, e, hx, eq_true (of_decide_eq_true h0), eq_true (of_decide_eq_true h1)⟩
end Go.Proofs.YtiogpnefnapfeaaDoor.X
