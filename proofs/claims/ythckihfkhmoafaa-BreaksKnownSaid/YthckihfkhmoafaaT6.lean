import Derived.Test.YthckihfkhmoafaaT5
import Derived.Deep.RegionHeld3
import Derived.Deep.AppendLies
import Derived.Deep.RegionLaw
namespace Go.Proofs.Ythckihfkhmoafaa.X
open Go.RowKit Go.Proofs.YthckihfkhmoafaaW.PrintWords Go.Proofs.YthckihfkhmoafaaW.PrintLast Go.Proofs.YthckihfkhmoafaaW.PrintMore
attribute [local go_sem] max2_int min2_int max_two min_two max_three min_three max_four min_four   -- for this text's walks alone
set_option linter.unusedVariables false
set_option linter.unusedSimpArgs false

def sl (g n : Nat) : Value := .slice (some ⟨g, 0, none⟩) n n
/-- The sums under way. -/
structure LnS (w : World) (g n : Nat) (A B R : List Int) (wd : Int) (W : World) : Prop where
  keep : Below w.heap.size w W
  c5 : Boxed W w.heap.size 3 (.int .i64 wd)
  a : Kd.R (Kd.int .i64) 3 W w.heap.size (fun k => k = g) (.slice (some ⟨g, 0, none⟩) (n + 1) (n + 1)) A
  c2 : Boxed W (g + 1) 31 (.slice (some ⟨g, 0, none⟩) (n + 1) (n + 1))
  b : Kd.R (Kd.int .i64) 3 W w.heap.size (fun k => k = g + 2) (.slice (some ⟨g + 2, 0, none⟩) (n + 1) (n + 1)) B
  c3 : Boxed W (g + 3) 31 (.slice (some ⟨g + 2, 0, none⟩) (n + 1) (n + 1))
  r : Kd.R (Kd.int .i64) 3 W w.heap.size (fun k => k = g + 4) (.slice (some ⟨g + 4, 0, none⟩) (n + 1) (n + 1)) R
  c4 : Boxed W (g + 5) 31 (.slice (some ⟨g + 4, 0, none⟩) (n + 1) (n + 1))
  hg : w.heap.size < g
  la : A.length = n + 1
  lb : B.length = n + 1
  lr : R.length = n + 1
section
variable {w W : World} {g n : Nat} {A B R : List Int} {wd : Int}
theorem LnS.alloc (h : LnS w g n A B R wd W) (o : Obj) : LnS w g n A B R wd (W.alloc o) :=
  ⟨below_alloc h.keep _, h.c5.alloc _, Kd.R_alloc h.a _, h.c2.alloc _, Kd.R_alloc h.b _, h.c3.alloc _, Kd.R_alloc h.r _, h.c4.alloc _, h.hg, h.la, h.lb, h.lr⟩
theorem LnS.drewN (h : LnS w g n A B R wd W) (m : Nat) : LnS w g n A B R wd (W.drewN m) :=
  ⟨pw_below_drewN h.keep m, h.c5, Kd.R_drewN h.a m, h.c2, Kd.R_drewN h.b m, h.c3, Kd.R_drewN h.r m, h.c4, h.hg, h.la, h.lb, h.lr⟩
theorem put_len {A : List Int} (h : A.length = n + 1) (i : Nat) (v : Int) : (A.set i v).length = n + 1 := by rw [List.length_set]; exact h
theorem LnS.setA (h : LnS w g n A B R wd W) (i : Int) (v : Int) : LnS w g n (A.set i.toNat v) B R wd (W.setCell ⟨g, i.toNat, none⟩ (.int .i64 v)) := by
  have hg := h.hg
  have ha := h.a
  rw [show ((n : Nat) + 1) = A.length from h.la.symm] at ha
  have := (Kd.R_putg ha i v).1
  rw [h.la] at this
  exact ⟨h.keep.setCell (by dsimp; omega) _, Boxed_far h.c5 (by dsimp; omega) _, this, Boxed_far h.c2 (by dsimp; omega) _, Kd.R_far h.b (fun k hk => by dsimp at hk ⊢; omega) _, Boxed_far h.c3 (by dsimp; omega) _, Kd.R_far h.r (fun k hk => by dsimp at hk ⊢; omega) _, Boxed_far h.c4 (by dsimp; omega) _, hg, put_len h.la _ _, h.lb, h.lr⟩
theorem LnS.setB (h : LnS w g n A B R wd W) (i : Int) (v : Int) : LnS w g n A (B.set i.toNat v) R wd (W.setCell ⟨g + 2, i.toNat, none⟩ (.int .i64 v)) := by
  have hg := h.hg
  have hb := h.b
  rw [show ((n : Nat) + 1) = B.length from h.lb.symm] at hb
  have := (Kd.R_putg hb i v).1
  rw [h.lb] at this
  exact ⟨h.keep.setCell (by dsimp; omega) _, Boxed_far h.c5 (by dsimp; omega) _, Kd.R_far h.a (fun k hk => by dsimp at hk ⊢; omega) _, Boxed_far h.c2 (by dsimp; omega) _, this, Boxed_far h.c3 (by dsimp; omega) _, Kd.R_far h.r (fun k hk => by dsimp at hk ⊢; omega) _, Boxed_far h.c4 (by dsimp; omega) _, hg, h.la, put_len h.lb _ _, h.lr⟩
theorem LnS.setR (h : LnS w g n A B R wd W) (i : Int) (v : Int) : LnS w g n A B (R.set i.toNat v) wd (W.setCell ⟨g + 4, i.toNat, none⟩ (.int .i64 v)) := by
  have hg := h.hg
  have hr := h.r
  rw [show ((n : Nat) + 1) = R.length from h.lr.symm] at hr
  have := (Kd.R_putg hr i v).1
  rw [h.lr] at this
  exact ⟨h.keep.setCell (by dsimp; omega) _, Boxed_far h.c5 (by dsimp; omega) _, Kd.R_far h.a (fun k hk => by dsimp at hk ⊢; omega) _, Boxed_far h.c2 (by dsimp; omega) _, Kd.R_far h.b (fun k hk => by dsimp at hk ⊢; omega) _, Boxed_far h.c3 (by dsimp; omega) _, this, Boxed_far h.c4 (by dsimp; omega) _, hg, h.la, h.lb, put_len h.lr _ _⟩
/-- The cells that a round reads and writes. -/
theorem LnS.cellA (h : LnS w g n A B R wd W) (i : Int) (h0 : 0 ≤ i) (h1 : i < (n : Int) + 1) : W.cell? ⟨g, i.toNat, none⟩ = some (.int .i64 (rd A i)) ∧ W.frozen? ⟨g, i.toNat, none⟩ = false := by
  have ha := h.a
  rw [show ((n : Nat) + 1) = A.length from h.la.symm] at ha
  exact Kd.R_celln (0 : Int) ha i h0 (by have := h.la; omega)
theorem LnS.cellB (h : LnS w g n A B R wd W) (i : Int) (h0 : 0 ≤ i) (h1 : i < (n : Int) + 1) : W.cell? ⟨g + 2, i.toNat, none⟩ = some (.int .i64 (rd B i)) ∧ W.frozen? ⟨g + 2, i.toNat, none⟩ = false := by
  have ha := h.b
  rw [show ((n : Nat) + 1) = B.length from h.lb.symm] at ha
  exact Kd.R_celln (0 : Int) ha i h0 (by have := h.lb; omega)
theorem LnS.cellR (h : LnS w g n A B R wd W) (i : Int) (h0 : 0 ≤ i) (h1 : i < (n : Int) + 1) : W.cell? ⟨g + 4, i.toNat, none⟩ = some (.int .i64 (rd R i)) ∧ W.frozen? ⟨g + 4, i.toNat, none⟩ = false := by
  have ha := h.r
  rw [show ((n : Nat) + 1) = R.length from h.lr.symm] at ha
  exact Kd.R_celln (0 : Int) ha i h0 (by have := h.lr; omega)
theorem LnS.cA (h : LnS w g n A B R wd W) : Kd.C (Kd.int .i64) W (some ⟨g, 0, none⟩) (n + 1) A := by
  have ha := h.a
  rw [show ((n : Nat) + 1) = A.length from h.la.symm] at ha ⊢
  exact (Kd.R_reads' ha).2.2
theorem LnS.cB (h : LnS w g n A B R wd W) : Kd.C (Kd.int .i64) W (some ⟨g + 2, 0, none⟩) (n + 1) B := by
  have ha := h.b
  rw [show ((n : Nat) + 1) = B.length from h.lb.symm] at ha ⊢
  exact (Kd.R_reads' ha).2.2
theorem LnS.cR (h : LnS w g n A B R wd W) : Kd.C (Kd.int .i64) W (some ⟨g + 4, 0, none⟩) (n + 1) R := by
  have ha := h.r
  rw [show ((n : Nat) + 1) = R.length from h.lr.symm] at ha ⊢
  exact (Kd.R_reads' ha).2.2
end
end Go.Proofs.Ythckihfkhmoafaa.X
