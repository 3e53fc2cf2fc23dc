-- by xprint.py: the kit's printer over texts of this session
import Derived.Test.YtknfniggnobaaaaX0
import Derived.Test.YtknfniggnobaaaaX2
namespace Go.Proofs.Ytknfniggnobaaaa.X
open Go.RowKit Go.Proofs.YtknfniggnobaaaaW.PrintWords Go.Proofs.YtknfniggnobaaaaW.PrintLast Go.Proofs.YtknfniggnobaaaaW.PrintMore
attribute [local go_sem] max2_int min2_int max_two min_two max_three min_three max_four min_four   -- for this text's walks alone
set_option linter.unusedVariables false
set_option linter.unusedSimpArgs false

/-! ### selvedgeref18_Resolve: function 13 -/
mutual
def selvedgeref18_Resolve.l0 : Nat → List Int → Int → Int → Int → List Int → Int → Option (List Int)
 | 0, _, _, _, _, _, _ => none
 | k + 1, x0, x1, x2, x3, x9, x10 => if x10 < (x0.length : Int) then (if 0 ≤ x10 then (if (rd x0 x10) = 10 then (selvedgeref18_Resolve.l0 k x0 x1 x2 x3 x9 (wrap64 (x10 + 1))) else (if x9.length < 140737488355328 then (selvedgeref18_Resolve.l0 k x0 x1 x2 x3 (x9 ++ [rd x0 x10]) (wrap64 (x10 + 1))) else (none))) else (none)) else (if (Int.tmod x1 2) = 1 then (selvedgeref18_Resolve.j1 k x0 x2 x3 x9 2) else (selvedgeref18_Resolve.j1 k x0 x2 x3 x9 1))
def selvedgeref18_Resolve.j1 : Nat → List Int → Int → Int → List Int → Int → Option (List Int)
 | 0, _, _, _, _, _ => none
 | k + 1, x0, x2, x3, x9, x11 => selvedgeref18_Resolve.l1 k x0 x2 x3 x9 x11 0
def selvedgeref18_Resolve.l1 : Nat → List Int → Int → Int → List Int → Int → Int → Option (List Int)
 | 0, _, _, _, _, _, _ => none
 | k + 1, x0, x2, x3, x9, x11, x12 => if x12 < (x9.length : Int) then (selvedgeref18_Resolve.l2 k x0 x2 x3 x9 x11 x12 x12) else (selvedgeref18_Resolve.l4 k x0 x9 ([] : List Int) 0 0)
def selvedgeref18_Resolve.j4 : Nat → List Int → Int → Int → List Int → Int → Int → Int → Option (List Int)
 | 0, _, _, _, _, _, _, _ => none
 | k + 1, x0, x2, x3, x9, x11, x12, x13 => if x13 = x12 then (selvedgeref18_Resolve.l1 k x0 x2 x3 x9 x11 (wrap64 (x12 + 1))) else ((selvedgeref18_ends.f x2).bind fun t126 => ((selvedgeref18_ends.f x3).bind fun t127 => (if x12 > 0 then (if 0 ≤ (wrap64 (x12 - 1)) then (if (wrap64 (x12 - 1)) < (x9.length : Int) then ((selvedgeref18_direction.f (rd x9 (wrap64 (x12 - 1)))).bind fun t129 => (selvedgeref18_Resolve.j5 k x0 x2 x3 x9 x11 x12 x13 t129 t127)) else (none)) else (none)) else (selvedgeref18_Resolve.j5 k x0 x2 x3 x9 x11 x12 x13 t126 t127))))
def selvedgeref18_Resolve.j5 : Nat → List Int → Int → Int → List Int → Int → Int → Int → Int → Int → Option (List Int)
 | 0, _, _, _, _, _, _, _, _, _ => none
 | k + 1, x0, x2, x3, x9, x11, x12, x13, x14, x15 => if x13 < (x9.length : Int) then (if 0 ≤ x13 then ((selvedgeref18_direction.f (rd x9 x13)).bind fun t131 => (selvedgeref18_Resolve.j6 k x0 x2 x3 x9 x11 x12 x13 x14 t131)) else (none)) else (selvedgeref18_Resolve.j6 k x0 x2 x3 x9 x11 x12 x13 x14 x15)
def selvedgeref18_Resolve.j6 : Nat → List Int → Int → Int → List Int → Int → Int → Int → Int → Int → Option (List Int)
 | 0, _, _, _, _, _, _, _, _, _ => none
 | k + 1, x0, x2, x3, x9, x11, x12, x13, x14, x15 => if x14 = x15 then (selvedgeref18_Resolve.j7 k x0 x2 x3 x9 x11 x12 x13 x14 x11 (x14 != 0)) else (selvedgeref18_Resolve.j7 k x0 x2 x3 x9 x11 x12 x13 x14 x11 false)
def selvedgeref18_Resolve.j7 : Nat → List Int → Int → Int → List Int → Int → Int → Int → Int → Int → Bool → Option (List Int)
 | 0, _, _, _, _, _, _, _, _, _, _ => none
 | k + 1, x0, x2, x3, x9, x11, x12, x13, x14, x16, x92 => if x92 = true then (selvedgeref18_Resolve.j8 k x0 x2 x3 x9 x11 x12 x13 x14) else (selvedgeref18_Resolve.j8 k x0 x2 x3 x9 x11 x12 x13 x16)
def selvedgeref18_Resolve.j8 : Nat → List Int → Int → Int → List Int → Int → Int → Int → Int → Option (List Int)
 | 0, _, _, _, _, _, _, _, _ => none
 | k + 1, x0, x2, x3, x9, x11, x12, x13, x16 => selvedgeref18_Resolve.l3 k x0 x2 x3 x9 x11 x12 x13 x16
def selvedgeref18_Resolve.l3 : Nat → List Int → Int → Int → List Int → Int → Int → Int → Int → Option (List Int)
 | 0, _, _, _, _, _, _, _, _ => none
 | k + 1, x0, x2, x3, x9, x11, x12, x13, x16 => if x12 < x13 then (if 0 ≤ x12 then (if x12 < (x9.length : Int) then (selvedgeref18_Resolve.l3 k x0 x2 x3 (x9.set (x12 : Int).toNat x16) x11 (wrap64 (x12 + 1)) x13 x16) else (none)) else (none)) else (selvedgeref18_Resolve.l1 k x0 x2 x3 x9 x11 x12)
def selvedgeref18_Resolve.l2 : Nat → List Int → Int → Int → List Int → Int → Int → Int → Option (List Int)
 | 0, _, _, _, _, _, _, _ => none
 | k + 1, x0, x2, x3, x9, x11, x12, x13 => if x13 < (x9.length : Int) then (if 0 ≤ x13 then ((selvedgeref18_Neutral.f (rd x9 x13)).bind fun t125 => (if t125 = true then (selvedgeref18_Resolve.l2 k x0 x2 x3 x9 x11 x12 (wrap64 (x13 + 1))) else (selvedgeref18_Resolve.j4 k x0 x2 x3 x9 x11 x12 x13))) else (none)) else (selvedgeref18_Resolve.j4 k x0 x2 x3 x9 x11 x12 x13)
def selvedgeref18_Resolve.l4 : Nat → List Int → List Int → List Int → Int → Int → Option (List Int)
 | 0, _, _, _, _, _ => none
 | k + 1, x0, x9, x17, x18, x19 => if x19 < (x0.length : Int) then (if 0 ≤ x19 then (if (rd x0 x19) = 10 then (if x17.length < 140737488355328 then (selvedgeref18_Resolve.l4 k x0 x9 (x17 ++ [10]) x18 (wrap64 (x19 + 1))) else (none)) else (if 0 ≤ x18 then (if x18 < (x9.length : Int) then (if x17.length < 140737488355328 then (selvedgeref18_Resolve.l4 k x0 x9 (x17 ++ [rd x9 x18]) (wrap64 (x18 + 1)) (wrap64 (x19 + 1))) else (none)) else (none)) else (none))) else (none)) else (some x17)
end
def selvedgeref18_Resolve.f (k : Nat) (l0 : List Int) (a1 : Int) (a2 : Int) (a3 : Int) : Option (List Int) := selvedgeref18_Resolve.l0 k l0 a1 a2 a3 ([] : List Int) 0
theorem selvedgeref18_Resolve.mono_l : ∀ k, (∀ y0 y1 y2 y3 y4 y5, LeO (selvedgeref18_Resolve.l0 k y0 y1 y2 y3 y4 y5) (selvedgeref18_Resolve.l0 (k + 1) y0 y1 y2 y3 y4 y5)) ∧ (∀ y0 y1 y2 y3 y4, LeO (selvedgeref18_Resolve.j1 k y0 y1 y2 y3 y4) (selvedgeref18_Resolve.j1 (k + 1) y0 y1 y2 y3 y4)) ∧ (∀ y0 y1 y2 y3 y4 y5, LeO (selvedgeref18_Resolve.l1 k y0 y1 y2 y3 y4 y5) (selvedgeref18_Resolve.l1 (k + 1) y0 y1 y2 y3 y4 y5)) ∧ (∀ y0 y1 y2 y3 y4 y5 y6, LeO (selvedgeref18_Resolve.j4 k y0 y1 y2 y3 y4 y5 y6) (selvedgeref18_Resolve.j4 (k + 1) y0 y1 y2 y3 y4 y5 y6)) ∧ (∀ y0 y1 y2 y3 y4 y5 y6 y7 y8, LeO (selvedgeref18_Resolve.j5 k y0 y1 y2 y3 y4 y5 y6 y7 y8) (selvedgeref18_Resolve.j5 (k + 1) y0 y1 y2 y3 y4 y5 y6 y7 y8)) ∧ (∀ y0 y1 y2 y3 y4 y5 y6 y7 y8, LeO (selvedgeref18_Resolve.j6 k y0 y1 y2 y3 y4 y5 y6 y7 y8) (selvedgeref18_Resolve.j6 (k + 1) y0 y1 y2 y3 y4 y5 y6 y7 y8)) ∧ (∀ y0 y1 y2 y3 y4 y5 y6 y7 y8 y9, LeO (selvedgeref18_Resolve.j7 k y0 y1 y2 y3 y4 y5 y6 y7 y8 y9) (selvedgeref18_Resolve.j7 (k + 1) y0 y1 y2 y3 y4 y5 y6 y7 y8 y9)) ∧ (∀ y0 y1 y2 y3 y4 y5 y6 y7, LeO (selvedgeref18_Resolve.j8 k y0 y1 y2 y3 y4 y5 y6 y7) (selvedgeref18_Resolve.j8 (k + 1) y0 y1 y2 y3 y4 y5 y6 y7)) ∧ (∀ y0 y1 y2 y3 y4 y5 y6 y7, LeO (selvedgeref18_Resolve.l3 k y0 y1 y2 y3 y4 y5 y6 y7) (selvedgeref18_Resolve.l3 (k + 1) y0 y1 y2 y3 y4 y5 y6 y7)) ∧ (∀ y0 y1 y2 y3 y4 y5 y6, LeO (selvedgeref18_Resolve.l2 k y0 y1 y2 y3 y4 y5 y6) (selvedgeref18_Resolve.l2 (k + 1) y0 y1 y2 y3 y4 y5 y6)) ∧ (∀ y0 y1 y2 y3 y4, LeO (selvedgeref18_Resolve.l4 k y0 y1 y2 y3 y4) (selvedgeref18_Resolve.l4 (k + 1) y0 y1 y2 y3 y4))
 | 0 => ⟨fun _ _ _ _ _ _ r h => by simp [selvedgeref18_Resolve.l0] at h, fun _ _ _ _ _ r h => by simp [selvedgeref18_Resolve.j1] at h, fun _ _ _ _ _ _ r h => by simp [selvedgeref18_Resolve.l1] at h, fun _ _ _ _ _ _ _ r h => by simp [selvedgeref18_Resolve.j4] at h, fun _ _ _ _ _ _ _ _ _ r h => by simp [selvedgeref18_Resolve.j5] at h, fun _ _ _ _ _ _ _ _ _ r h => by simp [selvedgeref18_Resolve.j6] at h, fun _ _ _ _ _ _ _ _ _ _ r h => by simp [selvedgeref18_Resolve.j7] at h, fun _ _ _ _ _ _ _ _ r h => by simp [selvedgeref18_Resolve.j8] at h, fun _ _ _ _ _ _ _ _ r h => by simp [selvedgeref18_Resolve.l3] at h, fun _ _ _ _ _ _ _ r h => by simp [selvedgeref18_Resolve.l2] at h, fun _ _ _ _ _ r h => by simp [selvedgeref18_Resolve.l4] at h⟩
 | k + 1 => by
  obtain ⟨ih0, ih1, ih2, ih3, ih4, ih5, ih6, ih7, ih8, ih9, ih10⟩ := selvedgeref18_Resolve.mono_l k
  refine ⟨?_, ?_, ?_, ?_, ?_, ?_, ?_, ?_, ?_, ?_, ?_⟩
  ·intro y0 y1 y2 y3 y4 y5
   unfold selvedgeref18_Resolve.l0
   repeat' first
   | (with_reducible exact ih0 _ _ _ _ _ _)
   | (with_reducible exact ih1 _ _ _ _ _)
   | (with_reducible exact ih2 _ _ _ _ _ _)
   | (with_reducible exact ih3 _ _ _ _ _ _ _)
   | (with_reducible exact ih4 _ _ _ _ _ _ _ _ _)
   | (with_reducible exact ih5 _ _ _ _ _ _ _ _ _)
   | (with_reducible exact ih6 _ _ _ _ _ _ _ _ _ _)
   | (with_reducible exact ih7 _ _ _ _ _ _ _ _)
   | (with_reducible exact ih8 _ _ _ _ _ _ _ _)
   | (with_reducible exact ih9 _ _ _ _ _ _ _)
   | (with_reducible exact ih10 _ _ _ _ _)
   | (with_reducible exact LeO.refl _)
   | (with_reducible exact LeO.none _)
   | (with_reducible refine LeO.ite ?_ ?_)
   | (with_reducible refine LeO.bind ?_ (fun _ => ?_))
   | exact ih0 _ _ _ _ _ _
   | exact ih1 _ _ _ _ _
   | exact ih2 _ _ _ _ _ _
   | exact ih3 _ _ _ _ _ _ _
   | exact ih4 _ _ _ _ _ _ _ _ _
   | exact ih5 _ _ _ _ _ _ _ _ _
   | exact ih6 _ _ _ _ _ _ _ _ _ _
   | exact ih7 _ _ _ _ _ _ _ _
   | exact ih8 _ _ _ _ _ _ _ _
   | exact ih9 _ _ _ _ _ _ _
   | exact ih10 _ _ _ _ _
   | exact LeO.none _
   | refine LeO.ite ?_ ?_
   | refine LeO.bind ?_ (fun _ => ?_)
  ·intro y0 y1 y2 y3 y4
   unfold selvedgeref18_Resolve.j1
   repeat' first
   | (with_reducible exact ih0 _ _ _ _ _ _)
   | (with_reducible exact ih1 _ _ _ _ _)
   | (with_reducible exact ih2 _ _ _ _ _ _)
   | (with_reducible exact ih3 _ _ _ _ _ _ _)
   | (with_reducible exact ih4 _ _ _ _ _ _ _ _ _)
   | (with_reducible exact ih5 _ _ _ _ _ _ _ _ _)
   | (with_reducible exact ih6 _ _ _ _ _ _ _ _ _ _)
   | (with_reducible exact ih7 _ _ _ _ _ _ _ _)
   | (with_reducible exact ih8 _ _ _ _ _ _ _ _)
   | (with_reducible exact ih9 _ _ _ _ _ _ _)
   | (with_reducible exact ih10 _ _ _ _ _)
   | (with_reducible exact LeO.refl _)
   | (with_reducible exact LeO.none _)
   | (with_reducible refine LeO.ite ?_ ?_)
   | (with_reducible refine LeO.bind ?_ (fun _ => ?_))
   | exact ih0 _ _ _ _ _ _
   | exact ih1 _ _ _ _ _
   | exact ih2 _ _ _ _ _ _
   | exact ih3 _ _ _ _ _ _ _
   | exact ih4 _ _ _ _ _ _ _ _ _
   | exact ih5 _ _ _ _ _ _ _ _ _
   | exact ih6 _ _ _ _ _ _ _ _ _ _
   | exact ih7 _ _ _ _ _ _ _ _
   | exact ih8 _ _ _ _ _ _ _ _
   | exact ih9 _ _ _ _ _ _ _
   | exact ih10 _ _ _ _ _
   | exact LeO.none _
   | refine LeO.ite ?_ ?_
   | refine LeO.bind ?_ (fun _ => ?_)
  ·intro y0 y1 y2 y3 y4 y5
   unfold selvedgeref18_Resolve.l1
   repeat' first
   | (with_reducible exact ih0 _ _ _ _ _ _)
   | (with_reducible exact ih1 _ _ _ _ _)
   | (with_reducible exact ih2 _ _ _ _ _ _)
   | (with_reducible exact ih3 _ _ _ _ _ _ _)
   | (with_reducible exact ih4 _ _ _ _ _ _ _ _ _)
   | (with_reducible exact ih5 _ _ _ _ _ _ _ _ _)
   | (with_reducible exact ih6 _ _ _ _ _ _ _ _ _ _)
   | (with_reducible exact ih7 _ _ _ _ _ _ _ _)
   | (with_reducible exact ih8 _ _ _ _ _ _ _ _)
   | (with_reducible exact ih9 _ _ _ _ _ _ _)
   | (with_reducible exact ih10 _ _ _ _ _)
   | (with_reducible exact LeO.refl _)
   | (with_reducible exact LeO.none _)
   | (with_reducible refine LeO.ite ?_ ?_)
   | (with_reducible refine LeO.bind ?_ (fun _ => ?_))
   | exact ih0 _ _ _ _ _ _
   | exact ih1 _ _ _ _ _
   | exact ih2 _ _ _ _ _ _
   | exact ih3 _ _ _ _ _ _ _
   | exact ih4 _ _ _ _ _ _ _ _ _
   | exact ih5 _ _ _ _ _ _ _ _ _
   | exact ih6 _ _ _ _ _ _ _ _ _ _
   | exact ih7 _ _ _ _ _ _ _ _
   | exact ih8 _ _ _ _ _ _ _ _
   | exact ih9 _ _ _ _ _ _ _
   | exact ih10 _ _ _ _ _
   | exact LeO.none _
   | refine LeO.ite ?_ ?_
   | refine LeO.bind ?_ (fun _ => ?_)
  ·intro y0 y1 y2 y3 y4 y5 y6
   unfold selvedgeref18_Resolve.j4
   repeat' first
   | (with_reducible exact ih0 _ _ _ _ _ _)
   | (with_reducible exact ih1 _ _ _ _ _)
   | (with_reducible exact ih2 _ _ _ _ _ _)
   | (with_reducible exact ih3 _ _ _ _ _ _ _)
   | (with_reducible exact ih4 _ _ _ _ _ _ _ _ _)
   | (with_reducible exact ih5 _ _ _ _ _ _ _ _ _)
   | (with_reducible exact ih6 _ _ _ _ _ _ _ _ _ _)
   | (with_reducible exact ih7 _ _ _ _ _ _ _ _)
   | (with_reducible exact ih8 _ _ _ _ _ _ _ _)
   | (with_reducible exact ih9 _ _ _ _ _ _ _)
   | (with_reducible exact ih10 _ _ _ _ _)
   | (with_reducible exact LeO.refl _)
   | (with_reducible exact LeO.none _)
   | (with_reducible refine LeO.ite ?_ ?_)
   | (with_reducible refine LeO.bind ?_ (fun _ => ?_))
   | exact ih0 _ _ _ _ _ _
   | exact ih1 _ _ _ _ _
   | exact ih2 _ _ _ _ _ _
   | exact ih3 _ _ _ _ _ _ _
   | exact ih4 _ _ _ _ _ _ _ _ _
   | exact ih5 _ _ _ _ _ _ _ _ _
   | exact ih6 _ _ _ _ _ _ _ _ _ _
   | exact ih7 _ _ _ _ _ _ _ _
   | exact ih8 _ _ _ _ _ _ _ _
   | exact ih9 _ _ _ _ _ _ _
   | exact ih10 _ _ _ _ _
   | exact LeO.none _
   | refine LeO.ite ?_ ?_
   | refine LeO.bind ?_ (fun _ => ?_)
  ·intro y0 y1 y2 y3 y4 y5 y6 y7 y8
   unfold selvedgeref18_Resolve.j5
   repeat' first
   | (with_reducible exact ih0 _ _ _ _ _ _)
   | (with_reducible exact ih1 _ _ _ _ _)
   | (with_reducible exact ih2 _ _ _ _ _ _)
   | (with_reducible exact ih3 _ _ _ _ _ _ _)
   | (with_reducible exact ih4 _ _ _ _ _ _ _ _ _)
   | (with_reducible exact ih5 _ _ _ _ _ _ _ _ _)
   | (with_reducible exact ih6 _ _ _ _ _ _ _ _ _ _)
   | (with_reducible exact ih7 _ _ _ _ _ _ _ _)
   | (with_reducible exact ih8 _ _ _ _ _ _ _ _)
   | (with_reducible exact ih9 _ _ _ _ _ _ _)
   | (with_reducible exact ih10 _ _ _ _ _)
   | (with_reducible exact LeO.refl _)
   | (with_reducible exact LeO.none _)
   | (with_reducible refine LeO.ite ?_ ?_)
   | (with_reducible refine LeO.bind ?_ (fun _ => ?_))
   | exact ih0 _ _ _ _ _ _
   | exact ih1 _ _ _ _ _
   | exact ih2 _ _ _ _ _ _
   | exact ih3 _ _ _ _ _ _ _
   | exact ih4 _ _ _ _ _ _ _ _ _
   | exact ih5 _ _ _ _ _ _ _ _ _
   | exact ih6 _ _ _ _ _ _ _ _ _ _
   | exact ih7 _ _ _ _ _ _ _ _
   | exact ih8 _ _ _ _ _ _ _ _
   | exact ih9 _ _ _ _ _ _ _
   | exact ih10 _ _ _ _ _
   | exact LeO.none _
   | refine LeO.ite ?_ ?_
   | refine LeO.bind ?_ (fun _ => ?_)
  ·intro y0 y1 y2 y3 y4 y5 y6 y7 y8
   unfold selvedgeref18_Resolve.j6
   repeat' first
   | (with_reducible exact ih0 _ _ _ _ _ _)
   | (with_reducible exact ih1 _ _ _ _ _)
   | (with_reducible exact ih2 _ _ _ _ _ _)
   | (with_reducible exact ih3 _ _ _ _ _ _ _)
   | (with_reducible exact ih4 _ _ _ _ _ _ _ _ _)
   | (with_reducible exact ih5 _ _ _ _ _ _ _ _ _)
   | (with_reducible exact ih6 _ _ _ _ _ _ _ _ _ _)
   | (with_reducible exact ih7 _ _ _ _ _ _ _ _)
   | (with_reducible exact ih8 _ _ _ _ _ _ _ _)
   | (with_reducible exact ih9 _ _ _ _ _ _ _)
   | (with_reducible exact ih10 _ _ _ _ _)
   | (with_reducible exact LeO.refl _)
   | (with_reducible exact LeO.none _)
   | (with_reducible refine LeO.ite ?_ ?_)
   | (with_reducible refine LeO.bind ?_ (fun _ => ?_))
   | exact ih0 _ _ _ _ _ _
   | exact ih1 _ _ _ _ _
   | exact ih2 _ _ _ _ _ _
   | exact ih3 _ _ _ _ _ _ _
   | exact ih4 _ _ _ _ _ _ _ _ _
   | exact ih5 _ _ _ _ _ _ _ _ _
   | exact ih6 _ _ _ _ _ _ _ _ _ _
   | exact ih7 _ _ _ _ _ _ _ _
   | exact ih8 _ _ _ _ _ _ _ _
   | exact ih9 _ _ _ _ _ _ _
   | exact ih10 _ _ _ _ _
   | exact LeO.none _
   | refine LeO.ite ?_ ?_
   | refine LeO.bind ?_ (fun _ => ?_)
  ·intro y0 y1 y2 y3 y4 y5 y6 y7 y8 y9
   unfold selvedgeref18_Resolve.j7
   repeat' first
   | (with_reducible exact ih0 _ _ _ _ _ _)
   | (with_reducible exact ih1 _ _ _ _ _)
   | (with_reducible exact ih2 _ _ _ _ _ _)
   | (with_reducible exact ih3 _ _ _ _ _ _ _)
   | (with_reducible exact ih4 _ _ _ _ _ _ _ _ _)
   | (with_reducible exact ih5 _ _ _ _ _ _ _ _ _)
   | (with_reducible exact ih6 _ _ _ _ _ _ _ _ _ _)
   | (with_reducible exact ih7 _ _ _ _ _ _ _ _)
   | (with_reducible exact ih8 _ _ _ _ _ _ _ _)
   | (with_reducible exact ih9 _ _ _ _ _ _ _)
   | (with_reducible exact ih10 _ _ _ _ _)
   | (with_reducible exact LeO.refl _)
   | (with_reducible exact LeO.none _)
   | (with_reducible refine LeO.ite ?_ ?_)
   | (with_reducible refine LeO.bind ?_ (fun _ => ?_))
   | exact ih0 _ _ _ _ _ _
   | exact ih1 _ _ _ _ _
   | exact ih2 _ _ _ _ _ _
   | exact ih3 _ _ _ _ _ _ _
   | exact ih4 _ _ _ _ _ _ _ _ _
   | exact ih5 _ _ _ _ _ _ _ _ _
   | exact ih6 _ _ _ _ _ _ _ _ _ _
   | exact ih7 _ _ _ _ _ _ _ _
   | exact ih8 _ _ _ _ _ _ _ _
   | exact ih9 _ _ _ _ _ _ _
   | exact ih10 _ _ _ _ _
   | exact LeO.none _
   | refine LeO.ite ?_ ?_
   | refine LeO.bind ?_ (fun _ => ?_)
  ·intro y0 y1 y2 y3 y4 y5 y6 y7
   unfold selvedgeref18_Resolve.j8
   repeat' first
   | (with_reducible exact ih0 _ _ _ _ _ _)
   | (with_reducible exact ih1 _ _ _ _ _)
   | (with_reducible exact ih2 _ _ _ _ _ _)
   | (with_reducible exact ih3 _ _ _ _ _ _ _)
   | (with_reducible exact ih4 _ _ _ _ _ _ _ _ _)
   | (with_reducible exact ih5 _ _ _ _ _ _ _ _ _)
   | (with_reducible exact ih6 _ _ _ _ _ _ _ _ _ _)
   | (with_reducible exact ih7 _ _ _ _ _ _ _ _)
   | (with_reducible exact ih8 _ _ _ _ _ _ _ _)
   | (with_reducible exact ih9 _ _ _ _ _ _ _)
   | (with_reducible exact ih10 _ _ _ _ _)
   | (with_reducible exact LeO.refl _)
   | (with_reducible exact LeO.none _)
   | (with_reducible refine LeO.ite ?_ ?_)
   | (with_reducible refine LeO.bind ?_ (fun _ => ?_))
   | exact ih0 _ _ _ _ _ _
   | exact ih1 _ _ _ _ _
   | exact ih2 _ _ _ _ _ _
   | exact ih3 _ _ _ _ _ _ _
   | exact ih4 _ _ _ _ _ _ _ _ _
   | exact ih5 _ _ _ _ _ _ _ _ _
   | exact ih6 _ _ _ _ _ _ _ _ _ _
   | exact ih7 _ _ _ _ _ _ _ _
   | exact ih8 _ _ _ _ _ _ _ _
   | exact ih9 _ _ _ _ _ _ _
   | exact ih10 _ _ _ _ _
   | exact LeO.none _
   | refine LeO.ite ?_ ?_
   | refine LeO.bind ?_ (fun _ => ?_)
  ·intro y0 y1 y2 y3 y4 y5 y6 y7
   unfold selvedgeref18_Resolve.l3
   repeat' first
   | (with_reducible exact ih0 _ _ _ _ _ _)
   | (with_reducible exact ih1 _ _ _ _ _)
   | (with_reducible exact ih2 _ _ _ _ _ _)
   | (with_reducible exact ih3 _ _ _ _ _ _ _)
   | (with_reducible exact ih4 _ _ _ _ _ _ _ _ _)
   | (with_reducible exact ih5 _ _ _ _ _ _ _ _ _)
   | (with_reducible exact ih6 _ _ _ _ _ _ _ _ _ _)
   | (with_reducible exact ih7 _ _ _ _ _ _ _ _)
   | (with_reducible exact ih8 _ _ _ _ _ _ _ _)
   | (with_reducible exact ih9 _ _ _ _ _ _ _)
   | (with_reducible exact ih10 _ _ _ _ _)
   | (with_reducible exact LeO.refl _)
   | (with_reducible exact LeO.none _)
   | (with_reducible refine LeO.ite ?_ ?_)
   | (with_reducible refine LeO.bind ?_ (fun _ => ?_))
   | exact ih0 _ _ _ _ _ _
   | exact ih1 _ _ _ _ _
   | exact ih2 _ _ _ _ _ _
   | exact ih3 _ _ _ _ _ _ _
   | exact ih4 _ _ _ _ _ _ _ _ _
   | exact ih5 _ _ _ _ _ _ _ _ _
   | exact ih6 _ _ _ _ _ _ _ _ _ _
   | exact ih7 _ _ _ _ _ _ _ _
   | exact ih8 _ _ _ _ _ _ _ _
   | exact ih9 _ _ _ _ _ _ _
   | exact ih10 _ _ _ _ _
   | exact LeO.none _
   | refine LeO.ite ?_ ?_
   | refine LeO.bind ?_ (fun _ => ?_)
  ·intro y0 y1 y2 y3 y4 y5 y6
   unfold selvedgeref18_Resolve.l2
   repeat' first
   | (with_reducible exact ih0 _ _ _ _ _ _)
   | (with_reducible exact ih1 _ _ _ _ _)
   | (with_reducible exact ih2 _ _ _ _ _ _)
   | (with_reducible exact ih3 _ _ _ _ _ _ _)
   | (with_reducible exact ih4 _ _ _ _ _ _ _ _ _)
   | (with_reducible exact ih5 _ _ _ _ _ _ _ _ _)
   | (with_reducible exact ih6 _ _ _ _ _ _ _ _ _ _)
   | (with_reducible exact ih7 _ _ _ _ _ _ _ _)
   | (with_reducible exact ih8 _ _ _ _ _ _ _ _)
   | (with_reducible exact ih9 _ _ _ _ _ _ _)
   | (with_reducible exact ih10 _ _ _ _ _)
   | (with_reducible exact LeO.refl _)
   | (with_reducible exact LeO.none _)
   | (with_reducible refine LeO.ite ?_ ?_)
   | (with_reducible refine LeO.bind ?_ (fun _ => ?_))
   | exact ih0 _ _ _ _ _ _
   | exact ih1 _ _ _ _ _
   | exact ih2 _ _ _ _ _ _
   | exact ih3 _ _ _ _ _ _ _
   | exact ih4 _ _ _ _ _ _ _ _ _
   | exact ih5 _ _ _ _ _ _ _ _ _
   | exact ih6 _ _ _ _ _ _ _ _ _ _
   | exact ih7 _ _ _ _ _ _ _ _
   | exact ih8 _ _ _ _ _ _ _ _
   | exact ih9 _ _ _ _ _ _ _
   | exact ih10 _ _ _ _ _
   | exact LeO.none _
   | refine LeO.ite ?_ ?_
   | refine LeO.bind ?_ (fun _ => ?_)
  ·intro y0 y1 y2 y3 y4
   unfold selvedgeref18_Resolve.l4
   repeat' first
   | (with_reducible exact ih0 _ _ _ _ _ _)
   | (with_reducible exact ih1 _ _ _ _ _)
   | (with_reducible exact ih2 _ _ _ _ _ _)
   | (with_reducible exact ih3 _ _ _ _ _ _ _)
   | (with_reducible exact ih4 _ _ _ _ _ _ _ _ _)
   | (with_reducible exact ih5 _ _ _ _ _ _ _ _ _)
   | (with_reducible exact ih6 _ _ _ _ _ _ _ _ _ _)
   | (with_reducible exact ih7 _ _ _ _ _ _ _ _)
   | (with_reducible exact ih8 _ _ _ _ _ _ _ _)
   | (with_reducible exact ih9 _ _ _ _ _ _ _)
   | (with_reducible exact ih10 _ _ _ _ _)
   | (with_reducible exact LeO.refl _)
   | (with_reducible exact LeO.none _)
   | (with_reducible refine LeO.ite ?_ ?_)
   | (with_reducible refine LeO.bind ?_ (fun _ => ?_))
   | exact ih0 _ _ _ _ _ _
   | exact ih1 _ _ _ _ _
   | exact ih2 _ _ _ _ _ _
   | exact ih3 _ _ _ _ _ _ _
   | exact ih4 _ _ _ _ _ _ _ _ _
   | exact ih5 _ _ _ _ _ _ _ _ _
   | exact ih6 _ _ _ _ _ _ _ _ _ _
   | exact ih7 _ _ _ _ _ _ _ _
   | exact ih8 _ _ _ _ _ _ _ _
   | exact ih9 _ _ _ _ _ _ _
   | exact ih10 _ _ _ _ _
   | exact LeO.none _
   | refine LeO.ite ?_ ?_
   | refine LeO.bind ?_ (fun _ => ?_)
theorem selvedgeref18_Resolve.mono : ∀ a0 a1 a2 a3 k, LeO (selvedgeref18_Resolve.f k a0 a1 a2 a3) (selvedgeref18_Resolve.f (k + 1) a0 a1 a2 a3) := by
 intro a0 a1 a2 a3 k
 obtain ⟨ih0, ih1, ih2, ih3, ih4, ih5, ih6, ih7, ih8, ih9, ih10⟩ := selvedgeref18_Resolve.mono_l k
 unfold selvedgeref18_Resolve.f
 repeat' first
   | (with_reducible exact ih0 _ _ _ _ _ _)
   | (with_reducible exact ih1 _ _ _ _ _)
   | (with_reducible exact ih2 _ _ _ _ _ _)
   | (with_reducible exact ih3 _ _ _ _ _ _ _)
   | (with_reducible exact ih4 _ _ _ _ _ _ _ _ _)
   | (with_reducible exact ih5 _ _ _ _ _ _ _ _ _)
   | (with_reducible exact ih6 _ _ _ _ _ _ _ _ _ _)
   | (with_reducible exact ih7 _ _ _ _ _ _ _ _)
   | (with_reducible exact ih8 _ _ _ _ _ _ _ _)
   | (with_reducible exact ih9 _ _ _ _ _ _ _)
   | (with_reducible exact ih10 _ _ _ _ _)
   | (with_reducible exact LeO.refl _)
   | (with_reducible exact LeO.none _)
   | (with_reducible refine LeO.ite ?_ ?_)
   | (with_reducible refine LeO.bind ?_ (fun _ => ?_))
   | exact ih0 _ _ _ _ _ _
   | exact ih1 _ _ _ _ _
   | exact ih2 _ _ _ _ _ _
   | exact ih3 _ _ _ _ _ _ _
   | exact ih4 _ _ _ _ _ _ _ _ _
   | exact ih5 _ _ _ _ _ _ _ _ _
   | exact ih6 _ _ _ _ _ _ _ _ _ _
   | exact ih7 _ _ _ _ _ _ _ _
   | exact ih8 _ _ _ _ _ _ _ _
   | exact ih9 _ _ _ _ _ _ _
   | exact ih10 _ _ _ _ _
   | exact LeO.none _
   | refine LeO.ite ?_ ?_
   | refine LeO.bind ?_ (fun _ => ?_)
set_option maxHeartbeats 8000000 in
set_option maxRecDepth 100000 in
theorem selvedgeref18_Resolve.calls (k : Nat) (A0 : Option Addr) (c0 : Nat) (l0 : List Int) (a1 : Int) (a2 : Int) (a3 : Int) (r : List Int) (w : World) (hr0 : Kd.C (Kd.int .u8) w A0 l0.length l0) (hc0 : l0.length ≤ c0) (h : selvedgeref18_Resolve.f k l0 a1 a2 a3 = some r) :
  Calls Try.prog 13 #[.slice A0 l0.length c0, .int .u8 a1, .int .u8 a2, .int .u8 a3] w fun e w' => ∃ v0_ : Value, e = .returned (v0_) ∧ Kd.R (Kd.int .u8) 23 w' w.heap.size (fun _ => True) v0_ r ∧ Below w.heap.size w w' := by
 have HR0 := Aside0.mk hr0
 have HC0 := Aside0.mk hc0
 clear hr0 hc0
 have HB := Aside0.mk (Below.refl w.heap.size w)
 have H : (selvedgeref18_Resolve.l0 k l0 a1 a2 a3 ([] : List Int) 0) = some r := h
 clear h
 have H' := Aside0.mk H
 clear H
 go_enter Try.func13, Try.ntmps13
 go_wp2
 go_loopg [9, 10] k (fun kq v9 v10 w' => ∃ (x9_1 : List Int) (x10_1 : Int), v10 = .int .i64 x10_1 ∧ Aside0 (selvedgeref18_Resolve.l0 kq l0 a1 a2 a3 x9_1 x10_1 = some r) ∧ Aside0 (kq ≤ k) ∧ Aside0 (Kd.R (Kd.int .u8) 23 w' w.heap.size (fun _ => True) v9 x9_1) ∧ Aside0 (Below w.heap.size w w'))
 case atStart => exact ⟨(([] : List Int)), (0), (by first | rfl | (simp; done) | (simp [*]; done)), H', ⟨Nat.le_refl _⟩, ⟨by first | exact Kd.R_nil _ _ _ _ _ | exact Kd.N_nil _ _ _ _ _ | exact Kd.V_nil _ _ _ _ _ | exact Kd.Q_nil _ _ _ _ _ | exact Kd.S_nil _ _ _ _ _⟩, ⟨mvB HB⟩⟩
 case round =>
  clear H'
  try clear c1
  try clear p2
  obtain ⟨x9_1, x10_1, rfl, HA, HK1, HO_9, HB⟩ := hrel
  cases gk with
  | zero => exact absurd HA.out (by simp [selvedgeref18_Resolve.l0])
  | succ k1 =>
   have H := HA.out
   clear HA
   simp only [selvedgeref18_Resolve.l0] at H
   by_cases c5 : x10_1 < (l0.length : Int)
   ·rw [if_pos c5] at H
    have c5b0 : decide (x10_1 < (l0.length : Int)) = true := decide_eq_true c5
    clear c5
    by_cases c6 : 0 ≤ x10_1
    ·rw [if_pos c6] at H
     have c6b0 : decide (0 ≤ x10_1) = true := decide_eq_true c6
     clear c6
     by_cases c7 : (rd l0 x10_1) = 10
     ·rw [if_pos c7] at H
      have c7b0 : ((rd l0 x10_1) == 10) = true := beq_iff_eq.mpr c7
      have c7b1 : ((rd l0 x10_1) != 10) = false := bne_eq_false_iff_eq.mpr c7
      clear c7
      have H' := Aside0.mk H
      clear H
      obtain ⟨ad119, e119, hx119_0, p119, q119⟩ := atI HR0.out x10_1
      cases e119
      replace hx119_0 := (HB.out.cell (World.block_lt_of_cell? w _ hx119_0)).trans hx119_0
      go_wp2
      go_roundg k1
      case measure => have := HK1.out; omega
      case rel => exact ⟨(x9_1), (wrap64 (x10_1 + 1)), (by first | rfl | (simp; done) | (simp [*]; done)), H', ⟨by have := HK1.out; omega⟩, ⟨mvR HO_9⟩, ⟨mvB HB⟩⟩
     ·rw [if_neg c7] at H
      have c7b0 : ((rd l0 x10_1) == 10) = false := beq_eq_false_iff_ne.mpr c7
      have c7b1 : ((rd l0 x10_1) != 10) = true := bne_iff_ne.mpr c7
      by_cases c8 : x9_1.length < 140737488355328
      ·rw [if_pos c8] at H
       have LMc8 := Aside0.mk c8
       clear c8
       obtain ⟨y121, hy121⟩ : ∃ y_ : List Int, y_ = (x9_1 ++ [rd l0 x10_1]) := ⟨_, rfl⟩
       replace H : (selvedgeref18_Resolve.l0 k1 l0 a1 a2 a3 y121 (wrap64 (x10_1 + 1))) = some r := by first | (rw [hy121]; with_reducible exact H) | (have H2_ := (Option.bind_some _ _).symm.trans H; rw [hy121]; with_reducible exact H2_) | (have H2_ := (Option.bind_some _ _).symm.trans H; with_reducible exact H2_) | with_reducible exact H | (rw [hy121]; exact H) | exact H
       have Ny121 := Aside0.mk hy121
       clear hy121
       have H' := Aside0.mk H
       clear H
       obtain ⟨ad119, e119, hx119_0, p119, q119⟩ := atI HR0.out x10_1
       cases e119
       replace hx119_0 := (HB.out.cell (World.block_lt_of_cell? w _ hx119_0)).trans hx119_0
       obtain ⟨ad120, e120, hx120_0, p120, q120⟩ := atI HR0.out x10_1
       obtain rfl : ad119 = ad120 := (by injection e120)
       replace hx120_0 := (HB.out.cell (World.block_lt_of_cell? w _ hx120_0)).trans hx120_0
       go_wp2_with (first | ((with_reducible refine gate_builtin (b := .append) (xs := #[.tmp 31, .tmp 36]) rfl ?_); at_builtin; refine Kd.R_append (Kd.int .u8) (w0 := w) w.heap.size rfl (.tmp 31) (.tmp 36) 22 23 (.int .u8 0) 1 rfl Try.underlying22 info23 rfl (by decide) (by omega) u9 x9_1 (rd l0 x10_1) [.int .u8 (rd l0 x10_1)] (fun _ => True) (fun _ => False) rfl rfl ?aP (fun _ hk => hk.elim) ?aF ?aO ?aB ?aS ?aL ?_; (case aP => exact rfl); (case aB => exact (mvB HB)); (case aF => exact (fun _ _ => trivial)); (case aO => exact (mvR HO_9)); (case aS => exact (below_size (mvB HB))); (case aL => have := LMc8.out; omega); intro v122 w9 ho hb hg hat; rw [← Ny121.out] at ho; have n0_ := Aside0.mk (hb); have n1_ := Aside0.mk (ho); clear HB; clear HO_9; have HB := n0_; have HO123 := n1_; clear n0_ n1_; clear ho hb hg hat))
       go_roundg k1
       case measure => have := HK1.out; omega
       case rel => exact ⟨(y121), (wrap64 (x10_1 + 1)), (by first | rfl | (simp; done) | (simp [*]; done)), H', ⟨by have := HK1.out; omega⟩, ⟨mvR HO123⟩, ⟨mvB HB⟩⟩
      ·rw [if_neg c8] at H
       exact absurd H (by simp)
    ·rw [if_neg c6] at H
     exact absurd H (by simp)
   ·rw [if_neg c5] at H
    have c5b0 : decide (x10_1 < (l0.length : Int)) = false := decide_eq_false c5
    clear c5
    have HC10 := Aside0.mk H
    clear H
    go_upto_if 40 with (fail)
    go_cut [11] (fun v11 wc => ∃ (kq : Nat) (x11_9 : Int), v11 = .int .u8 x11_9 ∧ Aside0 (selvedgeref18_Resolve.j1 kq l0 a2 a3 x9_1 x11_9 = some r) ∧ Aside0 (kq ≤ k1) ∧ Aside0 (Kd.R (Kd.int .u8) 23 wc w.heap.size (fun _ => True) u9 x9_1) ∧ Aside0 (Below w.heap.size w wc))
    case first =>
     have H := HC10.out
     clear HC10
     by_cases c11 : (Int.tmod a1 2) = 1
     ·rw [if_pos c11] at H
      have c11b0 : ((Int.tmod a1 2) == 1) = true := beq_iff_eq.mpr c11
      have c11b1 : ((Int.tmod a1 2) != 1) = false := bne_eq_false_iff_eq.mpr c11
      clear c11
      (first | rw [c11b0] | (simp only [i64_w, i32_w]; rw [c11b0]) | skip)
      have H' := Aside0.mk H
      clear H
      go_wp2
      go_meet
      case rel => exact ⟨_, (2), (by first | rfl | (simp; done) | (simp [*]; done)), H', ⟨by have := HK1.out; first | omega | exact Nat.le_refl _⟩, ⟨mvR HO_9⟩, ⟨mvB HB⟩⟩
     ·rw [if_neg c11] at H
      have c11b0 : ((Int.tmod a1 2) == 1) = false := beq_eq_false_iff_ne.mpr c11
      have c11b1 : ((Int.tmod a1 2) != 1) = true := bne_iff_ne.mpr c11
      (first | rw [c11b0] | (simp only [i64_w, i32_w]; rw [c11b0]) | skip)
      have H' := Aside0.mk H
      clear H
      go_wp2
      go_meet
      case rel => exact ⟨_, (1), (by first | rfl | (simp; done) | (simp [*]; done)), H', ⟨by have := HK1.out; first | omega | exact Nat.le_refl _⟩, ⟨mvR HO_9⟩, ⟨mvB HB⟩⟩
    case rest =>
     clear HC10
     try clear c1
     try clear p1
     try clear q1
     try clear hx1
     try clear p2
     try clear c5
     try clear c5b0
     try clear c6
     try clear c6b0
     try clear p6
     try clear c7
     try clear c7b0
     try clear c7b1
     try clear c8
     try clear c11
     try clear c11b0
     try clear c11b1
     try clear p11
     try clear q11
     try clear hx11
     try clear hx119_0
     try clear hx120_0
     try clear p119
     try clear p120
     try clear p2
     try clear q119
     try clear q120
     obtain ⟨kq, x11_9, rfl, HA, HJ9, HO_9, HB⟩ := hcut
     cases kq with
     | zero => exact absurd HA.out (by simp [selvedgeref18_Resolve.j1])
     | succ kj9 =>
      have H := HA.out
      clear HA
      simp only [selvedgeref18_Resolve.j1] at H
      have H' := Aside0.mk H
      clear H
      go_wp2
      go_loopg [12] kj9 (fun kq v12 w' => ∃ (x9_3 : List Int) (x12_3 : Int), v12 = .int .i64 x12_3 ∧ Aside0 (selvedgeref18_Resolve.l1 kq l0 a2 a3 x9_3 x11_9 x12_3 = some r) ∧ Aside0 (kq ≤ kj9) ∧ Aside0 (Kd.R (Kd.int .u8) 23 w' w.heap.size (fun _ => True) u9 x9_3) ∧ Aside0 (Below w.heap.size w w'))
      case atStart => exact ⟨(x9_1), (0), (by first | rfl | (simp; done) | (simp [*]; done)), H', ⟨Nat.le_refl _⟩, ⟨mvR HO_9⟩, ⟨mvB HB⟩⟩
      case round =>
       clear H'
       try clear c1
       try clear p1
       try clear q1
       try clear hx1
       try clear p2
       try clear c5
       try clear c5b0
       try clear c6
       try clear c6b0
       try clear p6
       try clear c7
       try clear c7b0
       try clear c7b1
       try clear c8
       try clear c11
       try clear c11b0
       try clear c11b1
       try clear p11
       try clear q11
       try clear hx11
       try clear hx119_0
       try clear hx120_0
       try clear p1
       try clear p11
       try clear p119
       try clear p120
       try clear p2
       try clear p6
       try clear q1
       try clear q11
       try clear q119
       try clear q120
       obtain ⟨x9_3, x12_3, rfl, HA, HK3, HO_9, HB⟩ := hrel
       cases gk with
       | zero => exact absurd HA.out (by simp [selvedgeref18_Resolve.l1])
       | succ k3 =>
        have H := HA.out
        clear HA
        simp only [selvedgeref18_Resolve.l1] at H
        by_cases c12 : x12_3 < (x9_3.length : Int)
        ·rw [if_pos c12] at H
         have c12b0 : decide (x12_3 < (x9_3.length : Int)) = true := decide_eq_true c12
         clear c12
         have HC13 := Aside0.mk H
         clear H
         obtain ⟨Ao14, co14, eo14⟩ := Kd.R_slice HO_9.out
         subst eo14
         go_upto_block 4 with (fail)
         go_cut [13] (fun v13 wc => ∃ (kq : Nat) (x13_12 : Int), v13 = .int .i64 x13_12 ∧ Aside0 (selvedgeref18_Resolve.j4 kq l0 a2 a3 x9_3 x11_9 x12_3 x13_12 = some r) ∧ Aside0 (kq ≤ k3) ∧ Aside0 (Kd.R (Kd.int .u8) 23 wc w.heap.size (fun _ => True) (.slice Ao14 x9_3.length co14) x9_3) ∧ Aside0 (Below w.heap.size w wc))
         case first =>
          have H := HC13.out
          clear HC13
          have H' := Aside0.mk H
          clear H
          go_wp2
          go_loopg [13] k3 (fun kq v13 w' => ∃ (x13_4 : Int), v13 = .int .i64 x13_4 ∧ Aside0 (selvedgeref18_Resolve.l2 kq l0 a2 a3 x9_3 x11_9 x12_3 x13_4 = some r) ∧ Aside0 (kq ≤ k3) ∧ Aside0 (Kd.R (Kd.int .u8) 23 w' w.heap.size (fun _ => True) (.slice Ao14 x9_3.length co14) x9_3) ∧ Aside0 (Below w.heap.size w w'))
          case atStart => exact ⟨(x12_3), (by first | rfl | (simp; done) | (simp [*]; done)), H', ⟨Nat.le_refl _⟩, ⟨mvR HO_9⟩, ⟨mvB HB⟩⟩
          case round =>
           clear H'
           try clear c1
           try clear p1
           try clear q1
           try clear hx1
           try clear p2
           try clear c5
           try clear c5b0
           try clear c6
           try clear c6b0
           try clear p6
           try clear c7
           try clear c7b0
           try clear c7b1
           try clear c8
           try clear c11
           try clear c11b0
           try clear c11b1
           try clear p11
           try clear q11
           try clear hx11
           try clear c12
           try clear c12b0
           try clear p12
           try clear q12
           try clear hx12
           try clear c13
           try clear hx119_0
           try clear hx120_0
           try clear p1
           try clear p11
           try clear p119
           try clear p120
           try clear p2
           try clear p6
           try clear q1
           try clear q11
           try clear q119
           try clear q120
           obtain ⟨x13_4, rfl, HA, HK4, HO_9, HB⟩ := hrel
           cases gk with
           | zero => exact absurd HA.out (by simp [selvedgeref18_Resolve.l2])
           | succ k4 =>
            have H := HA.out
            clear HA
            simp only [selvedgeref18_Resolve.l2] at H
            by_cases c15 : x13_4 < (x9_3.length : Int)
            ·rw [if_pos c15] at H
             have c15b0 : decide (x13_4 < (x9_3.length : Int)) = true := decide_eq_true c15
             clear c15
             (first | rw [c15b0] | (simp only [i64_w, i32_w]; rw [c15b0]) | skip)
             by_cases c16 : 0 ≤ x13_4
             ·rw [if_pos c16] at H
              have c16b0 : decide (0 ≤ x13_4) = true := decide_eq_true c16
              clear c16
              replace H := Option.bind_eq_some_iff.mp H
              obtain ⟨t125, A170, H⟩ := H
              replace H : (if t125 = true then (selvedgeref18_Resolve.l2 k4 l0 a2 a3 x9_3 x11_9 x12_3 (wrap64 (x13_4 + 1))) else (selvedgeref18_Resolve.j4 k4 l0 a2 a3 x9_3 x11_9 x12_3 x13_4)) = some r := H
              have A17 := Aside0.mk A170
              clear A170
              by_cases c18 : t125 = true
              ·subst c18
               have H1 : (selvedgeref18_Resolve.l2 k4 l0 a2 a3 x9_3 x11_9 x12_3 (wrap64 (x13_4 + 1))) = some r := by rw [if_pos rfl] at H; exact H
               clear H
               have H := H1
               clear H1
               have H' := Aside0.mk H
               clear H
               obtain ⟨ad124, e124, hx124_0, p124, q124⟩ := atI (Kd.R_reads' HO_9.out).2.2 x13_4
               cases e124
               go_wp2_with (first | (go_at_call 17; (with_reducible refine (selvedgeref18_Neutral.calls (rd x9_3 x13_4) true _ A17.out).mono ?_); rintro e w' ⟨rfl, ⟨nd, rfl⟩⟩))
               go_roundg k4
               case measure => have := HK1.out; have := HJ9.out; have := HK3.out; have := HK4.out; omega
               case rel => exact ⟨(wrap64 (x13_4 + 1)), (by first | rfl | (simp; done) | (simp [*]; done)), H', ⟨by have := HK1.out; have := HJ9.out; have := HK3.out; have := HK4.out; omega⟩, ⟨mvR HO_9⟩, ⟨mvB HB⟩⟩
              ·replace c18 := Bool.eq_false_iff.mpr c18
               subst c18
               have H1 : (selvedgeref18_Resolve.j4 k4 l0 a2 a3 x9_3 x11_9 x12_3 x13_4) = some r := by rw [if_neg (show ¬ (false = true) by decide)] at H; exact H
               clear H
               have H := H1
               clear H1
               have H' := Aside0.mk H
               clear H
               obtain ⟨ad124, e124, hx124_0, p124, q124⟩ := atI (Kd.R_reads' HO_9.out).2.2 x13_4
               cases e124
               go_wp2_with (first | (go_at_call 17; (with_reducible refine (selvedgeref18_Neutral.calls (rd x9_3 x13_4) false _ A17.out).mono ?_); rintro e w' ⟨rfl, ⟨nd, rfl⟩⟩))
               go_meet
               case rel => exact ⟨_, (x13_4), (by first | rfl | (simp; done) | (simp [*]; done)), H', ⟨by have := HK1.out; have := HJ9.out; have := HK3.out; have := HK4.out; first | omega | exact Nat.le_refl _⟩, ⟨mvR HO_9⟩, ⟨mvB HB⟩⟩
             ·rw [if_neg c16] at H
              exact absurd H (by simp)
            ·rw [if_neg c15] at H
             have c15b0 : decide (x13_4 < (x9_3.length : Int)) = false := decide_eq_false c15
             clear c15
             (first | rw [c15b0] | (simp only [i64_w, i32_w]; rw [c15b0]) | skip)
             have H' := Aside0.mk H
             clear H
             go_wp2
             go_meet
             case rel => exact ⟨_, (x13_4), (by first | rfl | (simp; done) | (simp [*]; done)), H', ⟨by have := HK1.out; have := HJ9.out; have := HK3.out; have := HK4.out; first | omega | exact Nat.le_refl _⟩, ⟨mvR HO_9⟩, ⟨mvB HB⟩⟩
         case rest =>
          clear HC13
          try clear c1
          try clear p1
          try clear q1
          try clear hx1
          try clear p2
          try clear c5
          try clear c5b0
          try clear c6
          try clear c6b0
          try clear p6
          try clear c7
          try clear c7b0
          try clear c7b1
          try clear c8
          try clear c11
          try clear c11b0
          try clear c11b1
          try clear p11
          try clear q11
          try clear hx11
          try clear c12
          try clear c12b0
          try clear p12
          try clear q12
          try clear hx12
          try clear c13
          try clear c15
          try clear c15b0
          try clear c16
          try clear c16b0
          try clear c18
          try clear hx119_0
          try clear hx120_0
          try clear hx124_0
          try clear p1
          try clear p11
          try clear p119
          try clear p12
          try clear p120
          try clear p124
          try clear p2
          try clear p6
          try clear q1
          try clear q11
          try clear q119
          try clear q12
          try clear q120
          try clear q124
          obtain ⟨kq, x13_12, rfl, HA, HJ12, HO_9, HB⟩ := hcut
          cases kq with
          | zero => exact absurd HA.out (by simp [selvedgeref18_Resolve.j4])
          | succ kj12 =>
           have H := HA.out
           clear HA
           simp only [selvedgeref18_Resolve.j4] at H
           by_cases c19 : x13_12 = x12_3
           ·rw [if_pos c19] at H
            have c19b0 : (x13_12 == x12_3) = true := beq_iff_eq.mpr c19
            have c19b1 : (x13_12 != x12_3) = false := bne_eq_false_iff_eq.mpr c19
            clear c19
            have H' := Aside0.mk H
            clear H
            go_wp2
            go_roundg kj12
            case measure => have := HK1.out; have := HJ9.out; have := HK3.out; have := HJ12.out; omega
            case rel => exact ⟨(x9_3), (wrap64 (x12_3 + 1)), (by first | rfl | (simp; done) | (simp [*]; done)), H', ⟨by have := HK1.out; have := HJ9.out; have := HK3.out; have := HJ12.out; omega⟩, ⟨mvR HO_9⟩, ⟨mvB HB⟩⟩
           ·rw [if_neg c19] at H
            have c19b0 : (x13_12 == x12_3) = false := beq_eq_false_iff_ne.mpr c19
            have c19b1 : (x13_12 != x12_3) = true := bne_iff_ne.mpr c19
            replace H := Option.bind_eq_some_iff.mp H
            obtain ⟨t126, A200, H⟩ := H
            replace H : ((selvedgeref18_ends.f a3).bind fun t127 => (if x12_3 > 0 then (if 0 ≤ (wrap64 (x12_3 - 1)) then (if (wrap64 (x12_3 - 1)) < (x9_3.length : Int) then ((selvedgeref18_direction.f (rd x9_3 (wrap64 (x12_3 - 1)))).bind fun t129 => (selvedgeref18_Resolve.j5 kj12 l0 a2 a3 x9_3 x11_9 x12_3 x13_12 t129 t127)) else (none)) else (none)) else (selvedgeref18_Resolve.j5 kj12 l0 a2 a3 x9_3 x11_9 x12_3 x13_12 t126 t127))) = some r := H
            have A20 := Aside0.mk A200
            clear A200
            replace H := Option.bind_eq_some_iff.mp H
            obtain ⟨t127, A210, H⟩ := H
            replace H : (if x12_3 > 0 then (if 0 ≤ (wrap64 (x12_3 - 1)) then (if (wrap64 (x12_3 - 1)) < (x9_3.length : Int) then ((selvedgeref18_direction.f (rd x9_3 (wrap64 (x12_3 - 1)))).bind fun t129 => (selvedgeref18_Resolve.j5 kj12 l0 a2 a3 x9_3 x11_9 x12_3 x13_12 t129 t127)) else (none)) else (none)) else (selvedgeref18_Resolve.j5 kj12 l0 a2 a3 x9_3 x11_9 x12_3 x13_12 t126 t127)) = some r := H
            have A21 := Aside0.mk A210
            clear A210
            have HC22 := Aside0.mk H
            clear H
            go_upto_if 69 with (first | ((with_reducible refine gate_callee (f := 23) rfl ?_); refine goesL_ (some 65) rfl rfl Try.func23 (by kernel_rfl) rfl #[.int .u8 a2] rfl (by (try simp only [List.map_toArray, List.map_cons, List.map_nil]); first | done | rfl | (simp only [List.length_drop, List.length_take]; rfl)) ?_; (with_reducible refine (selvedgeref18_ends.calls a2 t126 _ A20.out).mono ?_); rintro e w' ⟨rfl, ⟨nd, rfl⟩⟩; refine ⟨_, rfl, ?_⟩) | ((with_reducible refine gate_callee (f := 23) rfl ?_); refine goesL_ (some 67) rfl rfl Try.func23 (by kernel_rfl) rfl #[.int .u8 a3] rfl (by (try simp only [List.map_toArray, List.map_cons, List.map_nil]); first | done | rfl | (simp only [List.length_drop, List.length_take]; rfl)) ?_; (with_reducible refine (selvedgeref18_ends.calls a3 t127 _ A21.out).mono ?_); rintro e w' ⟨rfl, ⟨nd, rfl⟩⟩; refine ⟨_, rfl, ?_⟩))
            (try simp only [Act.put, List.setIfInBounds_toArray, List.set_cons_zero, List.set_cons_succ])
            go_cut [14] (fun v14 wc => ∃ (kq : Nat) (x14_21 : Int), v14 = .int .u8 x14_21 ∧ Aside0 (selvedgeref18_Resolve.j5 kq l0 a2 a3 x9_3 x11_9 x12_3 x13_12 x14_21 t127 = some r) ∧ Aside0 (kq ≤ kj12) ∧ Aside0 (Kd.R (Kd.int .u8) 23 wc w.heap.size (fun _ => True) (.slice Ao14 x9_3.length co14) x9_3) ∧ Aside0 (Below w.heap.size w wc))
            case first =>
             have H := HC22.out
             clear HC22
             by_cases c23 : x12_3 > 0
             ·rw [if_pos c23] at H
              have c23b0 : decide (0 < x12_3) = true := decide_eq_true c23
              clear c23
              (first | rw [c23b0] | (simp only [i64_w, i32_w]; rw [c23b0]) | skip)
              obtain ⟨ji24, hji24⟩ : ∃ j_ : Int, (wrap64 (x12_3 - 1)) = j_ := ⟨_, rfl⟩
              replace H : (if 0 ≤ (ji24) then (if (ji24) < (x9_3.length : Int) then ((selvedgeref18_direction.f (rd x9_3 (ji24))).bind fun t129 => (selvedgeref18_Resolve.j5 kj12 l0 a2 a3 x9_3 x11_9 x12_3 x13_12 t129 t127)) else (none)) else (none)) = some r := by first | (rw [hji24] at H; exact H) | (simp only [hji24] at H ⊢; exact H)
              have hji24w : (IntKind.i64.wrap (x12_3 - 1)) = ji24 := (i64_w _).trans hji24
              by_cases c25 : 0 ≤ (ji24)
              ·rw [if_pos c25] at H
               have c25b0 : decide (0 ≤ (ji24)) = true := decide_eq_true c25
               clear c25
               by_cases c26 : (ji24) < (x9_3.length : Int)
               ·rw [if_pos c26] at H
                have c26b0 : decide ((ji24) < (x9_3.length : Int)) = true := decide_eq_true c26
                clear c26
                replace H := Option.bind_eq_some_iff.mp H
                obtain ⟨t129, A270, H⟩ := H
                replace H : (selvedgeref18_Resolve.j5 kj12 l0 a2 a3 x9_3 x11_9 x12_3 x13_12 t129 t127) = some r := H
                have A27 := Aside0.mk A270
                clear A270
                have H' := Aside0.mk H
                clear H
                obtain ⟨ad128, e128, hx128_0, p128, q128⟩ := atI (Kd.R_reads' HO_9.out).2.2 (ji24)
                cases e128
                go_wp2_with (first | ((with_reducible refine gate_callee (f := 24) rfl ?_); refine goesL_ (some 75) rfl rfl Try.func24 (by kernel_rfl) rfl #[.int .u8 (rd x9_3 (ji24))] rfl (by (try simp only [List.map_toArray, List.map_cons, List.map_nil]); first | done | (simp only [hji24]; rfl) | rfl | (simp only [List.length_drop, List.length_take]; rfl)) ?_; (with_reducible refine (selvedgeref18_direction.calls (rd x9_3 (ji24)) t129 _ A27.out).mono ?_); rintro e w' ⟨rfl, ⟨nd, rfl⟩⟩; refine ⟨_, rfl, ?_⟩))
                go_meet
                case rel => exact ⟨_, (t129), (by first | rfl | (simp; done) | (simp [*]; done)), H', ⟨by have := HK1.out; have := HJ9.out; have := HK3.out; have := HJ12.out; first | omega | exact Nat.le_refl _⟩, ⟨mvR HO_9⟩, ⟨mvB HB⟩⟩
               ·rw [if_neg c26] at H
                exact absurd H (by simp)
              ·rw [if_neg c25] at H
               exact absurd H (by simp)
             ·rw [if_neg c23] at H
              have c23b0 : decide (0 < x12_3) = false := decide_eq_false c23
              clear c23
              (first | rw [c23b0] | (simp only [i64_w, i32_w]; rw [c23b0]) | skip)
              have H' := Aside0.mk H
              clear H
              go_wp2
              go_meet
              case rel => exact ⟨_, (t126), (by first | rfl | (simp; done) | (simp [*]; done)), H', ⟨by have := HK1.out; have := HJ9.out; have := HK3.out; have := HJ12.out; first | omega | exact Nat.le_refl _⟩, ⟨mvR HO_9⟩, ⟨mvB HB⟩⟩
            case rest =>
             clear HC22
             try clear c1
             try clear p1
             try clear q1
             try clear hx1
             try clear c2
             try clear p2
             try clear c5
             try clear c5b0
             try clear c6
             try clear c6b0
             try clear p6
             try clear c7
             try clear c7b0
             try clear c7b1
             try clear c8
             try clear c11
             try clear c11b0
             try clear c11b1
             try clear p11
             try clear q11
             try clear hx11
             try clear c12
             try clear c12b0
             try clear p12
             try clear q12
             try clear hx12
             try clear c13
             try clear c15
             try clear c15b0
             try clear c16
             try clear c16b0
             try clear c18
             try clear c19
             try clear c19b0
             try clear c19b1
             try clear c23
             try clear c23b0
             try clear c24
             try clear c25
             try clear c25b0
             try clear c26
             try clear c26b0
             try clear hx119_0
             try clear hx120_0
             try clear hx124_0
             try clear hx128_0
             try clear p1
             try clear p11
             try clear p119
             try clear p12
             try clear p120
             try clear p124
             try clear p128
             try clear p2
             try clear p6
             try clear q1
             try clear q11
             try clear q119
             try clear q12
             try clear q120
             try clear q124
             try clear q128
             obtain ⟨kq, x14_21, rfl, HA, HJ21, HO_9, HB⟩ := hcut
             cases kq with
             | zero => exact absurd HA.out (by simp [selvedgeref18_Resolve.j5])
             | succ kj21 =>
              have H := HA.out
              clear HA
              simp only [selvedgeref18_Resolve.j5] at H
              have HC28 := Aside0.mk H
              clear H
              go_upto_if 79 with (fail)
              go_cut [15] (fun v15 wc => ∃ (kq : Nat) (x15_27 : Int), v15 = .int .u8 x15_27 ∧ Aside0 (selvedgeref18_Resolve.j6 kq l0 a2 a3 x9_3 x11_9 x12_3 x13_12 x14_21 x15_27 = some r) ∧ Aside0 (kq ≤ kj21) ∧ Aside0 (Kd.R (Kd.int .u8) 23 wc w.heap.size (fun _ => True) (.slice Ao14 x9_3.length co14) x9_3) ∧ Aside0 (Below w.heap.size w wc))
              case first =>
               have H := HC28.out
               clear HC28
               by_cases c29 : x13_12 < (x9_3.length : Int)
               ·rw [if_pos c29] at H
                have c29b0 : decide (x13_12 < (x9_3.length : Int)) = true := decide_eq_true c29
                clear c29
                (first | rw [c29b0] | (simp only [i64_w, i32_w]; rw [c29b0]) | skip)
                by_cases c30 : 0 ≤ x13_12
                ·rw [if_pos c30] at H
                 have c30b0 : decide (0 ≤ x13_12) = true := decide_eq_true c30
                 clear c30
                 replace H := Option.bind_eq_some_iff.mp H
                 obtain ⟨t131, A310, H⟩ := H
                 replace H : (selvedgeref18_Resolve.j6 kj21 l0 a2 a3 x9_3 x11_9 x12_3 x13_12 x14_21 t131) = some r := H
                 have A31 := Aside0.mk A310
                 clear A310
                 have H' := Aside0.mk H
                 clear H
                 obtain ⟨ad130, e130, hx130_0, p130, q130⟩ := atI (Kd.R_reads' HO_9.out).2.2 x13_12
                 cases e130
                 go_wp2_with (first | ((with_reducible refine gate_callee (f := 24) rfl ?_); refine goesL_ (some 84) rfl rfl Try.func24 (by kernel_rfl) rfl #[.int .u8 (rd x9_3 x13_12)] rfl (by (try simp only [List.map_toArray, List.map_cons, List.map_nil]); first | done | rfl | (simp only [List.length_drop, List.length_take]; rfl)) ?_; (with_reducible refine (selvedgeref18_direction.calls (rd x9_3 x13_12) t131 _ A31.out).mono ?_); rintro e w' ⟨rfl, ⟨nd, rfl⟩⟩; refine ⟨_, rfl, ?_⟩))
                 go_meet
                 case rel => exact ⟨_, (t131), (by first | rfl | (simp; done) | (simp [*]; done)), H', ⟨by have := HK1.out; have := HJ9.out; have := HK3.out; have := HJ12.out; have := HJ21.out; first | omega | exact Nat.le_refl _⟩, ⟨mvR HO_9⟩, ⟨mvB HB⟩⟩
                ·rw [if_neg c30] at H
                 exact absurd H (by simp)
               ·rw [if_neg c29] at H
                have c29b0 : decide (x13_12 < (x9_3.length : Int)) = false := decide_eq_false c29
                clear c29
                (first | rw [c29b0] | (simp only [i64_w, i32_w]; rw [c29b0]) | skip)
                have H' := Aside0.mk H
                clear H
                go_wp2
                go_meet
                case rel => exact ⟨_, (t127), (by first | rfl | (simp; done) | (simp [*]; done)), H', ⟨by have := HK1.out; have := HJ9.out; have := HK3.out; have := HJ12.out; have := HJ21.out; first | omega | exact Nat.le_refl _⟩, ⟨mvR HO_9⟩, ⟨mvB HB⟩⟩
              case rest =>
               clear HC28
               try clear c1
               try clear p1
               try clear q1
               try clear hx1
               try clear c2
               try clear p2
               try clear c3
               try clear c5
               try clear c5b0
               try clear c6
               try clear c6b0
               try clear p6
               try clear c7
               try clear c7b0
               try clear c7b1
               try clear c8
               try clear c11
               try clear c11b0
               try clear c11b1
               try clear p11
               try clear q11
               try clear hx11
               try clear c12
               try clear c12b0
               try clear p12
               try clear q12
               try clear hx12
               try clear c13
               try clear p13
               try clear q13
               try clear hx13
               try clear c15
               try clear c15b0
               try clear c16
               try clear c16b0
               try clear c18
               try clear c19
               try clear c19b0
               try clear c19b1
               try clear c23
               try clear c23b0
               try clear c24
               try clear c25
               try clear c25b0
               try clear c26
               try clear c26b0
               try clear c29
               try clear c29b0
               try clear c30
               try clear c30b0
               try clear hx119_0
               try clear hx120_0
               try clear hx124_0
               try clear hx128_0
               try clear hx130_0
               try clear p1
               try clear p11
               try clear p119
               try clear p12
               try clear p120
               try clear p124
               try clear p128
               try clear p130
               try clear p2
               try clear p6
               try clear q1
               try clear q11
               try clear q119
               try clear q12
               try clear q120
               try clear q124
               try clear q128
               try clear q130
               obtain ⟨kq, x15_27, rfl, HA, HJ27, HO_9, HB⟩ := hcut
               cases kq with
               | zero => exact absurd HA.out (by simp [selvedgeref18_Resolve.j6])
               | succ kj27 =>
                have H := HA.out
                clear HA
                simp only [selvedgeref18_Resolve.j6] at H
                have HC32 := Aside0.mk H
                clear H
                go_upto_region 23 with (fail)
                go_cut [92] (fun v92 wc => ∃ (kq : Nat) (x92_31 : Bool), v92 = .bool x92_31 ∧ Aside0 (selvedgeref18_Resolve.j7 kq l0 a2 a3 x9_3 x11_9 x12_3 x13_12 x14_21 x11_9 x92_31 = some r) ∧ Aside0 (kq ≤ kj27) ∧ Aside0 (Kd.R (Kd.int .u8) 23 wc w.heap.size (fun _ => True) (.slice Ao14 x9_3.length co14) x9_3) ∧ Aside0 (Below w.heap.size w wc))
                case first =>
                 have H := HC32.out
                 clear HC32
                 by_cases c33 : x14_21 = x15_27
                 ·rw [if_pos c33] at H
                  have c33b0 : (x14_21 == x15_27) = true := beq_iff_eq.mpr c33
                  have c33b1 : (x14_21 != x15_27) = false := bne_eq_false_iff_eq.mpr c33
                  clear c33
                  (first | rw [c33b0] | (simp only [i64_w, i32_w]; rw [c33b0]) | skip)
                  have H' := Aside0.mk H
                  clear H
                  go_wp2
                  go_meet
                  case rel => exact ⟨_, ((x14_21 != 0)), (by first | rfl | (simp; done) | (simp [*]; done)), H', ⟨by have := HK1.out; have := HJ9.out; have := HK3.out; have := HJ12.out; have := HJ21.out; have := HJ27.out; first | omega | exact Nat.le_refl _⟩, ⟨mvR HO_9⟩, ⟨mvB HB⟩⟩
                 ·rw [if_neg c33] at H
                  have c33b0 : (x14_21 == x15_27) = false := beq_eq_false_iff_ne.mpr c33
                  have c33b1 : (x14_21 != x15_27) = true := bne_iff_ne.mpr c33
                  (first | rw [c33b0] | (simp only [i64_w, i32_w]; rw [c33b0]) | skip)
                  have H' := Aside0.mk H
                  clear H
                  go_wp2
                  go_meet
                  case rel => exact ⟨_, (false), (by first | rfl | (simp; done) | (simp [*]; done)), H', ⟨by have := HK1.out; have := HJ9.out; have := HK3.out; have := HJ12.out; have := HJ21.out; have := HJ27.out; first | omega | exact Nat.le_refl _⟩, ⟨mvR HO_9⟩, ⟨mvB HB⟩⟩
                case rest =>
                 clear HC32
                 try clear c1
                 try clear p1
                 try clear q1
                 try clear hx1
                 try clear c2
                 try clear p2
                 try clear c3
                 try clear c5
                 try clear c5b0
                 try clear c6
                 try clear c6b0
                 try clear p6
                 try clear c7
                 try clear c7b0
                 try clear c7b1
                 try clear c8
                 try clear c11
                 try clear c11b0
                 try clear c11b1
                 try clear p11
                 try clear q11
                 try clear hx11
                 try clear c12
                 try clear c12b0
                 try clear p12
                 try clear q12
                 try clear hx12
                 try clear c13
                 try clear p13
                 try clear q13
                 try clear hx13
                 try clear c15
                 try clear c15b0
                 try clear c16
                 try clear c16b0
                 try clear c18
                 try clear c19
                 try clear c19b0
                 try clear c19b1
                 try clear c23
                 try clear c23b0
                 try clear c24
                 try clear c25
                 try clear c25b0
                 try clear c26
                 try clear c26b0
                 try clear c29
                 try clear c29b0
                 try clear c30
                 try clear c30b0
                 try clear c33
                 try clear c33b0
                 try clear c33b1
                 try clear hx119_0
                 try clear hx120_0
                 try clear hx124_0
                 try clear hx128_0
                 try clear hx130_0
                 try clear p1
                 try clear p11
                 try clear p119
                 try clear p12
                 try clear p120
                 try clear p124
                 try clear p128
                 try clear p13
                 try clear p130
                 try clear p2
                 try clear p6
                 try clear q1
                 try clear q11
                 try clear q119
                 try clear q12
                 try clear q120
                 try clear q124
                 try clear q128
                 try clear q13
                 try clear q130
                 obtain ⟨kq, x92_31, rfl, HA, HJ31, HO_9, HB⟩ := hcut
                 cases kq with
                 | zero => exact absurd HA.out (by simp [selvedgeref18_Resolve.j7])
                 | succ kj31 =>
                  have H := HA.out
                  clear HA
                  simp only [selvedgeref18_Resolve.j7] at H
                  have HC34 := Aside0.mk H
                  clear H
                  go_upto_if 92 with (fail)
                  go_cut [16] (fun v16 wc => ∃ (kq : Nat) (x16_33 : Int), v16 = .int .u8 x16_33 ∧ Aside0 (selvedgeref18_Resolve.j8 kq l0 a2 a3 x9_3 x11_9 x12_3 x13_12 x16_33 = some r) ∧ Aside0 (kq ≤ kj31) ∧ Aside0 (Kd.R (Kd.int .u8) 23 wc w.heap.size (fun _ => True) (.slice Ao14 x9_3.length co14) x9_3) ∧ Aside0 (Below w.heap.size w wc))
                  case first =>
                   have H := HC34.out
                   clear HC34
                   by_cases c35 : x92_31 = true
                   ·subst c35
                    have H1 : (selvedgeref18_Resolve.j8 kj31 l0 a2 a3 x9_3 x11_9 x12_3 x13_12 x14_21) = some r := by rw [if_pos rfl] at H; exact H
                    clear H
                    have H := H1
                    clear H1
                    have H' := Aside0.mk H
                    clear H
                    go_wp2
                    go_meet
                    case rel => exact ⟨_, (x14_21), (by first | rfl | (simp; done) | (simp [*]; done)), H', ⟨by have := HK1.out; have := HJ9.out; have := HK3.out; have := HJ12.out; have := HJ21.out; have := HJ27.out; have := HJ31.out; first | omega | exact Nat.le_refl _⟩, ⟨mvR HO_9⟩, ⟨mvB HB⟩⟩
                   ·replace c35 := Bool.eq_false_iff.mpr c35
                    subst c35
                    have H1 : (selvedgeref18_Resolve.j8 kj31 l0 a2 a3 x9_3 x11_9 x12_3 x13_12 x11_9) = some r := by rw [if_neg (show ¬ (false = true) by decide)] at H; exact H
                    clear H
                    have H := H1
                    clear H1
                    have H' := Aside0.mk H
                    clear H
                    go_wp2
                    go_meet
                    case rel => exact ⟨_, (x11_9), (by first | rfl | (simp; done) | (simp [*]; done)), H', ⟨by have := HK1.out; have := HJ9.out; have := HK3.out; have := HJ12.out; have := HJ21.out; have := HJ27.out; have := HJ31.out; first | omega | exact Nat.le_refl _⟩, ⟨mvR HO_9⟩, ⟨mvB HB⟩⟩
                  case rest =>
                   clear HC34
                   try clear c1
                   try clear p1
                   try clear q1
                   try clear hx1
                   try clear c2
                   try clear p2
                   try clear c3
                   try clear c5
                   try clear c5b0
                   try clear c6
                   try clear c6b0
                   try clear p6
                   try clear c7
                   try clear c7b0
                   try clear c7b1
                   try clear c8
                   try clear c11
                   try clear c11b0
                   try clear c11b1
                   try clear p11
                   try clear q11
                   try clear hx11
                   try clear c12
                   try clear c12b0
                   try clear p12
                   try clear q12
                   try clear hx12
                   try clear c13
                   try clear p13
                   try clear q13
                   try clear hx13
                   try clear c15
                   try clear c15b0
                   try clear c16
                   try clear c16b0
                   try clear c18
                   try clear c19
                   try clear c19b0
                   try clear c19b1
                   try clear c23
                   try clear c23b0
                   try clear c24
                   try clear c25
                   try clear c25b0
                   try clear c26
                   try clear c26b0
                   try clear c29
                   try clear c29b0
                   try clear c30
                   try clear c30b0
                   try clear c33
                   try clear c33b0
                   try clear c33b1
                   try clear c35
                   try clear hx119_0
                   try clear hx120_0
                   try clear hx124_0
                   try clear hx128_0
                   try clear hx130_0
                   try clear p1
                   try clear p11
                   try clear p119
                   try clear p12
                   try clear p120
                   try clear p124
                   try clear p128
                   try clear p13
                   try clear p130
                   try clear p2
                   try clear p6
                   try clear q1
                   try clear q11
                   try clear q119
                   try clear q12
                   try clear q120
                   try clear q124
                   try clear q128
                   try clear q13
                   try clear q130
                   obtain ⟨kq, x16_33, rfl, HA, HJ33, HO_9, HB⟩ := hcut
                   cases kq with
                   | zero => exact absurd HA.out (by simp [selvedgeref18_Resolve.j8])
                   | succ kj33 =>
                    have H := HA.out
                    clear HA
                    simp only [selvedgeref18_Resolve.j8] at H
                    have H' := Aside0.mk H
                    clear H
                    go_wp2
                    go_loopg [12] kj33 (fun kq v12 w' => ∃ (x9_9 : List Int) (x12_9 : Int), v12 = .int .i64 x12_9 ∧ Aside0 (selvedgeref18_Resolve.l3 kq l0 a2 a3 x9_9 x11_9 x12_9 x13_12 x16_33 = some r) ∧ Aside0 (kq ≤ kj33) ∧ Aside0 (Kd.R (Kd.int .u8) 23 w' w.heap.size (fun _ => True) (.slice Ao14 x9_3.length co14) x9_9) ∧ Aside0 (Below w.heap.size w w'))
                    case atStart => exact ⟨(x9_3), (x12_3), (by first | rfl | (simp; done) | (simp [*]; done)), H', ⟨Nat.le_refl _⟩, ⟨mvR HO_9⟩, ⟨mvB HB⟩⟩
                    case round =>
                     clear H'
                     try clear c1
                     try clear p1
                     try clear q1
                     try clear hx1
                     try clear c2
                     try clear p2
                     try clear c3
                     try clear c5
                     try clear c5b0
                     try clear c6
                     try clear c6b0
                     try clear p6
                     try clear c7
                     try clear c7b0
                     try clear c7b1
                     try clear c8
                     try clear c11
                     try clear c11b0
                     try clear c11b1
                     try clear p11
                     try clear q11
                     try clear hx11
                     try clear c12
                     try clear c12b0
                     try clear p12
                     try clear q12
                     try clear hx12
                     try clear c13
                     try clear p13
                     try clear q13
                     try clear hx13
                     try clear c15
                     try clear c15b0
                     try clear c16
                     try clear c16b0
                     try clear c18
                     try clear c19
                     try clear c19b0
                     try clear c19b1
                     try clear c23
                     try clear c23b0
                     try clear c24
                     try clear c25
                     try clear c25b0
                     try clear c26
                     try clear c26b0
                     try clear c29
                     try clear c29b0
                     try clear c30
                     try clear c30b0
                     try clear c33
                     try clear c33b0
                     try clear c33b1
                     try clear c35
                     try clear hx119_0
                     try clear hx120_0
                     try clear hx124_0
                     try clear hx128_0
                     try clear hx130_0
                     try clear p1
                     try clear p11
                     try clear p119
                     try clear p12
                     try clear p120
                     try clear p124
                     try clear p128
                     try clear p13
                     try clear p130
                     try clear p2
                     try clear p6
                     try clear q1
                     try clear q11
                     try clear q119
                     try clear q12
                     try clear q120
                     try clear q124
                     try clear q128
                     try clear q13
                     try clear q130
                     obtain ⟨x9_9, x12_9, rfl, HA, HK9, HO_9, HB⟩ := hrel
                     have hl9_9 := (Kd.R_reads' HO_9.out).1
                     rw [hl9_9] at HO_9
                     (try simp only [hl9_9])
                     cases gk with
                     | zero => exact absurd HA.out (by simp [selvedgeref18_Resolve.l3])
                     | succ k9 =>
                      have H := HA.out
                      clear HA
                      simp only [selvedgeref18_Resolve.l3] at H
                      by_cases c36 : x12_9 < x13_12
                      ·rw [if_pos c36] at H
                       have c36b0 : decide (x12_9 < x13_12) = true := decide_eq_true c36
                       clear c36
                       by_cases c37 : 0 ≤ x12_9
                       ·rw [if_pos c37] at H
                        have c37b0 : decide (0 ≤ x12_9) = true := decide_eq_true c37
                        clear c37
                        by_cases c38 : x12_9 < (x9_9.length : Int)
                        ·rw [if_pos c38] at H
                         have c38b0 : decide (x12_9 < (x9_9.length : Int)) = true := decide_eq_true c38
                         clear c38
                         obtain ⟨y132, hy132⟩ : ∃ y_ : List Int, y_ = (x9_9.set (x12_9 : Int).toNat x16_33) := ⟨_, rfl⟩
                         replace H : (selvedgeref18_Resolve.l3 k9 l0 a2 a3 y132 x11_9 (wrap64 (x12_9 + 1)) x13_12 x16_33) = some r := by first | (rw [hy132]; with_reducible exact H) | (have H2_ := (Option.bind_some _ _).symm.trans H; rw [hy132]; with_reducible exact H2_) | (have H2_ := (Option.bind_some _ _).symm.trans H; with_reducible exact H2_) | with_reducible exact H | (rw [hy132]; exact H) | exact H
                         have Ny132 := Aside0.mk hy132
                         clear hy132
                         have H' := Aside0.mk H
                         clear H
                         have p39 := dT (0 ≤ (x12_9 : Int))
                         have q39 : (x12_9 : Int) < ((x9_9.length : Int) : Int) := of_decide_eq_true (by first | (with_reducible assumption) | assumption)
                         obtain ⟨go39, co39, eo39, gb39, gl39, cl39, HG39⟩ := Kd.R_form HO_9.out (by omega)
                         (first | cases eo39 | (injection eo39 with ea_ en_ ec_; (first | subst ea_ | (injection ea_ with ea_; subst ea_)); subst ec_; clear en_))
                         have GB39 := Aside0.mk gb39
                         have GG39 := Aside0.mk HG39
                         clear gb39 gl39 HG39
                         obtain ⟨hx39_0, hf39_0⟩ := Kd.R_celln 0 HO_9.out (x12_9 : Int) p39 q39
                         replace p39 := eq_true p39
                         replace q39 := eq_true q39
                         have HP40 := Kd.R_putg HO_9.out (x12_9 : Int) x16_33
                         go_wp2_with (first | ((with_reducible refine gate_store (t := 23) (p := 102) rfl ?_); refine store_event (t := 23) (p := 102) (v := ?vo_w41) (w1 := (wr.setCell ⟨go39, (x12_9 : Int).toNat, none⟩ (.int .u8 x16_33))) ?hg ?ho ?hn ?hr ?_; (case ho => rfl); (case hg => rfl); (case hn => rfl); (case hr => first | (go_simp; done) | (go_simp; rfl)); intro w41 hw; have hg : wr.grownBy w41 (some go39) := (by rw [hw]; exact HP40.2); have hp_ : Kd.R (Kd.int .u8) 23 w41 w.heap.size (fun _ => True) (.slice (some ⟨go39, 0, none⟩) x9_9.length co14) y132 := (by rw [hw, Ny132.out]; exact HP40.1); clear HP40; have n0_ := Aside0.mk (hp_); have n1_ := Aside0.mk ((by rw [hw]; exact below_set (HB.out) GB39.out : Below w.heap.size w w41)); clear HO_9; clear HB; have HO_9 := n0_; have HB := n1_; clear n0_ n1_; clear hg hw hp_))
                         (try simp only [← hl9_9])
                         go_roundg k9
                         case measure => have := HK1.out; have := HJ9.out; have := HK3.out; have := HJ12.out; have := HJ21.out; have := HJ27.out; have := HJ31.out; have := HJ33.out; have := HK9.out; omega
                         case rel => exact ⟨(y132), (wrap64 (x12_9 + 1)), (by first | rfl | (simp; done) | (simp [*]; done)), H', ⟨by have := HK1.out; have := HJ9.out; have := HK3.out; have := HJ12.out; have := HJ21.out; have := HJ27.out; have := HJ31.out; have := HJ33.out; have := HK9.out; omega⟩, ⟨by (try simp only [hl9_9]); (with_reducible repeat (first | apply Kd.R_alloc | apply Kd.R_drewN | apply Kd.R_drew)); exact HO_9.out⟩, ⟨mvB HB⟩⟩
                        ·rw [if_neg c38] at H
                         exact absurd H (by simp)
                       ·rw [if_neg c37] at H
                        exact absurd H (by simp)
                      ·rw [if_neg c36] at H
                       have c36b0 : decide (x12_9 < x13_12) = false := decide_eq_false c36
                       clear c36
                       have H' := Aside0.mk H
                       clear H
                       go_wp2
                       (try simp only [← hl9_9])
                       go_roundg k9
                       case measure => have := HK1.out; have := HJ9.out; have := HK3.out; have := HJ12.out; have := HJ21.out; have := HJ27.out; have := HJ31.out; have := HJ33.out; have := HK9.out; omega
                       case rel => exact ⟨(x9_9), (x12_9), (by first | rfl | (simp; done) | (simp [*]; done)), H', ⟨by have := HK1.out; have := HJ9.out; have := HK3.out; have := HJ12.out; have := HJ21.out; have := HJ27.out; have := HJ31.out; have := HJ33.out; have := HK9.out; omega⟩, ⟨by (try simp only [hl9_9]); (with_reducible repeat (first | apply Kd.R_alloc | apply Kd.R_drewN | apply Kd.R_drew)); exact HO_9.out⟩, ⟨mvB HB⟩⟩
        ·rw [if_neg c12] at H
         have c12b0 : decide (x12_3 < (x9_3.length : Int)) = false := decide_eq_false c12
         clear c12
         have H' := Aside0.mk H
         clear H
         obtain ⟨Ao42, co42, eo42⟩ := Kd.R_slice HO_9.out
         subst eo42
         go_wp2
         go_loopg [17, 18, 19] k3 (fun kq v17 v18 v19 w' => ∃ (x17_4 : List Int) (x18_4 : Int) (x19_4 : Int), v18 = .int .i64 x18_4 ∧ v19 = .int .i64 x19_4 ∧ Aside0 (selvedgeref18_Resolve.l4 kq l0 x9_3 x17_4 x18_4 x19_4 = some r) ∧ Aside0 (kq ≤ k3) ∧ Aside0 (Kd.R (Kd.int .u8) 23 w' w.heap.size (fun k_ => some k_ ≠ (v17 : Value).ownBlock) (.slice Ao42 x9_3.length co42) x9_3) ∧ Aside0 (Kd.R (Kd.int .u8) 23 w' w.heap.size (fun k_ => some k_ ≠ ((.slice Ao42 x9_3.length co42) : Value).ownBlock) v17 x17_4) ∧ Aside0 (Below w.heap.size w w'))
         case atStart => exact ⟨(([] : List Int)), (0), (0), (by first | rfl | (simp; done) | (simp [*]; done)), (by first | rfl | (simp; done) | (simp [*]; done)), H', ⟨Nat.le_refl _⟩, ⟨by (with_reducible repeat (first | apply Kd.R_alloc | apply Kd.R_drewN | apply Kd.R_drew)); exact Kd.R_mono HO_9.out (fun _ hk => (by simp [Value.ownBlock]))⟩, ⟨by first | exact Kd.R_nil _ _ _ _ _ | exact Kd.N_nil _ _ _ _ _ | exact Kd.V_nil _ _ _ _ _ | exact Kd.Q_nil _ _ _ _ _ | exact Kd.S_nil _ _ _ _ _⟩, ⟨mvB HB⟩⟩
         case round =>
          clear H'
          try clear c1
          try clear p1
          try clear q1
          try clear hx1
          try clear c2
          try clear p2
          try clear c3
          try clear p3
          try clear q3
          try clear hx3
          try clear c5
          try clear c5b0
          try clear c6
          try clear c6b0
          try clear p6
          try clear c7
          try clear c7b0
          try clear c7b1
          try clear c8
          try clear c11
          try clear c11b0
          try clear c11b1
          try clear p11
          try clear q11
          try clear hx11
          try clear c12
          try clear c12b0
          try clear p12
          try clear q12
          try clear hx12
          try clear c13
          try clear p13
          try clear q13
          try clear hx13
          try clear c15
          try clear c15b0
          try clear c16
          try clear c16b0
          try clear c18
          try clear c19
          try clear c19b0
          try clear c19b1
          try clear c23
          try clear c23b0
          try clear c24
          try clear c25
          try clear c25b0
          try clear c26
          try clear c26b0
          try clear c29
          try clear c29b0
          try clear c30
          try clear c30b0
          try clear c33
          try clear c33b0
          try clear c33b1
          try clear c35
          try clear c36
          try clear c36b0
          try clear c37
          try clear c37b0
          try clear c38
          try clear c38b0
          try clear p39
          try clear q39
          try clear hx39
          try clear hf39
          try clear hx119_0
          try clear hx120_0
          try clear hx124_0
          try clear hx128_0
          try clear hx130_0
          try clear hx39_0
          try clear p1
          try clear p11
          try clear p119
          try clear p12
          try clear p120
          try clear p124
          try clear p128
          try clear p13
          try clear p130
          try clear p2
          try clear p39
          try clear p6
          try clear q1
          try clear q11
          try clear q119
          try clear q12
          try clear q120
          try clear q124
          try clear q128
          try clear q13
          try clear q130
          try clear q39
          obtain ⟨x17_4, x18_4, x19_4, rfl, rfl, HA, HK4, HO_9, HO_17, HB⟩ := hrel
          cases gk with
          | zero => exact absurd HA.out (by simp [selvedgeref18_Resolve.l4])
          | succ k4 =>
           have H := HA.out
           clear HA
           simp only [selvedgeref18_Resolve.l4] at H
           by_cases c43 : x19_4 < (l0.length : Int)
           ·rw [if_pos c43] at H
            have c43b0 : decide (x19_4 < (l0.length : Int)) = true := decide_eq_true c43
            clear c43
            by_cases c44 : 0 ≤ x19_4
            ·rw [if_pos c44] at H
             have c44b0 : decide (0 ≤ x19_4) = true := decide_eq_true c44
             clear c44
             by_cases c45 : (rd l0 x19_4) = 10
             ·rw [if_pos c45] at H
              have c45b0 : ((rd l0 x19_4) == 10) = true := beq_iff_eq.mpr c45
              have c45b1 : ((rd l0 x19_4) != 10) = false := bne_eq_false_iff_eq.mpr c45
              clear c45
              by_cases c46 : x17_4.length < 140737488355328
              ·rw [if_pos c46] at H
               have LMc46 := Aside0.mk c46
               clear c46
               obtain ⟨y134, hy134⟩ : ∃ y_ : List Int, y_ = (x17_4 ++ [10]) := ⟨_, rfl⟩
               replace H : (selvedgeref18_Resolve.l4 k4 l0 x9_3 y134 x18_4 (wrap64 (x19_4 + 1))) = some r := by first | (rw [hy134]; with_reducible exact H) | (have H2_ := (Option.bind_some _ _).symm.trans H; rw [hy134]; with_reducible exact H2_) | (have H2_ := (Option.bind_some _ _).symm.trans H; with_reducible exact H2_) | with_reducible exact H | (rw [hy134]; exact H) | exact H
               have Ny134 := Aside0.mk hy134
               clear hy134
               have H' := Aside0.mk H
               clear H
               obtain ⟨ad133, e133, hx133_0, p133, q133⟩ := atI HR0.out x19_4
               cases e133
               replace hx133_0 := (HB.out.cell (World.block_lt_of_cell? w _ hx133_0)).trans hx133_0
               go_wp2_with (first | ((with_reducible refine gate_builtin (b := .append) (xs := #[.tmp 114, .tmp 115]) rfl ?_); at_builtin; refine Kd.R_append (Kd.int .u8) (w0 := w) w.heap.size rfl (.tmp 114) (.tmp 115) 22 23 (.int .u8 0) 1 rfl Try.underlying22 info23 rfl (by decide) (by omega) u17 x17_4 10 [.int .u8 10] (fun k_ => some k_ ≠ (.slice Ao42 x9_3.length co42 : Value).ownBlock) (fun _ => False) rfl rfl ?aP (fun _ hk => hk.elim) ?aF ?aO ?aB ?aS ?aL ?_; (case aP => exact rfl); (case aB => exact (mvB HB)); (case aF => exact (fun k_ hk => Kd.fresh' (Kd.R_lt (mvR HO_9)) k_ hk)); (case aO => exact (mvR HO_17)); (case aS => exact (below_size (mvB HB))); (case aL => have := LMc46.out; omega); intro v135 w47 ho hb hg hat; rw [← Ny134.out] at ho; have n0_ := Aside0.mk (Kd.R_after (ok := (fun _ => True)) (by (with_reducible repeat (first | apply Kd.R_alloc | apply Kd.R_drewN | apply Kd.R_drew)); exact Kd.R_mono HO_9.out (fun _ hk => ⟨trivial, hk⟩)) hg hat); have n1_ := Aside0.mk (hb); have n2_ := Aside0.mk (ho); clear HO_9; clear HB; clear HO_17; have HO_9 := n0_; have HB := n1_; have HO136 := n2_; clear n0_ n1_ n2_; clear ho hb hg hat))
               go_roundg k4
               case measure => have := HK1.out; have := HJ9.out; have := HK3.out; have := HK4.out; omega
               case rel => exact ⟨(y134), (x18_4), (wrap64 (x19_4 + 1)), (by first | rfl | (simp; done) | (simp [*]; done)), (by first | rfl | (simp; done) | (simp [*]; done)), H', ⟨by have := HK1.out; have := HJ9.out; have := HK3.out; have := HK4.out; omega⟩, ⟨by (with_reducible repeat (first | apply Kd.R_alloc | apply Kd.R_drewN | apply Kd.R_drew)); exact Kd.R_mono HO_9.out (fun _ hk => hk.2)⟩, ⟨mvR HO136⟩, ⟨mvB HB⟩⟩
              ·rw [if_neg c46] at H
               exact absurd H (by simp)
             ·rw [if_neg c45] at H
              have c45b0 : ((rd l0 x19_4) == 10) = false := beq_eq_false_iff_ne.mpr c45
              have c45b1 : ((rd l0 x19_4) != 10) = true := bne_iff_ne.mpr c45
              by_cases c48 : 0 ≤ x18_4
              ·rw [if_pos c48] at H
               have c48b0 : decide (0 ≤ x18_4) = true := decide_eq_true c48
               clear c48
               by_cases c49 : x18_4 < (x9_3.length : Int)
               ·rw [if_pos c49] at H
                have c49b0 : decide (x18_4 < (x9_3.length : Int)) = true := decide_eq_true c49
                clear c49
                by_cases c50 : x17_4.length < 140737488355328
                ·rw [if_pos c50] at H
                 have LMc50 := Aside0.mk c50
                 clear c50
                 obtain ⟨y138, hy138⟩ : ∃ y_ : List Int, y_ = (x17_4 ++ [rd x9_3 x18_4]) := ⟨_, rfl⟩
                 replace H : (selvedgeref18_Resolve.l4 k4 l0 x9_3 y138 (wrap64 (x18_4 + 1)) (wrap64 (x19_4 + 1))) = some r := by first | (rw [hy138]; with_reducible exact H) | (have H2_ := (Option.bind_some _ _).symm.trans H; rw [hy138]; with_reducible exact H2_) | (have H2_ := (Option.bind_some _ _).symm.trans H; with_reducible exact H2_) | with_reducible exact H | (rw [hy138]; exact H) | exact H
                 have Ny138 := Aside0.mk hy138
                 clear hy138
                 have H' := Aside0.mk H
                 clear H
                 obtain ⟨ad133, e133, hx133_0, p133, q133⟩ := atI HR0.out x19_4
                 cases e133
                 replace hx133_0 := (HB.out.cell (World.block_lt_of_cell? w _ hx133_0)).trans hx133_0
                 obtain ⟨ad137, e137, hx137_0, p137, q137⟩ := atI (Kd.R_reads' HO_9.out).2.2 x18_4
                 cases e137
                 go_wp2_with (first | ((with_reducible refine gate_builtin (b := .append) (xs := #[.tmp 117, .tmp 122]) rfl ?_); at_builtin; refine Kd.R_append (Kd.int .u8) (w0 := w) w.heap.size rfl (.tmp 117) (.tmp 122) 22 23 (.int .u8 0) 1 rfl Try.underlying22 info23 rfl (by decide) (by omega) u17 x17_4 (rd x9_3 x18_4) [.int .u8 (rd x9_3 x18_4)] (fun k_ => some k_ ≠ (.slice (some ad137) x9_3.length co42 : Value).ownBlock) (fun _ => False) rfl rfl ?aP (fun _ hk => hk.elim) ?aF ?aO ?aB ?aS ?aL ?_; (case aP => exact rfl); (case aB => exact (mvB HB)); (case aF => exact (fun k_ hk => Kd.fresh' (Kd.R_lt (mvR HO_9)) k_ hk)); (case aO => exact (mvR HO_17)); (case aS => exact (below_size (mvB HB))); (case aL => have := LMc50.out; omega); intro v139 w51 ho hb hg hat; rw [← Ny138.out] at ho; have n0_ := Aside0.mk (Kd.R_after (ok := (fun _ => True)) (by (with_reducible repeat (first | apply Kd.R_alloc | apply Kd.R_drewN | apply Kd.R_drew)); exact Kd.R_mono HO_9.out (fun _ hk => ⟨trivial, hk⟩)) hg hat); have n1_ := Aside0.mk (hb); have n2_ := Aside0.mk (ho); clear HO_9; clear HB; clear HO_17; have HO_9 := n0_; have HB := n1_; have HO140 := n2_; clear n0_ n1_ n2_; clear ho hb hg hat))
                 go_roundg k4
                 case measure => have := HK1.out; have := HJ9.out; have := HK3.out; have := HK4.out; omega
                 case rel => exact ⟨(y138), (wrap64 (x18_4 + 1)), (wrap64 (x19_4 + 1)), (by first | rfl | (simp; done) | (simp [*]; done)), (by first | rfl | (simp; done) | (simp [*]; done)), H', ⟨by have := HK1.out; have := HJ9.out; have := HK3.out; have := HK4.out; omega⟩, ⟨by (with_reducible repeat (first | apply Kd.R_alloc | apply Kd.R_drewN | apply Kd.R_drew)); exact Kd.R_mono HO_9.out (fun _ hk => hk.2)⟩, ⟨mvR HO140⟩, ⟨mvB HB⟩⟩
                ·rw [if_neg c50] at H
                 exact absurd H (by simp)
               ·rw [if_neg c49] at H
                exact absurd H (by simp)
              ·rw [if_neg c48] at H
               exact absurd H (by simp)
            ·rw [if_neg c44] at H
             exact absurd H (by simp)
           ·rw [if_neg c43] at H
            have c43b0 : decide (x19_4 < (l0.length : Int)) = false := decide_eq_false c43
            clear c43
            obtain rfl := Option.some.inj H
            go_wp2
            go_ret
            exact ⟨_, by first | rfl | (simp [errW_none, errW_some] <;> rfl) | (simp [*, errW_none, errW_some] <;> rfl), by (with_reducible repeat (first | apply Kd.R_alloc | apply Kd.R_drewN | apply Kd.R_drew)); exact Kd.R_mono HO_17.out (fun _ hk => trivial), mvB HB⟩

end Go.Proofs.Ytknfniggnobaaaa.X
