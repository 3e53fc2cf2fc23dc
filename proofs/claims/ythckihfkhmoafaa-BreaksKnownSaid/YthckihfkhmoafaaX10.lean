-- by xprint.py: the kit's printer over texts of this session
import Derived.Test.YthckihfkhmoafaaX0
import Derived.Test.YthckihfkhmoafaaX2
import Derived.Test.YthckihfkhmoafaaT10
import Derived.Test.YthckihfkhmoafaaT8
namespace Go.Proofs.Ythckihfkhmoafaa.X
open Go.RowKit Go.Proofs.YthckihfkhmoafaaW.PrintWords Go.Proofs.YthckihfkhmoafaaW.PrintLast Go.Proofs.YthckihfkhmoafaaW.PrintMore
attribute [local go_sem] max2_int min2_int max_two min_two max_three min_three max_four min_four   -- for this text's walks alone
set_option linter.unusedVariables false
set_option linter.unusedSimpArgs false

/-! ### selvedgelaw21_BreaksFit: function 8 -/
mutual
def selvedgelaw21_BreaksFit.j0 : Nat → List (S36) → Int → Int → Bool → Option (Bool)
 | 0, _, _, _, _ => none
 | k + 1, x0, x1, x2, x28 => if x28 = true then ((selvedgelaw21_works.f k).bind fun t277 => (some t277)) else ((breaks_Lines.f x0 x1).bind fun bt278 => ((breaks_Places.f x0).bind fun bt282 => (if bt278.2 = 0 then (selvedgelaw21_BreaksFit.j1 k x0 x1 x2 bt278.1 bt282.1 (bt282.2 != 0)) else (selvedgelaw21_BreaksFit.j1 k x0 x1 x2 bt278.1 bt282.1 true))))
def selvedgelaw21_BreaksFit.j1 : Nat → List (S36) → Int → Int → List Int → List Int → Bool → Option (Bool)
 | 0, _, _, _, _, _, _ => none
 | k + 1, x0, x1, x2, x7, x9, x46 => if x46 = true then (if (x7.length : Int) = 0 then ((selvedgelaw21_works.f k).bind fun t286 => (some t286)) else (some false)) else (if (x7.length : Int) = 0 then (selvedgelaw21_BreaksFit.j2 k x0 x1 x2 x7 x9 true) else (if 0 < (x7.length : Int) then (selvedgelaw21_BreaksFit.j2 k x0 x1 x2 x7 x9 ((rd x7 0) != 0)) else (none)))
def selvedgelaw21_BreaksFit.j2 : Nat → List (S36) → Int → Int → List Int → List Int → Bool → Option (Bool)
 | 0, _, _, _, _, _, _ => none
 | k + 1, x0, x1, x2, x7, x9, x61 => if x61 = true then (some false) else (selvedgelaw21_BreaksFit.l0 k x0 x1 x2 x7 x9 0)
def selvedgelaw21_BreaksFit.l0 : Nat → List (S36) → Int → Int → List Int → List Int → Int → Option (Bool)
 | 0, _, _, _, _, _, _ => none
 | k + 1, x0, x1, x2, x7, x9, x11 => if x11 < (x7.length : Int) then (if (wrap64 (x11 + 1)) < (x7.length : Int) then (if 0 ≤ (wrap64 (x11 + 1)) then (selvedgelaw21_BreaksFit.j4 k x0 x1 x2 x7 x9 x11 (rd x7 (wrap64 (x11 + 1)))) else (none)) else (selvedgelaw21_BreaksFit.j4 k x0 x1 x2 x7 x9 x11 (x0.length : Int))) else (if x1 > (wrap64 (16777216 - x2)) then ((selvedgelaw21_works.f k).bind fun t309 => (some t309)) else ((breaks_Lines.f x0 (wrap64 (x1 + x2))).bind fun bt310 => (if bt310.2 = 0 then (if (bt310.1.length : Int) ≤ (x7.length : Int) then ((selvedgelaw21_works.f k).bind fun t314 => (some t314)) else (some false)) else (some false))))
def selvedgelaw21_BreaksFit.j4 : Nat → List (S36) → Int → Int → List Int → List Int → Int → Int → Option (Bool)
 | 0, _, _, _, _, _, _, _ => none
 | k + 1, x0, x1, x2, x7, x9, x11, x12 => if 0 ≤ x11 then (if x11 < (x7.length : Int) then ((breaks_Measure.f k x0 (rd x7 x11) x12).bind fun bt290 => (selvedgelaw21_BreaksFit.l1 k x0 x1 x2 x7 x9 x11 x12 bt290.1 bt290.2 false (x0.length : Int) (wrap64 ((x9.length : Int) - 1)))) else (none)) else (none)
def selvedgelaw21_BreaksFit.l1 : Nat → List (S36) → Int → Int → List Int → List Int → Int → Int → Int → Int → Bool → Int → Int → Option (Bool)
 | 0, _, _, _, _, _, _, _, _, _, _, _, _ => none
 | k + 1, x0, x1, x2, x7, x9, x11, x12, x13, x14, x15, x16, x17 => if x17 ≥ 0 then (if x15 = true then (if 0 ≤ x17 then (if x17 < (x9.length : Int) then (if (rd x9 x17) > x12 then (selvedgelaw21_BreaksFit.l1 k x0 x1 x2 x7 x9 x11 x12 x13 x14 true (rd x9 x17) (wrap64 (x17 - 1))) else (selvedgelaw21_BreaksFit.l1 k x0 x1 x2 x7 x9 x11 x12 x13 x14 true x16 (wrap64 (x17 - 1)))) else (none)) else (none)) else (if 0 ≤ x17 then (if x17 < (x9.length : Int) then (if 0 ≤ x11 then (if x11 < (x7.length : Int) then (if (rd x9 x17) > (rd x7 x11) then (if (rd x9 x17) > x12 then (selvedgelaw21_BreaksFit.l1 k x0 x1 x2 x7 x9 x11 x12 x13 x14 (decide ((rd x9 x17) < x12)) (rd x9 x17) (wrap64 (x17 - 1))) else (selvedgelaw21_BreaksFit.l1 k x0 x1 x2 x7 x9 x11 x12 x13 x14 (decide ((rd x9 x17) < x12)) x16 (wrap64 (x17 - 1)))) else (if (rd x9 x17) > x12 then (selvedgelaw21_BreaksFit.l1 k x0 x1 x2 x7 x9 x11 x12 x13 x14 false (rd x9 x17) (wrap64 (x17 - 1))) else (selvedgelaw21_BreaksFit.l1 k x0 x1 x2 x7 x9 x11 x12 x13 x14 false x16 (wrap64 (x17 - 1))))) else (none)) else (none)) else (none)) else (none))) else (if x14 = 0 then (if x13 > x1 then (if x15 = true then (selvedgelaw21_BreaksFit.j6 k x0 x1 x2 x7 x9 x11 x12 x16 true) else (if x11 > 0 then (if 0 ≤ x11 then (if x11 < (x7.length : Int) then (if 0 ≤ (wrap64 (x11 - 1)) then (if (wrap64 (x11 - 1)) < (x7.length : Int) then (selvedgelaw21_BreaksFit.j6 k x0 x1 x2 x7 x9 x11 x12 x16 (decide ((rd x7 x11) ≤ (rd x7 (wrap64 (x11 - 1)))))) else (none)) else (none)) else (none)) else (none)) else (selvedgelaw21_BreaksFit.j6 k x0 x1 x2 x7 x9 x11 x12 x16 false))) else (if x11 > 0 then (if 0 ≤ x11 then (if x11 < (x7.length : Int) then (if 0 ≤ (wrap64 (x11 - 1)) then (if (wrap64 (x11 - 1)) < (x7.length : Int) then (selvedgelaw21_BreaksFit.j6 k x0 x1 x2 x7 x9 x11 x12 x16 (decide ((rd x7 x11) ≤ (rd x7 (wrap64 (x11 - 1)))))) else (none)) else (none)) else (none)) else (none)) else (selvedgelaw21_BreaksFit.j6 k x0 x1 x2 x7 x9 x11 x12 x16 false))) else (selvedgelaw21_BreaksFit.j6 k x0 x1 x2 x7 x9 x11 x12 x16 true))
def selvedgelaw21_BreaksFit.j6 : Nat → List (S36) → Int → Int → List Int → List Int → Int → Int → Int → Bool → Option (Bool)
 | 0, _, _, _, _, _, _, _, _, _ => none
 | k + 1, x0, x1, x2, x7, x9, x11, x12, x16, x154 => if x154 = true then (some false) else (if x12 < (x0.length : Int) then (if 0 ≤ (wrap64 (x12 - 1)) then (if (wrap64 (x12 - 1)) < (x0.length : Int) then (selvedgelaw21_BreaksFit.j7 k x0 x1 x2 x7 x9 x11 x16 (((rd_T36 x0 (wrap64 (x12 - 1))).f0) != 8232)) else (none)) else (none)) else (selvedgelaw21_BreaksFit.j7 k x0 x1 x2 x7 x9 x11 x16 false))
def selvedgelaw21_BreaksFit.j7 : Nat → List (S36) → Int → Int → List Int → List Int → Int → Int → Bool → Option (Bool)
 | 0, _, _, _, _, _, _, _, _ => none
 | k + 1, x0, x1, x2, x7, x9, x11, x16, x167 => if x167 = true then (if 0 ≤ x11 then (if x11 < (x7.length : Int) then ((breaks_Measure.f k x0 (rd x7 x11) x16).bind fun bt307 => (if bt307.2 = 0 then (if bt307.1 ≤ x1 then (some false) else (selvedgelaw21_BreaksFit.l0 k x0 x1 x2 x7 x9 (wrap64 (x11 + 1)))) else (some false))) else (none)) else (none)) else (selvedgelaw21_BreaksFit.l0 k x0 x1 x2 x7 x9 (wrap64 (x11 + 1)))
end
def selvedgelaw21_BreaksFit.f (k : Nat) (l0 : List (S36)) (a1 : Int) (a2 : Int) : Option (Bool) := if (l0.length : Int) > 200 then (selvedgelaw21_BreaksFit.j0 k l0 a1 a2 true) else (selvedgelaw21_BreaksFit.j0 k l0 a1 a2 (decide (a2 < 0)))
theorem selvedgelaw21_BreaksFit.mono_l : ∀ k, (∀ y0 y1 y2 y3, LeO (selvedgelaw21_BreaksFit.j0 k y0 y1 y2 y3) (selvedgelaw21_BreaksFit.j0 (k + 1) y0 y1 y2 y3)) ∧ (∀ y0 y1 y2 y3 y4 y5, LeO (selvedgelaw21_BreaksFit.j1 k y0 y1 y2 y3 y4 y5) (selvedgelaw21_BreaksFit.j1 (k + 1) y0 y1 y2 y3 y4 y5)) ∧ (∀ y0 y1 y2 y3 y4 y5, LeO (selvedgelaw21_BreaksFit.j2 k y0 y1 y2 y3 y4 y5) (selvedgelaw21_BreaksFit.j2 (k + 1) y0 y1 y2 y3 y4 y5)) ∧ (∀ y0 y1 y2 y3 y4 y5, LeO (selvedgelaw21_BreaksFit.l0 k y0 y1 y2 y3 y4 y5) (selvedgelaw21_BreaksFit.l0 (k + 1) y0 y1 y2 y3 y4 y5)) ∧ (∀ y0 y1 y2 y3 y4 y5 y6, LeO (selvedgelaw21_BreaksFit.j4 k y0 y1 y2 y3 y4 y5 y6) (selvedgelaw21_BreaksFit.j4 (k + 1) y0 y1 y2 y3 y4 y5 y6)) ∧ (∀ y0 y1 y2 y3 y4 y5 y6 y7 y8 y9 y10 y11, LeO (selvedgelaw21_BreaksFit.l1 k y0 y1 y2 y3 y4 y5 y6 y7 y8 y9 y10 y11) (selvedgelaw21_BreaksFit.l1 (k + 1) y0 y1 y2 y3 y4 y5 y6 y7 y8 y9 y10 y11)) ∧ (∀ y0 y1 y2 y3 y4 y5 y6 y7 y8, LeO (selvedgelaw21_BreaksFit.j6 k y0 y1 y2 y3 y4 y5 y6 y7 y8) (selvedgelaw21_BreaksFit.j6 (k + 1) y0 y1 y2 y3 y4 y5 y6 y7 y8)) ∧ (∀ y0 y1 y2 y3 y4 y5 y6 y7, LeO (selvedgelaw21_BreaksFit.j7 k y0 y1 y2 y3 y4 y5 y6 y7) (selvedgelaw21_BreaksFit.j7 (k + 1) y0 y1 y2 y3 y4 y5 y6 y7))
 | 0 => ⟨fun _ _ _ _ r h => by simp [selvedgelaw21_BreaksFit.j0] at h, fun _ _ _ _ _ _ r h => by simp [selvedgelaw21_BreaksFit.j1] at h, fun _ _ _ _ _ _ r h => by simp [selvedgelaw21_BreaksFit.j2] at h, fun _ _ _ _ _ _ r h => by simp [selvedgelaw21_BreaksFit.l0] at h, fun _ _ _ _ _ _ _ r h => by simp [selvedgelaw21_BreaksFit.j4] at h, fun _ _ _ _ _ _ _ _ _ _ _ _ r h => by simp [selvedgelaw21_BreaksFit.l1] at h, fun _ _ _ _ _ _ _ _ _ r h => by simp [selvedgelaw21_BreaksFit.j6] at h, fun _ _ _ _ _ _ _ _ r h => by simp [selvedgelaw21_BreaksFit.j7] at h⟩
 | k + 1 => by
  obtain ⟨ih0, ih1, ih2, ih3, ih4, ih5, ih6, ih7⟩ := selvedgelaw21_BreaksFit.mono_l k
  refine ⟨?_, ?_, ?_, ?_, ?_, ?_, ?_, ?_⟩
  ·intro y0 y1 y2 y3
   unfold selvedgelaw21_BreaksFit.j0
   repeat' first
   | (with_reducible exact ih0 _ _ _ _)
   | (with_reducible exact ih1 _ _ _ _ _ _)
   | (with_reducible exact ih2 _ _ _ _ _ _)
   | (with_reducible exact ih3 _ _ _ _ _ _)
   | (with_reducible exact ih4 _ _ _ _ _ _ _)
   | (with_reducible exact ih5 _ _ _ _ _ _ _ _ _ _ _ _)
   | (with_reducible exact ih6 _ _ _ _ _ _ _ _ _)
   | (with_reducible exact ih7 _ _ _ _ _ _ _ _)
   | (with_reducible exact breaks_Measure.mono _ _ _ _)
   | (with_reducible exact selvedgelaw21_works.mono _)
   | (with_reducible exact LeO.refl _)
   | (with_reducible exact LeO.none _)
   | (with_reducible refine LeO.ite ?_ ?_)
   | (with_reducible refine LeO.bind ?_ (fun _ => ?_))
   | exact ih0 _ _ _ _
   | exact ih1 _ _ _ _ _ _
   | exact ih2 _ _ _ _ _ _
   | exact ih3 _ _ _ _ _ _
   | exact ih4 _ _ _ _ _ _ _
   | exact ih5 _ _ _ _ _ _ _ _ _ _ _ _
   | exact ih6 _ _ _ _ _ _ _ _ _
   | exact ih7 _ _ _ _ _ _ _ _
   | exact breaks_Measure.mono _ _ _ _
   | exact selvedgelaw21_works.mono _
   | exact LeO.none _
   | refine LeO.ite ?_ ?_
   | refine LeO.bind ?_ (fun _ => ?_)
  ·intro y0 y1 y2 y3 y4 y5
   unfold selvedgelaw21_BreaksFit.j1
   repeat' first
   | (with_reducible exact ih0 _ _ _ _)
   | (with_reducible exact ih1 _ _ _ _ _ _)
   | (with_reducible exact ih2 _ _ _ _ _ _)
   | (with_reducible exact ih3 _ _ _ _ _ _)
   | (with_reducible exact ih4 _ _ _ _ _ _ _)
   | (with_reducible exact ih5 _ _ _ _ _ _ _ _ _ _ _ _)
   | (with_reducible exact ih6 _ _ _ _ _ _ _ _ _)
   | (with_reducible exact ih7 _ _ _ _ _ _ _ _)
   | (with_reducible exact breaks_Measure.mono _ _ _ _)
   | (with_reducible exact selvedgelaw21_works.mono _)
   | (with_reducible exact LeO.refl _)
   | (with_reducible exact LeO.none _)
   | (with_reducible refine LeO.ite ?_ ?_)
   | (with_reducible refine LeO.bind ?_ (fun _ => ?_))
   | exact ih0 _ _ _ _
   | exact ih1 _ _ _ _ _ _
   | exact ih2 _ _ _ _ _ _
   | exact ih3 _ _ _ _ _ _
   | exact ih4 _ _ _ _ _ _ _
   | exact ih5 _ _ _ _ _ _ _ _ _ _ _ _
   | exact ih6 _ _ _ _ _ _ _ _ _
   | exact ih7 _ _ _ _ _ _ _ _
   | exact breaks_Measure.mono _ _ _ _
   | exact selvedgelaw21_works.mono _
   | exact LeO.none _
   | refine LeO.ite ?_ ?_
   | refine LeO.bind ?_ (fun _ => ?_)
  ·intro y0 y1 y2 y3 y4 y5
   unfold selvedgelaw21_BreaksFit.j2
   repeat' first
   | (with_reducible exact ih0 _ _ _ _)
   | (with_reducible exact ih1 _ _ _ _ _ _)
   | (with_reducible exact ih2 _ _ _ _ _ _)
   | (with_reducible exact ih3 _ _ _ _ _ _)
   | (with_reducible exact ih4 _ _ _ _ _ _ _)
   | (with_reducible exact ih5 _ _ _ _ _ _ _ _ _ _ _ _)
   | (with_reducible exact ih6 _ _ _ _ _ _ _ _ _)
   | (with_reducible exact ih7 _ _ _ _ _ _ _ _)
   | (with_reducible exact breaks_Measure.mono _ _ _ _)
   | (with_reducible exact selvedgelaw21_works.mono _)
   | (with_reducible exact LeO.refl _)
   | (with_reducible exact LeO.none _)
   | (with_reducible refine LeO.ite ?_ ?_)
   | (with_reducible refine LeO.bind ?_ (fun _ => ?_))
   | exact ih0 _ _ _ _
   | exact ih1 _ _ _ _ _ _
   | exact ih2 _ _ _ _ _ _
   | exact ih3 _ _ _ _ _ _
   | exact ih4 _ _ _ _ _ _ _
   | exact ih5 _ _ _ _ _ _ _ _ _ _ _ _
   | exact ih6 _ _ _ _ _ _ _ _ _
   | exact ih7 _ _ _ _ _ _ _ _
   | exact breaks_Measure.mono _ _ _ _
   | exact selvedgelaw21_works.mono _
   | exact LeO.none _
   | refine LeO.ite ?_ ?_
   | refine LeO.bind ?_ (fun _ => ?_)
  ·intro y0 y1 y2 y3 y4 y5
   unfold selvedgelaw21_BreaksFit.l0
   repeat' first
   | (with_reducible exact ih0 _ _ _ _)
   | (with_reducible exact ih1 _ _ _ _ _ _)
   | (with_reducible exact ih2 _ _ _ _ _ _)
   | (with_reducible exact ih3 _ _ _ _ _ _)
   | (with_reducible exact ih4 _ _ _ _ _ _ _)
   | (with_reducible exact ih5 _ _ _ _ _ _ _ _ _ _ _ _)
   | (with_reducible exact ih6 _ _ _ _ _ _ _ _ _)
   | (with_reducible exact ih7 _ _ _ _ _ _ _ _)
   | (with_reducible exact breaks_Measure.mono _ _ _ _)
   | (with_reducible exact selvedgelaw21_works.mono _)
   | (with_reducible exact LeO.refl _)
   | (with_reducible exact LeO.none _)
   | (with_reducible refine LeO.ite ?_ ?_)
   | (with_reducible refine LeO.bind ?_ (fun _ => ?_))
   | exact ih0 _ _ _ _
   | exact ih1 _ _ _ _ _ _
   | exact ih2 _ _ _ _ _ _
   | exact ih3 _ _ _ _ _ _
   | exact ih4 _ _ _ _ _ _ _
   | exact ih5 _ _ _ _ _ _ _ _ _ _ _ _
   | exact ih6 _ _ _ _ _ _ _ _ _
   | exact ih7 _ _ _ _ _ _ _ _
   | exact breaks_Measure.mono _ _ _ _
   | exact selvedgelaw21_works.mono _
   | exact LeO.none _
   | refine LeO.ite ?_ ?_
   | refine LeO.bind ?_ (fun _ => ?_)
  ·intro y0 y1 y2 y3 y4 y5 y6
   unfold selvedgelaw21_BreaksFit.j4
   repeat' first
   | (with_reducible exact ih0 _ _ _ _)
   | (with_reducible exact ih1 _ _ _ _ _ _)
   | (with_reducible exact ih2 _ _ _ _ _ _)
   | (with_reducible exact ih3 _ _ _ _ _ _)
   | (with_reducible exact ih4 _ _ _ _ _ _ _)
   | (with_reducible exact ih5 _ _ _ _ _ _ _ _ _ _ _ _)
   | (with_reducible exact ih6 _ _ _ _ _ _ _ _ _)
   | (with_reducible exact ih7 _ _ _ _ _ _ _ _)
   | (with_reducible exact breaks_Measure.mono _ _ _ _)
   | (with_reducible exact selvedgelaw21_works.mono _)
   | (with_reducible exact LeO.refl _)
   | (with_reducible exact LeO.none _)
   | (with_reducible refine LeO.ite ?_ ?_)
   | (with_reducible refine LeO.bind ?_ (fun _ => ?_))
   | exact ih0 _ _ _ _
   | exact ih1 _ _ _ _ _ _
   | exact ih2 _ _ _ _ _ _
   | exact ih3 _ _ _ _ _ _
   | exact ih4 _ _ _ _ _ _ _
   | exact ih5 _ _ _ _ _ _ _ _ _ _ _ _
   | exact ih6 _ _ _ _ _ _ _ _ _
   | exact ih7 _ _ _ _ _ _ _ _
   | exact breaks_Measure.mono _ _ _ _
   | exact selvedgelaw21_works.mono _
   | exact LeO.none _
   | refine LeO.ite ?_ ?_
   | refine LeO.bind ?_ (fun _ => ?_)
  ·intro y0 y1 y2 y3 y4 y5 y6 y7 y8 y9 y10 y11
   unfold selvedgelaw21_BreaksFit.l1
   repeat' first
   | (with_reducible exact ih0 _ _ _ _)
   | (with_reducible exact ih1 _ _ _ _ _ _)
   | (with_reducible exact ih2 _ _ _ _ _ _)
   | (with_reducible exact ih3 _ _ _ _ _ _)
   | (with_reducible exact ih4 _ _ _ _ _ _ _)
   | (with_reducible exact ih5 _ _ _ _ _ _ _ _ _ _ _ _)
   | (with_reducible exact ih6 _ _ _ _ _ _ _ _ _)
   | (with_reducible exact ih7 _ _ _ _ _ _ _ _)
   | (with_reducible exact breaks_Measure.mono _ _ _ _)
   | (with_reducible exact selvedgelaw21_works.mono _)
   | (with_reducible exact LeO.refl _)
   | (with_reducible exact LeO.none _)
   | (with_reducible refine LeO.ite ?_ ?_)
   | (with_reducible refine LeO.bind ?_ (fun _ => ?_))
   | exact ih0 _ _ _ _
   | exact ih1 _ _ _ _ _ _
   | exact ih2 _ _ _ _ _ _
   | exact ih3 _ _ _ _ _ _
   | exact ih4 _ _ _ _ _ _ _
   | exact ih5 _ _ _ _ _ _ _ _ _ _ _ _
   | exact ih6 _ _ _ _ _ _ _ _ _
   | exact ih7 _ _ _ _ _ _ _ _
   | exact breaks_Measure.mono _ _ _ _
   | exact selvedgelaw21_works.mono _
   | exact LeO.none _
   | refine LeO.ite ?_ ?_
   | refine LeO.bind ?_ (fun _ => ?_)
  ·intro y0 y1 y2 y3 y4 y5 y6 y7 y8
   unfold selvedgelaw21_BreaksFit.j6
   repeat' first
   | (with_reducible exact ih0 _ _ _ _)
   | (with_reducible exact ih1 _ _ _ _ _ _)
   | (with_reducible exact ih2 _ _ _ _ _ _)
   | (with_reducible exact ih3 _ _ _ _ _ _)
   | (with_reducible exact ih4 _ _ _ _ _ _ _)
   | (with_reducible exact ih5 _ _ _ _ _ _ _ _ _ _ _ _)
   | (with_reducible exact ih6 _ _ _ _ _ _ _ _ _)
   | (with_reducible exact ih7 _ _ _ _ _ _ _ _)
   | (with_reducible exact breaks_Measure.mono _ _ _ _)
   | (with_reducible exact selvedgelaw21_works.mono _)
   | (with_reducible exact LeO.refl _)
   | (with_reducible exact LeO.none _)
   | (with_reducible refine LeO.ite ?_ ?_)
   | (with_reducible refine LeO.bind ?_ (fun _ => ?_))
   | exact ih0 _ _ _ _
   | exact ih1 _ _ _ _ _ _
   | exact ih2 _ _ _ _ _ _
   | exact ih3 _ _ _ _ _ _
   | exact ih4 _ _ _ _ _ _ _
   | exact ih5 _ _ _ _ _ _ _ _ _ _ _ _
   | exact ih6 _ _ _ _ _ _ _ _ _
   | exact ih7 _ _ _ _ _ _ _ _
   | exact breaks_Measure.mono _ _ _ _
   | exact selvedgelaw21_works.mono _
   | exact LeO.none _
   | refine LeO.ite ?_ ?_
   | refine LeO.bind ?_ (fun _ => ?_)
  ·intro y0 y1 y2 y3 y4 y5 y6 y7
   unfold selvedgelaw21_BreaksFit.j7
   repeat' first
   | (with_reducible exact ih0 _ _ _ _)
   | (with_reducible exact ih1 _ _ _ _ _ _)
   | (with_reducible exact ih2 _ _ _ _ _ _)
   | (with_reducible exact ih3 _ _ _ _ _ _)
   | (with_reducible exact ih4 _ _ _ _ _ _ _)
   | (with_reducible exact ih5 _ _ _ _ _ _ _ _ _ _ _ _)
   | (with_reducible exact ih6 _ _ _ _ _ _ _ _ _)
   | (with_reducible exact ih7 _ _ _ _ _ _ _ _)
   | (with_reducible exact breaks_Measure.mono _ _ _ _)
   | (with_reducible exact selvedgelaw21_works.mono _)
   | (with_reducible exact LeO.refl _)
   | (with_reducible exact LeO.none _)
   | (with_reducible refine LeO.ite ?_ ?_)
   | (with_reducible refine LeO.bind ?_ (fun _ => ?_))
   | exact ih0 _ _ _ _
   | exact ih1 _ _ _ _ _ _
   | exact ih2 _ _ _ _ _ _
   | exact ih3 _ _ _ _ _ _
   | exact ih4 _ _ _ _ _ _ _
   | exact ih5 _ _ _ _ _ _ _ _ _ _ _ _
   | exact ih6 _ _ _ _ _ _ _ _ _
   | exact ih7 _ _ _ _ _ _ _ _
   | exact breaks_Measure.mono _ _ _ _
   | exact selvedgelaw21_works.mono _
   | exact LeO.none _
   | refine LeO.ite ?_ ?_
   | refine LeO.bind ?_ (fun _ => ?_)
theorem selvedgelaw21_BreaksFit.mono : ∀ a0 a1 a2 k, LeO (selvedgelaw21_BreaksFit.f k a0 a1 a2) (selvedgelaw21_BreaksFit.f (k + 1) a0 a1 a2) := by
 intro a0 a1 a2 k
 obtain ⟨ih0, ih1, ih2, ih3, ih4, ih5, ih6, ih7⟩ := selvedgelaw21_BreaksFit.mono_l k
 unfold selvedgelaw21_BreaksFit.f
 repeat' first
   | (with_reducible exact ih0 _ _ _ _)
   | (with_reducible exact ih1 _ _ _ _ _ _)
   | (with_reducible exact ih2 _ _ _ _ _ _)
   | (with_reducible exact ih3 _ _ _ _ _ _)
   | (with_reducible exact ih4 _ _ _ _ _ _ _)
   | (with_reducible exact ih5 _ _ _ _ _ _ _ _ _ _ _ _)
   | (with_reducible exact ih6 _ _ _ _ _ _ _ _ _)
   | (with_reducible exact ih7 _ _ _ _ _ _ _ _)
   | (with_reducible exact breaks_Measure.mono _ _ _ _)
   | (with_reducible exact selvedgelaw21_works.mono _)
   | (with_reducible exact LeO.refl _)
   | (with_reducible exact LeO.none _)
   | (with_reducible refine LeO.ite ?_ ?_)
   | (with_reducible refine LeO.bind ?_ (fun _ => ?_))
   | exact ih0 _ _ _ _
   | exact ih1 _ _ _ _ _ _
   | exact ih2 _ _ _ _ _ _
   | exact ih3 _ _ _ _ _ _
   | exact ih4 _ _ _ _ _ _ _
   | exact ih5 _ _ _ _ _ _ _ _ _ _ _ _
   | exact ih6 _ _ _ _ _ _ _ _ _
   | exact ih7 _ _ _ _ _ _ _ _
   | exact breaks_Measure.mono _ _ _ _
   | exact selvedgelaw21_works.mono _
   | exact LeO.none _
   | refine LeO.ite ?_ ?_
   | refine LeO.bind ?_ (fun _ => ?_)
set_option maxHeartbeats 8000000 in
set_option maxRecDepth 100000 in
theorem selvedgelaw21_BreaksFit.calls (k : Nat) (A0 : Option Addr) (c0 : Nat) (l0 : List (S36)) (a1 : Int) (a2 : Int) (r : Bool) (w : World) (hr0 : Kd.C k36 w A0 l0.length l0) (hc0 : l0.length ≤ c0) (h : selvedgelaw21_BreaksFit.f k l0 a1 a2 = some r) :
  Calls Try.prog 8 #[.slice A0 l0.length c0, .int .i64 a1, .int .i64 a2] w fun e w' => e = .returned (.bool r) ∧ Below w.heap.size w w' := by
 have HR0 := Aside0.mk hr0
 have HC0 := Aside0.mk hc0
 clear hr0 hc0
 have HB := Aside0.mk (Below.refl w.heap.size w)
 have H : (if (l0.length : Int) > 200 then (selvedgelaw21_BreaksFit.j0 k l0 a1 a2 true) else (selvedgelaw21_BreaksFit.j0 k l0 a1 a2 (decide (a2 < 0)))) = some r := h
 clear h
 have HC4 := Aside0.mk H
 clear H
 go_enter Try.func8, Try.ntmps8
 go_upto_region 1 with (fail)
 repeat (go_quiet (fail); go_upto_region 1 with (fail))
 go_cut [28] (fun v28 wc => ∃ (kq : Nat) (x28_3 : Bool), v28 = .bool x28_3 ∧ Aside0 (selvedgelaw21_BreaksFit.j0 kq l0 a1 a2 x28_3 = some r) ∧ Aside0 (kq ≤ k) ∧ Aside0 (Below w.heap.size w wc))
 case first =>
  as_aux_lemma =>
  have H := HC4.out
  clear HC4
  by_cases c5 : (l0.length : Int) > 200
  ·rw [if_pos c5] at H
   have c5b0 : decide (200 < (l0.length : Int)) = true := decide_eq_true c5
   have c5b1 : decide (200 < l0.length) = true := decide_eq_true (by omega)
   clear c5
   (first | rw [c5b0] | (simp only [i64_w, i32_w]; rw [c5b0]) | skip)
   have H' := Aside0.mk H
   clear H
   go_wp2
   repeat (go_quiet (fail); try go_wp2)
   go_meet
   case rel => exact ⟨_, (true), (by first | rfl | (simp; done) | (simp [*]; done)), H', ⟨by first | omega | exact Nat.le_refl _⟩, ⟨mvB HB⟩⟩
  ·rw [if_neg c5] at H
   have c5b0 : decide (200 < (l0.length : Int)) = false := decide_eq_false c5
   have c5b1 : decide (200 < l0.length) = false := decide_eq_false (by omega)
   clear c5
   (first | rw [c5b0] | (simp only [i64_w, i32_w]; rw [c5b0]) | skip)
   have H' := Aside0.mk H
   clear H
   go_wp2
   repeat (go_quiet (fail); try go_wp2)
   go_meet
   case rel => exact ⟨_, (decide (a2 < 0)), (by first | rfl | (simp; done) | (simp [*]; done)), H', ⟨by first | omega | exact Nat.le_refl _⟩, ⟨mvB HB⟩⟩
 case rest =>
  as_aux_lemma =>
  clear HC4
  try clear p2
  try clear c5
  try clear c5b0
  try clear c5b1
  obtain ⟨kq, x28_3, rfl, HA, HJ3, HB⟩ := hcut
  cases kq with
  | zero => exact absurd HA.out (by simp [selvedgelaw21_BreaksFit.j0])
  | succ kj3 =>
   have H := HA.out
   clear HA
   simp only [selvedgelaw21_BreaksFit.j0] at H
   by_cases c6 : x28_3 = true
   ·subst c6
    have H1 : ((selvedgelaw21_works.f kj3).bind fun t277 => (some t277)) = some r := by rw [if_pos rfl] at H; exact H
    clear H
    have H := H1
    clear H1
    replace H := Option.bind_eq_some_iff.mp H
    obtain ⟨t277, A70, H⟩ := H
    replace H : (some t277) = some r := H
    have A7 := Aside0.mk A70
    clear A70
    obtain rfl := Option.some.inj H
    go_wp2_with (first | (go_at_call 10; (with_reducible refine (selvedgelaw21_works.calls kj3  t277 _ A7.out).mono ?_); rintro e w8 ⟨rfl, hb⟩; have n0_ := Aside0.mk (below_step (mvB HB) hb); clear HB; have HB := n0_; clear n0_; (try clear hb); (try clear hb2); (try clear hk); (try clear hi)))
    repeat (go_quiet (fail))
    go_ret
    exact ⟨by first | rfl | (simp [errW_none, errW_some] <;> rfl) | (simp [*, errW_none, errW_some] <;> rfl), mvB HB⟩
   ·replace c6 := Bool.eq_false_iff.mpr c6
    subst c6
    have H1 : ((breaks_Lines.f l0 a1).bind fun bt278 => ((breaks_Places.f l0).bind fun bt282 => (if bt278.2 = 0 then (selvedgelaw21_BreaksFit.j1 kj3 l0 a1 a2 bt278.1 bt282.1 (bt282.2 != 0)) else (selvedgelaw21_BreaksFit.j1 kj3 l0 a1 a2 bt278.1 bt282.1 true)))) = some r := by rw [if_neg (show ¬ (false = true) by decide)] at H; exact H
    clear H
    have H := H1
    clear H1
    replace H := Option.bind_eq_some_iff.mp H
    obtain ⟨⟨t278, t279⟩, A90, H⟩ := H
    replace H : ((breaks_Places.f l0).bind fun bt282 => (if t279 = 0 then (selvedgelaw21_BreaksFit.j1 kj3 l0 a1 a2 t278 bt282.1 (bt282.2 != 0)) else (selvedgelaw21_BreaksFit.j1 kj3 l0 a1 a2 t278 bt282.1 true))) = some r := H
    have A9 := Aside0.mk A90
    clear A90
    replace H := Option.bind_eq_some_iff.mp H
    obtain ⟨⟨t282, t283⟩, A100, H⟩ := H
    replace H : (if t279 = 0 then (selvedgelaw21_BreaksFit.j1 kj3 l0 a1 a2 t278 t282 (t283 != 0)) else (selvedgelaw21_BreaksFit.j1 kj3 l0 a1 a2 t278 t282 true)) = some r := H
    have A10 := Aside0.mk A100
    clear A100
    have HC11 := Aside0.mk H
    clear H
    go_upto_region 5 with (first | (go_at_call 14; (with_reducible refine (breaks_Lines.calls _ _ l0 a1 t278 t279 _ ?side1 ?side2 A9.out).mono ?_); (case side1 => repeat (first | exact (Kd.C_below HR0.out HB.out) | (with_reducible refine Kd.C_alloc ?_ _) | (with_reducible refine Kd.C_drewN ?_ _) | (with_reducible refine Kd.C_drew ?_))); (case side2 => exact HC0.out); rintro e w12 ⟨v280, rfl, ho0, hb⟩; have n0_ := Aside0.mk (Kd.R_lower ho0 (below_size (mvB HB))); have n1_ := Aside0.mk (below_step (mvB HB) hb); clear HB; have HO281 := n0_; have HB := n1_; clear n0_ n1_; (try clear hb); (try clear hb2); (try clear hk); (try clear hi); (try clear ho0)) | (go_at_call 18; (with_reducible refine (breaks_Places.calls _ _ l0 t282 t283 _ ?side1 ?side2 A10.out).mono ?_); (case side1 => repeat (first | exact (Kd.C_below HR0.out HB.out) | (with_reducible refine Kd.C_alloc ?_ _) | (with_reducible refine Kd.C_drewN ?_ _) | (with_reducible refine Kd.C_drew ?_))); (case side2 => exact HC0.out); rintro e w13 ⟨v284, rfl, ho0, hb⟩; have n0_ := Aside0.mk (Kd.R_elder' (mvR HO281) (Kd.R_base ho0) hb); have n1_ := Aside0.mk (Kd.R_lower (Kd.R_new' ho0 (Kd.R_lt (mvR HO281))) (below_size (mvB HB))); have n2_ := Aside0.mk (below_step (mvB HB) hb); clear HO281; clear HB; have HO281 := n0_; have HO285 := n1_; have HB := n2_; clear n0_ n1_ n2_; (try clear hb); (try clear hb2); (try clear hk); (try clear hi); (try clear ho0)))
    repeat (go_quiet (fail))
    (try simp only [Act.put, List.setIfInBounds_toArray, List.set_cons_zero, List.set_cons_succ])
    go_cut [46] (fun v46 wc => ∃ (kq : Nat) (x46_10 : Bool), v46 = .bool x46_10 ∧ Aside0 (selvedgelaw21_BreaksFit.j1 kq l0 a1 a2 t278 t282 x46_10 = some r) ∧ Aside0 (kq ≤ kj3) ∧ Aside0 (Kd.R (Kd.int .i64) 3 wc w.heap.size (fun k_ => some k_ ≠ (v284 : Value).ownBlock) v280 t278) ∧ Aside0 (Kd.R (Kd.int .i64) 3 wc w.heap.size (fun k_ => some k_ ≠ (v280 : Value).ownBlock) v284 t282) ∧ Aside0 (Below w.heap.size w wc))
    case first =>
     as_aux_lemma =>
     have H := HC11.out
     clear HC11
     by_cases c14 : t279 = 0
     ·rw [if_pos c14] at H
      have c14b0 : (t279 == 0) = true := beq_iff_eq.mpr c14
      have c14b1 : (t279 != 0) = false := bne_eq_false_iff_eq.mpr c14
      clear c14
      (first | rw [c14b0] | (simp only [i64_w, i32_w]; rw [c14b0]) | skip)
      have H' := Aside0.mk H
      clear H
      go_wp2
      repeat (go_quiet (fail); try go_wp2)
      go_meet
      case rel => exact ⟨_, ((t283 != 0)), (by first | rfl | (simp; done) | (simp [*]; done)), H', ⟨by have := HJ3.out; first | omega | exact Nat.le_refl _⟩, ⟨by (with_reducible repeat (first | apply Kd.R_alloc | apply Kd.R_drewN | apply Kd.R_drew)); exact Kd.R_mono HO281.out (fun _ hk => hk.2)⟩, ⟨by (with_reducible repeat (first | apply Kd.R_alloc | apply Kd.R_drewN | apply Kd.R_drew)); exact Kd.R_mono HO285.out (fun _ hk => hk.2)⟩, ⟨mvB HB⟩⟩
     ·rw [if_neg c14] at H
      have c14b0 : (t279 == 0) = false := beq_eq_false_iff_ne.mpr c14
      have c14b1 : (t279 != 0) = true := bne_iff_ne.mpr c14
      (first | rw [c14b0] | (simp only [i64_w, i32_w]; rw [c14b0]) | skip)
      have H' := Aside0.mk H
      clear H
      go_wp2
      repeat (go_quiet (fail); try go_wp2)
      go_meet
      case rel => exact ⟨_, (true), (by first | rfl | (simp; done) | (simp [*]; done)), H', ⟨by have := HJ3.out; first | omega | exact Nat.le_refl _⟩, ⟨by (with_reducible repeat (first | apply Kd.R_alloc | apply Kd.R_drewN | apply Kd.R_drew)); exact Kd.R_mono HO281.out (fun _ hk => hk.2)⟩, ⟨by (with_reducible repeat (first | apply Kd.R_alloc | apply Kd.R_drewN | apply Kd.R_drew)); exact Kd.R_mono HO285.out (fun _ hk => hk.2)⟩, ⟨mvB HB⟩⟩
    case rest =>
     as_aux_lemma =>
     clear HC11
     try clear c1
     try clear p2
     try clear c5
     try clear c5b0
     try clear c5b1
     try clear c6
     try clear c8
     try clear c14
     try clear c14b0
     try clear c14b1
     try clear p2
     obtain ⟨kq, x46_10, rfl, HA, HJ10, HO_7, HO_9, HB⟩ := hcut
     cases kq with
     | zero => exact absurd HA.out (by simp [selvedgelaw21_BreaksFit.j1])
     | succ kj10 =>
      have H := HA.out
      clear HA
      simp only [selvedgelaw21_BreaksFit.j1] at H
      by_cases c15 : x46_10 = true
      ·subst c15
       have H1 : (if (t278.length : Int) = 0 then ((selvedgelaw21_works.f kj10).bind fun t286 => (some t286)) else (some false)) = some r := by rw [if_pos rfl] at H; exact H
       clear H
       have H := H1
       clear H1
       by_cases c16 : (t278.length : Int) = 0
       ·rw [if_pos c16] at H
        have c16b0 : ((t278.length : Int) == 0) = true := beq_iff_eq.mpr c16
        have c16b1 : ((t278.length : Int) != 0) = false := bne_eq_false_iff_eq.mpr c16
        clear c16
        replace H := Option.bind_eq_some_iff.mp H
        obtain ⟨t286, A170, H⟩ := H
        replace H : (some t286) = some r := H
        have A17 := Aside0.mk A170
        clear A170
        obtain rfl := Option.some.inj H
        obtain ⟨Ao18, co18, eo18⟩ := Kd.R_slice HO_7.out
        subst eo18
        go_wp2_with (first | (go_at_call 10; (with_reducible refine (selvedgelaw21_works.calls kj10  t286 _ A17.out).mono ?_); rintro e w19 ⟨rfl, hb⟩; have n0_ := Aside0.mk (Kd.R_below (mvR HO_7) hb); have n1_ := Aside0.mk (Kd.R_below (mvR HO_9) hb); have n2_ := Aside0.mk (below_step (mvB HB) hb); clear HO_7; clear HO_9; clear HB; have HO_7 := n0_; have HO_9 := n1_; have HB := n2_; clear n0_ n1_ n2_; (try clear hb); (try clear hb2); (try clear hk); (try clear hi)))
        repeat (go_quiet (fail))
        go_ret
        exact ⟨by first | rfl | (simp [errW_none, errW_some] <;> rfl) | (simp [*, errW_none, errW_some] <;> rfl), mvB HB⟩
       ·rw [if_neg c16] at H
        have c16b0 : ((t278.length : Int) == 0) = false := beq_eq_false_iff_ne.mpr c16
        have c16b1 : ((t278.length : Int) != 0) = true := bne_iff_ne.mpr c16
        have c16b2 : ¬ (t278 = []) := fun h_ => c16 (by rw [h_]; rfl)
        obtain rfl := Option.some.inj H
        obtain ⟨Ao20, co20, eo20⟩ := Kd.R_slice HO_7.out
        subst eo20
        go_wp2
        repeat (go_quiet (fail); try go_wp2)
        go_ret
        exact ⟨by first | rfl | (simp [errW_none, errW_some] <;> rfl) | (simp [*, errW_none, errW_some] <;> rfl), mvB HB⟩
      ·replace c15 := Bool.eq_false_iff.mpr c15
       subst c15
       have H1 : (if (t278.length : Int) = 0 then (selvedgelaw21_BreaksFit.j2 kj10 l0 a1 a2 t278 t282 true) else (if 0 < (t278.length : Int) then (selvedgelaw21_BreaksFit.j2 kj10 l0 a1 a2 t278 t282 ((rd t278 0) != 0)) else (none))) = some r := by rw [if_neg (show ¬ (false = true) by decide)] at H; exact H
       clear H
       have H := H1
       clear H1
       have HC21 := Aside0.mk H
       clear H
       go_upto_region 7 with (fail)
       repeat (go_quiet (fail); go_upto_region 7 with (fail))
       go_cut [61] (fun v61 wc => ∃ (kq : Nat) (x61_20 : Bool), v61 = .bool x61_20 ∧ Aside0 (selvedgelaw21_BreaksFit.j2 kq l0 a1 a2 t278 t282 x61_20 = some r) ∧ Aside0 (kq ≤ kj10) ∧ Aside0 (Kd.R (Kd.int .i64) 3 wc w.heap.size (fun k_ => some k_ ≠ (v284 : Value).ownBlock) v280 t278) ∧ Aside0 (Kd.R (Kd.int .i64) 3 wc w.heap.size (fun k_ => some k_ ≠ (v280 : Value).ownBlock) v284 t282) ∧ Aside0 (Below w.heap.size w wc))
       case first =>
        as_aux_lemma =>
        have H := HC21.out
        clear HC21
        by_cases c22 : (t278.length : Int) = 0
        ·rw [if_pos c22] at H
         have c22b0 : ((t278.length : Int) == 0) = true := beq_iff_eq.mpr c22
         have c22b1 : ((t278.length : Int) != 0) = false := bne_eq_false_iff_eq.mpr c22
         clear c22
         (first | rw [c22b0] | (simp only [i64_w, i32_w]; rw [c22b0]) | skip)
         have H' := Aside0.mk H
         clear H
         obtain ⟨Ao23, co23, eo23⟩ := Kd.R_slice HO_7.out
         subst eo23
         go_wp2
         repeat (go_quiet (fail); try go_wp2)
         go_meet
         case rel => exact ⟨_, (true), (by first | rfl | (simp; done) | (simp [*]; done)), H', ⟨by have := HJ3.out; have := HJ10.out; first | omega | exact Nat.le_refl _⟩, ⟨mvR HO_7⟩, ⟨mvR HO_9⟩, ⟨mvB HB⟩⟩
        ·rw [if_neg c22] at H
         have c22b0 : ((t278.length : Int) == 0) = false := beq_eq_false_iff_ne.mpr c22
         have c22b1 : ((t278.length : Int) != 0) = true := bne_iff_ne.mpr c22
         have c22b2 : ¬ (t278 = []) := fun h_ => c22 (by rw [h_]; rfl)
         (first | rw [c22b0] | (simp only [i64_w, i32_w]; rw [c22b0]) | skip)
         by_cases c24 : 0 < (t278.length : Int)
         ·rw [if_pos c24] at H
          have c24b0 : decide (0 < (t278.length : Int)) = true := decide_eq_true c24
          have c24b1 : decide (0 < t278.length) = true := decide_eq_true (by omega)
          clear c24
          have H' := Aside0.mk H
          clear H
          obtain ⟨Ao25, co25, eo25⟩ := Kd.R_slice HO_7.out
          subst eo25
          have p287 : 0 ≤ (0 : Int) := (by omega)
          have q287 := dT (0 < (t278.length : Int))
          obtain ⟨ad287, e287, hx287_0⟩ := Kd.at_int (Kd.R_reads' HO_7.out).2.2 0 p287 q287
          cases e287
          have qi287 : (0 < t278.length) = True := eq_true (by omega)
          (try rw [show ((0 : Int)).toNat = 0 from rfl] at hx287_0)
          (try rw [Addr.add_zero'] at hx287_0)
          replace p287 := eq_true p287
          replace q287 := eq_true q287
          go_wp2
          repeat (go_quiet (fail); try go_wp2)
          go_meet
          case rel => exact ⟨_, (((rd t278 0) != 0)), (by first | rfl | (simp; done) | (simp [*]; done)), H', ⟨by have := HJ3.out; have := HJ10.out; first | omega | exact Nat.le_refl _⟩, ⟨mvR HO_7⟩, ⟨mvR HO_9⟩, ⟨mvB HB⟩⟩
         ·rw [if_neg c24] at H
          exact absurd H (by simp)
       case rest =>
        as_aux_lemma =>
        clear HC21
        try clear c1
        try clear c2
        try clear p2
        try clear q2
        try clear hx2
        try clear qi2
        try clear c5
        try clear c5b0
        try clear c5b1
        try clear c6
        try clear c8
        try clear c14
        try clear c14b0
        try clear c14b1
        try clear c15
        try clear c16
        try clear c16b0
        try clear c16b1
        try clear c16b2
        try clear c22
        try clear c22b0
        try clear c22b1
        try clear c22b2
        try clear c24
        try clear c24b0
        try clear c24b1
        try clear hx287_0
        try clear p2
        try clear p287
        try clear q287
        obtain ⟨kq, x61_20, rfl, HA, HJ20, HO_7, HO_9, HB⟩ := hcut
        cases kq with
        | zero => exact absurd HA.out (by simp [selvedgelaw21_BreaksFit.j2])
        | succ kj20 =>
         have H := HA.out
         clear HA
         simp only [selvedgelaw21_BreaksFit.j2] at H
         by_cases c26 : x61_20 = true
         ·subst c26
          have H1 : (some false) = some r := by rw [if_pos rfl] at H; exact H
          clear H
          have H := H1
          clear H1
          obtain rfl := Option.some.inj H
          go_wp2
          repeat (go_quiet (fail); try go_wp2)
          go_ret
          exact ⟨by first | rfl | (simp [errW_none, errW_some] <;> rfl) | (simp [*, errW_none, errW_some] <;> rfl), mvB HB⟩
         ·replace c26 := Bool.eq_false_iff.mpr c26
          subst c26
          have H1 : (selvedgelaw21_BreaksFit.l0 kj20 l0 a1 a2 t278 t282 0) = some r := by rw [if_neg (show ¬ (false = true) by decide)] at H; exact H
          clear H
          have H := H1
          clear H1
          have H' := Aside0.mk H
          clear H
          go_wp2
          repeat (go_quiet (fail); try go_wp2)
          go_loopg [11] kj20 (fun kq v11 w' => ∃ (x11_4 : Int), v11 = .int .i64 x11_4 ∧ Aside0 (selvedgelaw21_BreaksFit.l0 kq l0 a1 a2 t278 t282 x11_4 = some r) ∧ Aside0 (kq ≤ kj20) ∧ Aside0 (Kd.R (Kd.int .i64) 3 w' w.heap.size (fun k_ => some k_ ≠ (v284 : Value).ownBlock) v280 t278) ∧ Aside0 (Kd.R (Kd.int .i64) 3 w' w.heap.size (fun k_ => some k_ ≠ (v280 : Value).ownBlock) v284 t282) ∧ Aside0 (Below w.heap.size w w'))
          case atStart => exact ⟨(0), (by first | rfl | (simp; done) | (simp [*]; done)), H', ⟨Nat.le_refl _⟩, ⟨mvR HO_7⟩, ⟨mvR HO_9⟩, ⟨mvB HB⟩⟩
          case round =>
           as_aux_lemma =>
           clear H'
           try clear c1
           try clear c2
           try clear p2
           try clear q2
           try clear hx2
           try clear qi2
           try clear c5
           try clear c5b0
           try clear c5b1
           try clear c6
           try clear c8
           try clear c14
           try clear c14b0
           try clear c14b1
           try clear c15
           try clear c16
           try clear c16b0
           try clear c16b1
           try clear c16b2
           try clear c22
           try clear c22b0
           try clear c22b1
           try clear c22b2
           try clear c24
           try clear c24b0
           try clear c24b1
           try clear c26
           try clear hx287_0
           try clear p2
           try clear p287
           try clear q2
           try clear q287
           obtain ⟨x11_4, rfl, HA, HK4, HO_7, HO_9, HB⟩ := hrel
           cases gk with
           | zero => exact absurd HA.out (by simp [selvedgelaw21_BreaksFit.l0])
           | succ k4 =>
            have H := HA.out
            clear HA
            simp only [selvedgelaw21_BreaksFit.l0] at H
            by_cases c27 : x11_4 < (t278.length : Int)
            ·rw [if_pos c27] at H
             have c27b0 : decide (x11_4 < (t278.length : Int)) = true := decide_eq_true c27
             clear c27
             have HC28 := Aside0.mk H
             clear H
             obtain ⟨Ao29, co29, eo29⟩ := Kd.R_slice HO_7.out
             subst eo29
             go_upto_if 74 with (fail)
             repeat (go_quiet (fail); go_upto_if 74 with (fail))
             go_cut [12] (fun v12 wc => ∃ (kq : Nat) (x12_27 : Int), v12 = .int .i64 x12_27 ∧ Aside0 (selvedgelaw21_BreaksFit.j4 kq l0 a1 a2 t278 t282 x11_4 x12_27 = some r) ∧ Aside0 (kq ≤ k4) ∧ Aside0 (Kd.R (Kd.int .i64) 3 wc w.heap.size (fun k_ => some k_ ≠ (v284 : Value).ownBlock) (.slice Ao29 t278.length co29) t278) ∧ Aside0 (Kd.R (Kd.int .i64) 3 wc w.heap.size (fun k_ => some k_ ≠ ((.slice Ao29 t278.length co29) : Value).ownBlock) v284 t282) ∧ Aside0 (Below w.heap.size w wc))
             case first =>
              as_aux_lemma =>
              have H := HC28.out
              clear HC28
              by_cases c30 : (wrap64 (x11_4 + 1)) < (t278.length : Int)
              ·rw [if_pos c30] at H
               have c30b0 : decide ((wrap64 (x11_4 + 1)) < (t278.length : Int)) = true := decide_eq_true c30
               clear c30
               (first | rw [c30b0] | (simp only [i64_w, i32_w]; rw [c30b0]) | skip)
               obtain ⟨ji31, hji31⟩ : ∃ j_ : Int, (wrap64 (x11_4 + 1)) = j_ := ⟨_, rfl⟩
               replace H : (if 0 ≤ (ji31) then (selvedgelaw21_BreaksFit.j4 k4 l0 a1 a2 t278 t282 x11_4 (rd t278 (ji31))) else (none)) = some r := by first | (rw [hji31] at H; exact H) | (simp only [hji31] at H ⊢; exact H)
               (try rw [hji31] at c30b0)
               have hji31w : (IntKind.i64.wrap (x11_4 + 1)) = ji31 := (i64_w _).trans hji31
               by_cases c32 : 0 ≤ (ji31)
               ·rw [if_pos c32] at H
                have c32b0 : decide (0 ≤ (ji31)) = true := decide_eq_true c32
                clear c32
                have H' := Aside0.mk H
                clear H
                obtain ⟨ad288, e288, hx288_0, p288, q288⟩ := atI (Kd.R_reads' HO_7.out).2.2 (ji31)
                cases e288
                go_wp2
                repeat (go_quiet (fail); try go_wp2)
                go_meet
                case rel => exact ⟨_, (rd t278 (ji31)), (by first | rfl | (simp; done) | (simp only [← hji31] <;> (first | rfl | simp)) | (simp [*]; done)), H', ⟨by have := HJ3.out; have := HJ10.out; have := HJ20.out; have := HK4.out; first | omega | exact Nat.le_refl _⟩, ⟨mvR HO_7⟩, ⟨mvR HO_9⟩, ⟨mvB HB⟩⟩
               ·rw [if_neg c32] at H
                exact absurd H (by simp)
              ·rw [if_neg c30] at H
               have c30b0 : decide ((wrap64 (x11_4 + 1)) < (t278.length : Int)) = false := decide_eq_false c30
               clear c30
               (first | rw [c30b0] | (simp only [i64_w, i32_w]; rw [c30b0]) | skip)
               have H' := Aside0.mk H
               clear H
               go_wp2
               repeat (go_quiet (fail); try go_wp2)
               go_meet
               case rel => exact ⟨_, ((l0.length : Int)), (by first | rfl | (simp; done) | (simp [*]; done)), H', ⟨by have := HJ3.out; have := HJ10.out; have := HJ20.out; have := HK4.out; first | omega | exact Nat.le_refl _⟩, ⟨mvR HO_7⟩, ⟨mvR HO_9⟩, ⟨mvB HB⟩⟩
             case rest =>
              as_aux_lemma =>
              clear HC28
              try clear c1
              try clear c2
              try clear p2
              try clear q2
              try clear hx2
              try clear qi2
              try clear c3
              try clear c5
              try clear c5b0
              try clear c5b1
              try clear c6
              try clear p6
              try clear c8
              try clear c14
              try clear c14b0
              try clear c14b1
              try clear c15
              try clear c16
              try clear c16b0
              try clear c16b1
              try clear c16b2
              try clear c22
              try clear c22b0
              try clear c22b1
              try clear c22b2
              try clear c24
              try clear c24b0
              try clear c24b1
              try clear c26
              try clear c27
              try clear c27b0
              try clear p28
              try clear q28
              try clear hx28
              try clear qi28
              try clear c30
              try clear c30b0
              try clear c32
              try clear c32b0
              try clear hx287_0
              try clear hx288_0
              try clear p2
              try clear p287
              try clear p288
              try clear q2
              try clear q287
              try clear q288
              obtain ⟨kq, x12_27, rfl, HA, HJ27, HO_7, HO_9, HB⟩ := hcut
              cases kq with
              | zero => exact absurd HA.out (by simp [selvedgelaw21_BreaksFit.j4])
              | succ kj27 =>
               have H := HA.out
               clear HA
               simp only [selvedgelaw21_BreaksFit.j4] at H
               by_cases c33 : 0 ≤ x11_4
               ·rw [if_pos c33] at H
                have c33b0 : decide (0 ≤ x11_4) = true := decide_eq_true c33
                clear c33
                by_cases c34 : x11_4 < (t278.length : Int)
                ·rw [if_pos c34] at H
                 have c34b0 : decide (x11_4 < (t278.length : Int)) = true := decide_eq_true c34
                 clear c34
                 replace H := Option.bind_eq_some_iff.mp H
                 obtain ⟨⟨t290, t291⟩, A350, H⟩ := H
                 replace H : (selvedgelaw21_BreaksFit.l1 kj27 l0 a1 a2 t278 t282 x11_4 x12_27 t290 t291 false (l0.length : Int) (wrap64 ((t282.length : Int) - 1))) = some r := H
                 have A35 := Aside0.mk A350
                 clear A350
                 have H' := Aside0.mk H
                 clear H
                 obtain ⟨ad289, e289, hx289_0, p289, q289⟩ := atI (Kd.R_reads' HO_7.out).2.2 x11_4
                 cases e289
                 go_wp2_with (first | (go_at_call 11; (with_reducible refine (breaks_Measure.calls kj27 _ _ l0 (rd t278 x11_4) x12_27 t290 t291 _ ?side1 ?side2 A35.out).mono ?_); (case side1 => repeat (first | exact (Kd.C_below HR0.out HB.out) | (with_reducible refine Kd.C_alloc ?_ _) | (with_reducible refine Kd.C_drewN ?_ _) | (with_reducible refine Kd.C_drew ?_))); (case side2 => exact HC0.out); rintro e w36 ⟨rfl, hb⟩; have n0_ := Aside0.mk (Kd.R_below (mvR HO_7) hb); have n1_ := Aside0.mk (Kd.R_below (mvR HO_9) hb); have n2_ := Aside0.mk (below_step (mvB HB) hb); clear HO_7; clear HO_9; clear HB; have HO_7 := n0_; have HO_9 := n1_; have HB := n2_; clear n0_ n1_ n2_; (try clear hb); (try clear hb2); (try clear hk); (try clear hi); obtain ⟨Ao37, co37, eo37⟩ := Kd.R_slice HO_9.out; subst eo37))
                 repeat (go_quiet (fail))
                 go_loopg [15, 16, 17] kj27 (fun kq v15 v16 v17 w' => ∃ (x15_6 : Bool) (x16_6 : Int) (x17_6 : Int), v15 = .bool x15_6 ∧ v16 = .int .i64 x16_6 ∧ v17 = .int .i64 x17_6 ∧ Aside0 (selvedgelaw21_BreaksFit.l1 kq l0 a1 a2 t278 t282 x11_4 x12_27 t290 t291 x15_6 x16_6 x17_6 = some r) ∧ Aside0 (kq ≤ kj27) ∧ Aside0 (Kd.R (Kd.int .i64) 3 w' w.heap.size (fun k_ => some k_ ≠ ((.slice Ao37 t282.length co37) : Value).ownBlock) (.slice (some ad289) t278.length co29) t278) ∧ Aside0 (Kd.R (Kd.int .i64) 3 w' w.heap.size (fun k_ => some k_ ≠ ((.slice (some ad289) t278.length co29) : Value).ownBlock) (.slice Ao37 t282.length co37) t282) ∧ Aside0 (Below w.heap.size w w'))
                 case atStart => exact ⟨(false), ((l0.length : Int)), (wrap64 ((t282.length : Int) - 1)), (by first | rfl | (simp; done) | (simp [*]; done)), (by first | rfl | (simp; done) | (simp [*]; done)), (by first | rfl | (simp; done) | (simp [*]; done)), H', ⟨Nat.le_refl _⟩, ⟨mvR HO_7⟩, ⟨mvR HO_9⟩, ⟨mvB HB⟩⟩
                 case round =>
                  as_aux_lemma =>
                  clear H'
                  try clear c1
                  try clear c2
                  try clear p2
                  try clear q2
                  try clear hx2
                  try clear qi2
                  try clear c3
                  try clear c5
                  try clear c5b0
                  try clear c5b1
                  try clear c6
                  try clear p6
                  try clear c8
                  try clear c14
                  try clear c14b0
                  try clear c14b1
                  try clear c15
                  try clear c16
                  try clear c16b0
                  try clear c16b1
                  try clear c16b2
                  try clear c22
                  try clear c22b0
                  try clear c22b1
                  try clear c22b2
                  try clear c24
                  try clear c24b0
                  try clear c24b1
                  try clear c26
                  try clear c27
                  try clear c27b0
                  try clear p28
                  try clear q28
                  try clear hx28
                  try clear qi28
                  try clear c30
                  try clear c30b0
                  try clear c32
                  try clear c32b0
                  try clear c33
                  try clear c33b0
                  try clear c34
                  try clear c34b0
                  try clear hx287_0
                  try clear hx288_0
                  try clear hx289_0
                  try clear p2
                  try clear p28
                  try clear p287
                  try clear p288
                  try clear p289
                  try clear p6
                  try clear q2
                  try clear q28
                  try clear q287
                  try clear q288
                  try clear q289
                  obtain ⟨x15_6, x16_6, x17_6, rfl, rfl, rfl, HA, HK6, HO_7, HO_9, HB⟩ := hrel
                  cases gk with
                  | zero => exact absurd HA.out (by simp [selvedgelaw21_BreaksFit.l1])
                  | succ k6 =>
                   have H := HA.out
                   clear HA
                   simp only [selvedgelaw21_BreaksFit.l1] at H
                   by_cases c38 : x17_6 ≥ 0
                   ·rw [if_pos c38] at H
                    have c38b0 : decide (0 ≤ x17_6) = true := decide_eq_true c38
                    clear c38
                    by_cases c39 : x15_6 = true
                    ·subst c39
                     have H1 : (if 0 ≤ x17_6 then (if x17_6 < (t282.length : Int) then (if (rd t282 x17_6) > x12_27 then (selvedgelaw21_BreaksFit.l1 k6 l0 a1 a2 t278 t282 x11_4 x12_27 t290 t291 true (rd t282 x17_6) (wrap64 (x17_6 - 1))) else (selvedgelaw21_BreaksFit.l1 k6 l0 a1 a2 t278 t282 x11_4 x12_27 t290 t291 true x16_6 (wrap64 (x17_6 - 1)))) else (none)) else (none)) = some r := by rw [if_pos rfl] at H; exact H
                     clear H
                     have H := H1
                     clear H1
                     by_cases c40 : 0 ≤ x17_6
                     ·rw [if_pos c40] at H
                      have c40b0 : decide (0 ≤ x17_6) = true := decide_eq_true c40
                      clear c40
                      by_cases c41 : x17_6 < (t282.length : Int)
                      ·rw [if_pos c41] at H
                       have c41b0 : decide (x17_6 < (t282.length : Int)) = true := decide_eq_true c41
                       clear c41
                       by_cases c42 : (rd t282 x17_6) > x12_27
                       ·rw [if_pos c42] at H
                        have c42b0 : decide (x12_27 < (rd t282 x17_6)) = true := decide_eq_true c42
                        clear c42
                        have H' := Aside0.mk H
                        clear H
                        obtain ⟨ad292, e292, hx292_0, p292, q292⟩ := atI (Kd.R_reads' HO_9.out).2.2 x17_6
                        cases e292
                        obtain ⟨ad293, e293, hx293_0, p293, q293⟩ := atI (Kd.R_reads' HO_9.out).2.2 x17_6
                        obtain rfl : ad292 = ad293 := (by injection e293)
                        go_wp2
                        repeat (go_quiet (fail); try go_wp2)
                        go_roundg k6
                        case measure => have := HJ3.out; have := HJ10.out; have := HJ20.out; have := HK4.out; have := HJ27.out; have := HK6.out; omega
                        case rel => exact ⟨(true), (rd t282 x17_6), (wrap64 (x17_6 - 1)), (by first | rfl | (simp; done) | (simp [*]; done)), (by first | rfl | (simp; done) | (simp [*]; done)), (by first | rfl | (simp; done) | (simp [*]; done)), H', ⟨by have := HJ3.out; have := HJ10.out; have := HJ20.out; have := HK4.out; have := HJ27.out; have := HK6.out; omega⟩, ⟨mvR HO_7⟩, ⟨mvR HO_9⟩, ⟨mvB HB⟩⟩
                       ·rw [if_neg c42] at H
                        have c42b0 : decide (x12_27 < (rd t282 x17_6)) = false := decide_eq_false c42
                        clear c42
                        have H' := Aside0.mk H
                        clear H
                        obtain ⟨ad292, e292, hx292_0, p292, q292⟩ := atI (Kd.R_reads' HO_9.out).2.2 x17_6
                        cases e292
                        go_wp2
                        repeat (go_quiet (fail); try go_wp2)
                        go_roundg k6
                        case measure => have := HJ3.out; have := HJ10.out; have := HJ20.out; have := HK4.out; have := HJ27.out; have := HK6.out; omega
                        case rel => exact ⟨(true), (x16_6), (wrap64 (x17_6 - 1)), (by first | rfl | (simp; done) | (simp [*]; done)), (by first | rfl | (simp; done) | (simp [*]; done)), (by first | rfl | (simp; done) | (simp [*]; done)), H', ⟨by have := HJ3.out; have := HJ10.out; have := HJ20.out; have := HK4.out; have := HJ27.out; have := HK6.out; omega⟩, ⟨mvR HO_7⟩, ⟨mvR HO_9⟩, ⟨mvB HB⟩⟩
                      ·rw [if_neg c41] at H
                       exact absurd H (by simp)
                     ·rw [if_neg c40] at H
                      exact absurd H (by simp)
                    ·replace c39 := Bool.eq_false_iff.mpr c39
                     subst c39
                     have H1 : (if 0 ≤ x17_6 then (if x17_6 < (t282.length : Int) then (if 0 ≤ x11_4 then (if x11_4 < (t278.length : Int) then (if (rd t282 x17_6) > (rd t278 x11_4) then (if (rd t282 x17_6) > x12_27 then (selvedgelaw21_BreaksFit.l1 k6 l0 a1 a2 t278 t282 x11_4 x12_27 t290 t291 (decide ((rd t282 x17_6) < x12_27)) (rd t282 x17_6) (wrap64 (x17_6 - 1))) else (selvedgelaw21_BreaksFit.l1 k6 l0 a1 a2 t278 t282 x11_4 x12_27 t290 t291 (decide ((rd t282 x17_6) < x12_27)) x16_6 (wrap64 (x17_6 - 1)))) else (if (rd t282 x17_6) > x12_27 then (selvedgelaw21_BreaksFit.l1 k6 l0 a1 a2 t278 t282 x11_4 x12_27 t290 t291 false (rd t282 x17_6) (wrap64 (x17_6 - 1))) else (selvedgelaw21_BreaksFit.l1 k6 l0 a1 a2 t278 t282 x11_4 x12_27 t290 t291 false x16_6 (wrap64 (x17_6 - 1))))) else (none)) else (none)) else (none)) else (none)) = some r := by rw [if_neg (show ¬ (false = true) by decide)] at H; exact H
                     clear H
                     have H := H1
                     clear H1
                     by_cases c43 : 0 ≤ x17_6
                     ·rw [if_pos c43] at H
                      have c43b0 : decide (0 ≤ x17_6) = true := decide_eq_true c43
                      clear c43
                      by_cases c44 : x17_6 < (t282.length : Int)
                      ·rw [if_pos c44] at H
                       have c44b0 : decide (x17_6 < (t282.length : Int)) = true := decide_eq_true c44
                       clear c44
                       by_cases c45 : 0 ≤ x11_4
                       ·rw [if_pos c45] at H
                        have c45b0 : decide (0 ≤ x11_4) = true := decide_eq_true c45
                        clear c45
                        by_cases c46 : x11_4 < (t278.length : Int)
                        ·rw [if_pos c46] at H
                         have c46b0 : decide (x11_4 < (t278.length : Int)) = true := decide_eq_true c46
                         clear c46
                         by_cases c47 : (rd t282 x17_6) > (rd t278 x11_4)
                         ·rw [if_pos c47] at H
                          have c47b0 : decide ((rd t278 x11_4) < (rd t282 x17_6)) = true := decide_eq_true c47
                          clear c47
                          by_cases c48 : (rd t282 x17_6) > x12_27
                          ·rw [if_pos c48] at H
                           have c48b0 : decide (x12_27 < (rd t282 x17_6)) = true := decide_eq_true c48
                           clear c48
                           have H' := Aside0.mk H
                           clear H
                           obtain ⟨ad294, e294, hx294_0, p294, q294⟩ := atI (Kd.R_reads' HO_9.out).2.2 x17_6
                           cases e294
                           obtain ⟨ad295, e295, hx295_0, p295, q295⟩ := atI (Kd.R_reads' HO_7.out).2.2 x11_4
                           obtain rfl : ad289 = ad295 := (by injection e295)
                           obtain ⟨ad296, e296, hx296_0, p296, q296⟩ := atI (Kd.R_reads' HO_9.out).2.2 x17_6
                           obtain rfl : ad294 = ad296 := (by injection e296)
                           obtain ⟨ad297, e297, hx297_0, p297, q297⟩ := atI (Kd.R_reads' HO_9.out).2.2 x17_6
                           obtain rfl : ad294 = ad297 := (by injection e297)
                           obtain ⟨ad298, e298, hx298_0, p298, q298⟩ := atI (Kd.R_reads' HO_9.out).2.2 x17_6
                           obtain rfl : ad294 = ad298 := (by injection e298)
                           go_wp2
                           repeat (go_quiet (fail); try go_wp2)
                           go_roundg k6
                           case measure => have := HJ3.out; have := HJ10.out; have := HJ20.out; have := HK4.out; have := HJ27.out; have := HK6.out; omega
                           case rel => exact ⟨(decide ((rd t282 x17_6) < x12_27)), (rd t282 x17_6), (wrap64 (x17_6 - 1)), (by first | rfl | (simp; done) | (simp [*]; done)), (by first | rfl | (simp; done) | (simp [*]; done)), (by first | rfl | (simp; done) | (simp [*]; done)), H', ⟨by have := HJ3.out; have := HJ10.out; have := HJ20.out; have := HK4.out; have := HJ27.out; have := HK6.out; omega⟩, ⟨mvR HO_7⟩, ⟨mvR HO_9⟩, ⟨mvB HB⟩⟩
                          ·rw [if_neg c48] at H
                           have c48b0 : decide (x12_27 < (rd t282 x17_6)) = false := decide_eq_false c48
                           clear c48
                           have H' := Aside0.mk H
                           clear H
                           obtain ⟨ad294, e294, hx294_0, p294, q294⟩ := atI (Kd.R_reads' HO_9.out).2.2 x17_6
                           cases e294
                           obtain ⟨ad295, e295, hx295_0, p295, q295⟩ := atI (Kd.R_reads' HO_7.out).2.2 x11_4
                           obtain rfl : ad289 = ad295 := (by injection e295)
                           obtain ⟨ad296, e296, hx296_0, p296, q296⟩ := atI (Kd.R_reads' HO_9.out).2.2 x17_6
                           obtain rfl : ad294 = ad296 := (by injection e296)
                           obtain ⟨ad297, e297, hx297_0, p297, q297⟩ := atI (Kd.R_reads' HO_9.out).2.2 x17_6
                           obtain rfl : ad294 = ad297 := (by injection e297)
                           go_wp2
                           repeat (go_quiet (fail); try go_wp2)
                           go_roundg k6
                           case measure => have := HJ3.out; have := HJ10.out; have := HJ20.out; have := HK4.out; have := HJ27.out; have := HK6.out; omega
                           case rel => exact ⟨(decide ((rd t282 x17_6) < x12_27)), (x16_6), (wrap64 (x17_6 - 1)), (by first | rfl | (simp; done) | (simp [*]; done)), (by first | rfl | (simp; done) | (simp [*]; done)), (by first | rfl | (simp; done) | (simp [*]; done)), H', ⟨by have := HJ3.out; have := HJ10.out; have := HJ20.out; have := HK4.out; have := HJ27.out; have := HK6.out; omega⟩, ⟨mvR HO_7⟩, ⟨mvR HO_9⟩, ⟨mvB HB⟩⟩
                         ·rw [if_neg c47] at H
                          have c47b0 : decide ((rd t278 x11_4) < (rd t282 x17_6)) = false := decide_eq_false c47
                          clear c47
                          by_cases c49 : (rd t282 x17_6) > x12_27
                          ·rw [if_pos c49] at H
                           have c49b0 : decide (x12_27 < (rd t282 x17_6)) = true := decide_eq_true c49
                           clear c49
                           have H' := Aside0.mk H
                           clear H
                           obtain ⟨ad294, e294, hx294_0, p294, q294⟩ := atI (Kd.R_reads' HO_9.out).2.2 x17_6
                           cases e294
                           obtain ⟨ad295, e295, hx295_0, p295, q295⟩ := atI (Kd.R_reads' HO_7.out).2.2 x11_4
                           obtain rfl : ad289 = ad295 := (by injection e295)
                           obtain ⟨ad299, e299, hx299_0, p299, q299⟩ := atI (Kd.R_reads' HO_9.out).2.2 x17_6
                           obtain rfl : ad294 = ad299 := (by injection e299)
                           obtain ⟨ad300, e300, hx300_0, p300, q300⟩ := atI (Kd.R_reads' HO_9.out).2.2 x17_6
                           obtain rfl : ad294 = ad300 := (by injection e300)
                           go_wp2
                           repeat (go_quiet (fail); try go_wp2)
                           go_roundg k6
                           case measure => have := HJ3.out; have := HJ10.out; have := HJ20.out; have := HK4.out; have := HJ27.out; have := HK6.out; omega
                           case rel => exact ⟨(false), (rd t282 x17_6), (wrap64 (x17_6 - 1)), (by first | rfl | (simp; done) | (simp [*]; done)), (by first | rfl | (simp; done) | (simp [*]; done)), (by first | rfl | (simp; done) | (simp [*]; done)), H', ⟨by have := HJ3.out; have := HJ10.out; have := HJ20.out; have := HK4.out; have := HJ27.out; have := HK6.out; omega⟩, ⟨mvR HO_7⟩, ⟨mvR HO_9⟩, ⟨mvB HB⟩⟩
                          ·rw [if_neg c49] at H
                           have c49b0 : decide (x12_27 < (rd t282 x17_6)) = false := decide_eq_false c49
                           clear c49
                           have H' := Aside0.mk H
                           clear H
                           obtain ⟨ad294, e294, hx294_0, p294, q294⟩ := atI (Kd.R_reads' HO_9.out).2.2 x17_6
                           cases e294
                           obtain ⟨ad295, e295, hx295_0, p295, q295⟩ := atI (Kd.R_reads' HO_7.out).2.2 x11_4
                           obtain rfl : ad289 = ad295 := (by injection e295)
                           obtain ⟨ad299, e299, hx299_0, p299, q299⟩ := atI (Kd.R_reads' HO_9.out).2.2 x17_6
                           obtain rfl : ad294 = ad299 := (by injection e299)
                           go_wp2
                           repeat (go_quiet (fail); try go_wp2)
                           go_roundg k6
                           case measure => have := HJ3.out; have := HJ10.out; have := HJ20.out; have := HK4.out; have := HJ27.out; have := HK6.out; omega
                           case rel => exact ⟨(false), (x16_6), (wrap64 (x17_6 - 1)), (by first | rfl | (simp; done) | (simp [*]; done)), (by first | rfl | (simp; done) | (simp [*]; done)), (by first | rfl | (simp; done) | (simp [*]; done)), H', ⟨by have := HJ3.out; have := HJ10.out; have := HJ20.out; have := HK4.out; have := HJ27.out; have := HK6.out; omega⟩, ⟨mvR HO_7⟩, ⟨mvR HO_9⟩, ⟨mvB HB⟩⟩
                        ·rw [if_neg c46] at H
                         exact absurd H (by simp)
                       ·rw [if_neg c45] at H
                        exact absurd H (by simp)
                      ·rw [if_neg c44] at H
                       exact absurd H (by simp)
                     ·rw [if_neg c43] at H
                      exact absurd H (by simp)
                   ·rw [if_neg c38] at H
                    have c38b0 : decide (0 ≤ x17_6) = false := decide_eq_false c38
                    clear c38
                    have HC50 := Aside0.mk H
                    clear H
                    go_upto_region 23 with (fail)
                    repeat (go_quiet (fail); go_upto_region 23 with (fail))
                    go_cut [154] (fun v154 wc => ∃ (kq : Nat) (x154_49 : Bool), v154 = .bool x154_49 ∧ Aside0 (selvedgelaw21_BreaksFit.j6 kq l0 a1 a2 t278 t282 x11_4 x12_27 x16_6 x154_49 = some r) ∧ Aside0 (kq ≤ k6) ∧ Aside0 (Kd.R (Kd.int .i64) 3 wc w.heap.size (fun k_ => some k_ ≠ ((.slice Ao37 t282.length co37) : Value).ownBlock) (.slice (some ad289) t278.length co29) t278) ∧ Aside0 (Kd.R (Kd.int .i64) 3 wc w.heap.size (fun k_ => some k_ ≠ ((.slice (some ad289) t278.length co29) : Value).ownBlock) (.slice Ao37 t282.length co37) t282) ∧ Aside0 (Below w.heap.size w wc))
                    case first =>
                     as_aux_lemma =>
                     have H := HC50.out
                     clear HC50
                     by_cases c51 : t291 = 0
                     ·rw [if_pos c51] at H
                      have c51b0 : (t291 == 0) = true := beq_iff_eq.mpr c51
                      have c51b1 : (t291 != 0) = false := bne_eq_false_iff_eq.mpr c51
                      clear c51
                      (first | rw [c51b0] | (simp only [i64_w, i32_w]; rw [c51b0]) | skip)
                      by_cases c52 : t290 > a1
                      ·rw [if_pos c52] at H
                       have c52b0 : decide (a1 < t290) = true := decide_eq_true c52
                       clear c52
                       by_cases c53 : x15_6 = true
                       ·subst c53
                        have H1 : (selvedgelaw21_BreaksFit.j6 k6 l0 a1 a2 t278 t282 x11_4 x12_27 x16_6 true) = some r := by rw [if_pos rfl] at H; exact H
                        clear H
                        have H := H1
                        clear H1
                        have H' := Aside0.mk H
                        clear H
                        go_wp2
                        repeat (go_quiet (fail); try go_wp2)
                        go_meet
                        case rel => exact ⟨_, (true), (by first | rfl | (simp; done) | (simp [*]; done)), H', ⟨by have := HJ3.out; have := HJ10.out; have := HJ20.out; have := HK4.out; have := HJ27.out; have := HK6.out; first | omega | exact Nat.le_refl _⟩, ⟨mvR HO_7⟩, ⟨mvR HO_9⟩, ⟨mvB HB⟩⟩
                       ·replace c53 := Bool.eq_false_iff.mpr c53
                        subst c53
                        have H1 : (if x11_4 > 0 then (if 0 ≤ x11_4 then (if x11_4 < (t278.length : Int) then (if 0 ≤ (wrap64 (x11_4 - 1)) then (if (wrap64 (x11_4 - 1)) < (t278.length : Int) then (selvedgelaw21_BreaksFit.j6 k6 l0 a1 a2 t278 t282 x11_4 x12_27 x16_6 (decide ((rd t278 x11_4) ≤ (rd t278 (wrap64 (x11_4 - 1)))))) else (none)) else (none)) else (none)) else (none)) else (selvedgelaw21_BreaksFit.j6 k6 l0 a1 a2 t278 t282 x11_4 x12_27 x16_6 false)) = some r := by rw [if_neg (show ¬ (false = true) by decide)] at H; exact H
                        clear H
                        have H := H1
                        clear H1
                        by_cases c54 : x11_4 > 0
                        ·rw [if_pos c54] at H
                         have c54b0 : decide (0 < x11_4) = true := decide_eq_true c54
                         clear c54
                         by_cases c55 : 0 ≤ x11_4
                         ·rw [if_pos c55] at H
                          have c55b0 : decide (0 ≤ x11_4) = true := decide_eq_true c55
                          clear c55
                          by_cases c56 : x11_4 < (t278.length : Int)
                          ·rw [if_pos c56] at H
                           have c56b0 : decide (x11_4 < (t278.length : Int)) = true := decide_eq_true c56
                           clear c56
                           obtain ⟨ji57, hji57⟩ : ∃ j_ : Int, (wrap64 (x11_4 - 1)) = j_ := ⟨_, rfl⟩
                           replace H : (if 0 ≤ (ji57) then (if (ji57) < (t278.length : Int) then (selvedgelaw21_BreaksFit.j6 k6 l0 a1 a2 t278 t282 x11_4 x12_27 x16_6 (decide ((rd t278 x11_4) ≤ (rd t278 (ji57))))) else (none)) else (none)) = some r := by first | (rw [hji57] at H; exact H) | (simp only [hji57] at H ⊢; exact H)
                           have hji57w : (IntKind.i64.wrap (x11_4 - 1)) = ji57 := (i64_w _).trans hji57
                           by_cases c58 : 0 ≤ (ji57)
                           ·rw [if_pos c58] at H
                            have c58b0 : decide (0 ≤ (ji57)) = true := decide_eq_true c58
                            clear c58
                            by_cases c59 : (ji57) < (t278.length : Int)
                            ·rw [if_pos c59] at H
                             have c59b0 : decide ((ji57) < (t278.length : Int)) = true := decide_eq_true c59
                             clear c59
                             have H' := Aside0.mk H
                             clear H
                             obtain ⟨ad301, e301, hx301_0, p301, q301⟩ := atI (Kd.R_reads' HO_7.out).2.2 x11_4
                             obtain rfl : ad289 = ad301 := (by injection e301)
                             obtain ⟨ad302, e302, hx302_0, p302, q302⟩ := atI (Kd.R_reads' HO_7.out).2.2 (ji57)
                             obtain rfl : ad289 = ad302 := (by injection e302)
                             go_wp2
                             repeat (go_quiet (fail); try go_wp2)
                             go_meet
                             case rel => exact ⟨_, (decide ((rd t278 x11_4) ≤ (rd t278 (ji57)))), (by first | rfl | (simp; done) | (simp only [← hji57] <;> (first | rfl | simp)) | (simp [*]; done)), H', ⟨by have := HJ3.out; have := HJ10.out; have := HJ20.out; have := HK4.out; have := HJ27.out; have := HK6.out; first | omega | exact Nat.le_refl _⟩, ⟨mvR HO_7⟩, ⟨mvR HO_9⟩, ⟨mvB HB⟩⟩
                            ·rw [if_neg c59] at H
                             exact absurd H (by simp)
                           ·rw [if_neg c58] at H
                            exact absurd H (by simp)
                          ·rw [if_neg c56] at H
                           exact absurd H (by simp)
                         ·rw [if_neg c55] at H
                          exact absurd H (by simp)
                        ·rw [if_neg c54] at H
                         have c54b0 : decide (0 < x11_4) = false := decide_eq_false c54
                         clear c54
                         have H' := Aside0.mk H
                         clear H
                         go_wp2
                         repeat (go_quiet (fail); try go_wp2)
                         go_meet
                         case rel => exact ⟨_, (false), (by first | rfl | (simp; done) | (simp [*]; done)), H', ⟨by have := HJ3.out; have := HJ10.out; have := HJ20.out; have := HK4.out; have := HJ27.out; have := HK6.out; first | omega | exact Nat.le_refl _⟩, ⟨mvR HO_7⟩, ⟨mvR HO_9⟩, ⟨mvB HB⟩⟩
                      ·rw [if_neg c52] at H
                       have c52b0 : decide (a1 < t290) = false := decide_eq_false c52
                       clear c52
                       by_cases c60 : x11_4 > 0
                       ·rw [if_pos c60] at H
                        have c60b0 : decide (0 < x11_4) = true := decide_eq_true c60
                        clear c60
                        by_cases c61 : 0 ≤ x11_4
                        ·rw [if_pos c61] at H
                         have c61b0 : decide (0 ≤ x11_4) = true := decide_eq_true c61
                         clear c61
                         by_cases c62 : x11_4 < (t278.length : Int)
                         ·rw [if_pos c62] at H
                          have c62b0 : decide (x11_4 < (t278.length : Int)) = true := decide_eq_true c62
                          clear c62
                          obtain ⟨ji63, hji63⟩ : ∃ j_ : Int, (wrap64 (x11_4 - 1)) = j_ := ⟨_, rfl⟩
                          replace H : (if 0 ≤ (ji63) then (if (ji63) < (t278.length : Int) then (selvedgelaw21_BreaksFit.j6 k6 l0 a1 a2 t278 t282 x11_4 x12_27 x16_6 (decide ((rd t278 x11_4) ≤ (rd t278 (ji63))))) else (none)) else (none)) = some r := by first | (rw [hji63] at H; exact H) | (simp only [hji63] at H ⊢; exact H)
                          have hji63w : (IntKind.i64.wrap (x11_4 - 1)) = ji63 := (i64_w _).trans hji63
                          by_cases c64 : 0 ≤ (ji63)
                          ·rw [if_pos c64] at H
                           have c64b0 : decide (0 ≤ (ji63)) = true := decide_eq_true c64
                           clear c64
                           by_cases c65 : (ji63) < (t278.length : Int)
                           ·rw [if_pos c65] at H
                            have c65b0 : decide ((ji63) < (t278.length : Int)) = true := decide_eq_true c65
                            clear c65
                            have H' := Aside0.mk H
                            clear H
                            obtain ⟨ad303, e303, hx303_0, p303, q303⟩ := atI (Kd.R_reads' HO_7.out).2.2 x11_4
                            obtain rfl : ad289 = ad303 := (by injection e303)
                            obtain ⟨ad304, e304, hx304_0, p304, q304⟩ := atI (Kd.R_reads' HO_7.out).2.2 (ji63)
                            obtain rfl : ad289 = ad304 := (by injection e304)
                            go_wp2
                            repeat (go_quiet (fail); try go_wp2)
                            go_meet
                            case rel => exact ⟨_, (decide ((rd t278 x11_4) ≤ (rd t278 (ji63)))), (by first | rfl | (simp; done) | (simp only [← hji63] <;> (first | rfl | simp)) | (simp [*]; done)), H', ⟨by have := HJ3.out; have := HJ10.out; have := HJ20.out; have := HK4.out; have := HJ27.out; have := HK6.out; first | omega | exact Nat.le_refl _⟩, ⟨mvR HO_7⟩, ⟨mvR HO_9⟩, ⟨mvB HB⟩⟩
                           ·rw [if_neg c65] at H
                            exact absurd H (by simp)
                          ·rw [if_neg c64] at H
                           exact absurd H (by simp)
                         ·rw [if_neg c62] at H
                          exact absurd H (by simp)
                        ·rw [if_neg c61] at H
                         exact absurd H (by simp)
                       ·rw [if_neg c60] at H
                        have c60b0 : decide (0 < x11_4) = false := decide_eq_false c60
                        clear c60
                        have H' := Aside0.mk H
                        clear H
                        go_wp2
                        repeat (go_quiet (fail); try go_wp2)
                        go_meet
                        case rel => exact ⟨_, (false), (by first | rfl | (simp; done) | (simp [*]; done)), H', ⟨by have := HJ3.out; have := HJ10.out; have := HJ20.out; have := HK4.out; have := HJ27.out; have := HK6.out; first | omega | exact Nat.le_refl _⟩, ⟨mvR HO_7⟩, ⟨mvR HO_9⟩, ⟨mvB HB⟩⟩
                     ·rw [if_neg c51] at H
                      have c51b0 : (t291 == 0) = false := beq_eq_false_iff_ne.mpr c51
                      have c51b1 : (t291 != 0) = true := bne_iff_ne.mpr c51
                      (first | rw [c51b0] | (simp only [i64_w, i32_w]; rw [c51b0]) | skip)
                      have H' := Aside0.mk H
                      clear H
                      go_wp2
                      repeat (go_quiet (fail); try go_wp2)
                      go_meet
                      case rel => exact ⟨_, (true), (by first | rfl | (simp; done) | (simp [*]; done)), H', ⟨by have := HJ3.out; have := HJ10.out; have := HJ20.out; have := HK4.out; have := HJ27.out; have := HK6.out; first | omega | exact Nat.le_refl _⟩, ⟨mvR HO_7⟩, ⟨mvR HO_9⟩, ⟨mvB HB⟩⟩
                    case rest =>
                     as_aux_lemma =>
                     clear HC50
                     try clear c1
                     try clear c2
                     try clear p2
                     try clear q2
                     try clear hx2
                     try clear qi2
                     try clear c3
                     try clear p3
                     try clear q3
                     try clear hx3
                     try clear c4
                     try clear c5
                     try clear c5b0
                     try clear c5b1
                     try clear c6
                     try clear p6
                     try clear c8
                     try clear c14
                     try clear c14b0
                     try clear c14b1
                     try clear c15
                     try clear c16
                     try clear c16b0
                     try clear c16b1
                     try clear c16b2
                     try clear c22
                     try clear c22b0
                     try clear c22b1
                     try clear c22b2
                     try clear c24
                     try clear c24b0
                     try clear c24b1
                     try clear c26
                     try clear c27
                     try clear c27b0
                     try clear p28
                     try clear q28
                     try clear hx28
                     try clear qi28
                     try clear p29
                     try clear q29
                     try clear hx29
                     try clear c30
                     try clear c30b0
                     try clear p30
                     try clear q30
                     try clear hx30
                     try clear c32
                     try clear c32b0
                     try clear c33
                     try clear c33b0
                     try clear c34
                     try clear c34b0
                     try clear c38
                     try clear c38b0
                     try clear c39
                     try clear c40
                     try clear c40b0
                     try clear c41
                     try clear c41b0
                     try clear c42
                     try clear c42b0
                     try clear c43
                     try clear c43b0
                     try clear c44
                     try clear c44b0
                     try clear c45
                     try clear c45b0
                     try clear c46
                     try clear c46b0
                     try clear c47
                     try clear c47b0
                     try clear c48
                     try clear c48b0
                     try clear c49
                     try clear c49b0
                     try clear c51
                     try clear c51b0
                     try clear c51b1
                     try clear c52
                     try clear c52b0
                     try clear c53
                     try clear c54
                     try clear c54b0
                     try clear c55
                     try clear c55b0
                     try clear c56
                     try clear c56b0
                     try clear c58
                     try clear c58b0
                     try clear c59
                     try clear c59b0
                     try clear c60
                     try clear c60b0
                     try clear c61
                     try clear c61b0
                     try clear c62
                     try clear c62b0
                     try clear c64
                     try clear c64b0
                     try clear p64
                     try clear c65
                     try clear c65b0
                     try clear hx287_0
                     try clear hx288_0
                     try clear hx289_0
                     try clear hx292_0
                     try clear hx293_0
                     try clear hx294_0
                     try clear hx295_0
                     try clear hx296_0
                     try clear hx297_0
                     try clear hx298_0
                     try clear hx299_0
                     try clear hx300_0
                     try clear hx301_0
                     try clear hx302_0
                     try clear hx303_0
                     try clear hx304_0
                     try clear p2
                     try clear p28
                     try clear p287
                     try clear p288
                     try clear p289
                     try clear p292
                     try clear p293
                     try clear p294
                     try clear p295
                     try clear p296
                     try clear p297
                     try clear p298
                     try clear p299
                     try clear p300
                     try clear p301
                     try clear p302
                     try clear p303
                     try clear p304
                     try clear p6
                     try clear q2
                     try clear q28
                     try clear q287
                     try clear q288
                     try clear q289
                     try clear q292
                     try clear q293
                     try clear q294
                     try clear q295
                     try clear q296
                     try clear q297
                     try clear q298
                     try clear q299
                     try clear q300
                     try clear q301
                     try clear q302
                     try clear q303
                     try clear q304
                     obtain ⟨kq, x154_49, rfl, HA, HJ49, HO_7, HO_9, HB⟩ := hcut
                     cases kq with
                     | zero => exact absurd HA.out (by simp [selvedgelaw21_BreaksFit.j6])
                     | succ kj49 =>
                      have H := HA.out
                      clear HA
                      simp only [selvedgelaw21_BreaksFit.j6] at H
                      by_cases c66 : x154_49 = true
                      ·subst c66
                       have H1 : (some false) = some r := by rw [if_pos rfl] at H; exact H
                       clear H
                       have H := H1
                       clear H1
                       obtain rfl := Option.some.inj H
                       go_wp2
                       repeat (go_quiet (fail); try go_wp2)
                       go_ret
                       exact ⟨by first | rfl | (simp [errW_none, errW_some] <;> rfl) | (simp [*, errW_none, errW_some] <;> rfl), mvB HB⟩
                      ·replace c66 := Bool.eq_false_iff.mpr c66
                       subst c66
                       have H1 : (if x12_27 < (l0.length : Int) then (if 0 ≤ (wrap64 (x12_27 - 1)) then (if (wrap64 (x12_27 - 1)) < (l0.length : Int) then (selvedgelaw21_BreaksFit.j7 kj49 l0 a1 a2 t278 t282 x11_4 x16_6 (((rd_T36 l0 (wrap64 (x12_27 - 1))).f0) != 8232)) else (none)) else (none)) else (selvedgelaw21_BreaksFit.j7 kj49 l0 a1 a2 t278 t282 x11_4 x16_6 false)) = some r := by rw [if_neg (show ¬ (false = true) by decide)] at H; exact H
                       clear H
                       have H := H1
                       clear H1
                       have HC67 := Aside0.mk H
                       clear H
                       go_upto_region 25 with (fail)
                       repeat (go_quiet (fail); go_upto_region 25 with (fail))
                       go_cut [167] (fun v167 wc => ∃ (kq : Nat) (x167_66 : Bool), v167 = .bool x167_66 ∧ Aside0 (selvedgelaw21_BreaksFit.j7 kq l0 a1 a2 t278 t282 x11_4 x16_6 x167_66 = some r) ∧ Aside0 (kq ≤ kj49) ∧ Aside0 (Kd.R (Kd.int .i64) 3 wc w.heap.size (fun k_ => some k_ ≠ ((.slice Ao37 t282.length co37) : Value).ownBlock) (.slice (some ad289) t278.length co29) t278) ∧ Aside0 (Kd.R (Kd.int .i64) 3 wc w.heap.size (fun k_ => some k_ ≠ ((.slice (some ad289) t278.length co29) : Value).ownBlock) (.slice Ao37 t282.length co37) t282) ∧ Aside0 (Below w.heap.size w wc))
                       case first =>
                        as_aux_lemma =>
                        have H := HC67.out
                        clear HC67
                        by_cases c68 : x12_27 < (l0.length : Int)
                        ·rw [if_pos c68] at H
                         have c68b0 : decide (x12_27 < (l0.length : Int)) = true := decide_eq_true c68
                         clear c68
                         (first | rw [c68b0] | (simp only [i64_w, i32_w]; rw [c68b0]) | skip)
                         obtain ⟨ji69, hji69⟩ : ∃ j_ : Int, (wrap64 (x12_27 - 1)) = j_ := ⟨_, rfl⟩
                         replace H : (if 0 ≤ (ji69) then (if (ji69) < (l0.length : Int) then (selvedgelaw21_BreaksFit.j7 kj49 l0 a1 a2 t278 t282 x11_4 x16_6 (((rd_T36 l0 (ji69)).f0) != 8232)) else (none)) else (none)) = some r := by first | (rw [hji69] at H; exact H) | (simp only [hji69] at H ⊢; exact H)
                         have hji69w : (IntKind.i64.wrap (x12_27 - 1)) = ji69 := (i64_w _).trans hji69
                         by_cases c70 : 0 ≤ (ji69)
                         ·rw [if_pos c70] at H
                          have c70b0 : decide (0 ≤ (ji69)) = true := decide_eq_true c70
                          clear c70
                          by_cases c71 : (ji69) < (l0.length : Int)
                          ·rw [if_pos c71] at H
                           have c71b0 : decide ((ji69) < (l0.length : Int)) = true := decide_eq_true c71
                           clear c71
                           have H' := Aside0.mk H
                           clear H
                           have p305 := dT (0 ≤ ((ji69) : Int))
                           have q305 := dT ((ji69) < (l0.length : Int))
                           obtain ⟨ad305, e305, hx305_0, hx305_1, hx305_2, hx305_3⟩ := at_T36 HR0.out (ji69) p305 q305
                           cases e305
                           replace hx305_0 := (HB.out.cell (World.block_lt_of_cell? w _ hx305_0)).trans hx305_0
                           replace hx305_1 := (HB.out.cell (World.block_lt_of_cell? w _ hx305_1)).trans hx305_1
                           replace hx305_2 := (HB.out.cell (World.block_lt_of_cell? w _ hx305_2)).trans hx305_2
                           replace hx305_3 := (HB.out.cell (World.block_lt_of_cell? w _ hx305_3)).trans hx305_3
                           replace p305 := eq_true p305
                           replace q305 := eq_true q305
                           go_wp2
                           repeat (go_quiet (fail); try go_wp2)
                           go_meet
                           case rel => exact ⟨_, ((((rd_T36 l0 (ji69)).f0) != 8232)), (by first | rfl | (simp; done) | (simp only [← hji69] <;> (first | rfl | simp)) | (simp [*]; done)), H', ⟨by have := HJ3.out; have := HJ10.out; have := HJ20.out; have := HK4.out; have := HJ27.out; have := HK6.out; have := HJ49.out; first | omega | exact Nat.le_refl _⟩, ⟨mvR HO_7⟩, ⟨mvR HO_9⟩, ⟨mvB HB⟩⟩
                          ·rw [if_neg c71] at H
                           exact absurd H (by simp)
                         ·rw [if_neg c70] at H
                          exact absurd H (by simp)
                        ·rw [if_neg c68] at H
                         have c68b0 : decide (x12_27 < (l0.length : Int)) = false := decide_eq_false c68
                         clear c68
                         (first | rw [c68b0] | (simp only [i64_w, i32_w]; rw [c68b0]) | skip)
                         have H' := Aside0.mk H
                         clear H
                         go_wp2
                         repeat (go_quiet (fail); try go_wp2)
                         go_meet
                         case rel => exact ⟨_, (false), (by first | rfl | (simp; done) | (simp [*]; done)), H', ⟨by have := HJ3.out; have := HJ10.out; have := HJ20.out; have := HK4.out; have := HJ27.out; have := HK6.out; have := HJ49.out; first | omega | exact Nat.le_refl _⟩, ⟨mvR HO_7⟩, ⟨mvR HO_9⟩, ⟨mvB HB⟩⟩
                       case rest =>
                        as_aux_lemma =>
                        clear HC67
                        try clear c1
                        try clear c2
                        try clear p2
                        try clear q2
                        try clear hx2
                        try clear qi2
                        try clear c3
                        try clear p3
                        try clear q3
                        try clear hx3
                        try clear c4
                        try clear c5
                        try clear c5b0
                        try clear c5b1
                        try clear c6
                        try clear p6
                        try clear c7
                        try clear c8
                        try clear c14
                        try clear c14b0
                        try clear c14b1
                        try clear c15
                        try clear c16
                        try clear c16b0
                        try clear c16b1
                        try clear c16b2
                        try clear c22
                        try clear c22b0
                        try clear c22b1
                        try clear c22b2
                        try clear c24
                        try clear c24b0
                        try clear c24b1
                        try clear c26
                        try clear c27
                        try clear c27b0
                        try clear p28
                        try clear q28
                        try clear hx28
                        try clear qi28
                        try clear p29
                        try clear q29
                        try clear hx29
                        try clear c30
                        try clear c30b0
                        try clear p30
                        try clear q30
                        try clear hx30
                        try clear c32
                        try clear c32b0
                        try clear c33
                        try clear c33b0
                        try clear c34
                        try clear c34b0
                        try clear c38
                        try clear c38b0
                        try clear c39
                        try clear c40
                        try clear c40b0
                        try clear c41
                        try clear c41b0
                        try clear c42
                        try clear c42b0
                        try clear c43
                        try clear c43b0
                        try clear c44
                        try clear c44b0
                        try clear c45
                        try clear c45b0
                        try clear c46
                        try clear c46b0
                        try clear c47
                        try clear c47b0
                        try clear c48
                        try clear c48b0
                        try clear c49
                        try clear c49b0
                        try clear c51
                        try clear c51b0
                        try clear c51b1
                        try clear c52
                        try clear c52b0
                        try clear c53
                        try clear c54
                        try clear c54b0
                        try clear c55
                        try clear c55b0
                        try clear c56
                        try clear c56b0
                        try clear c58
                        try clear c58b0
                        try clear c59
                        try clear c59b0
                        try clear c60
                        try clear c60b0
                        try clear c61
                        try clear c61b0
                        try clear c62
                        try clear c62b0
                        try clear c64
                        try clear c64b0
                        try clear p64
                        try clear c65
                        try clear c65b0
                        try clear c66
                        try clear c68
                        try clear c68b0
                        try clear c70
                        try clear c70b0
                        try clear c71
                        try clear c71b0
                        try clear hx287_0
                        try clear hx288_0
                        try clear hx289_0
                        try clear hx292_0
                        try clear hx293_0
                        try clear hx294_0
                        try clear hx295_0
                        try clear hx296_0
                        try clear hx297_0
                        try clear hx298_0
                        try clear hx299_0
                        try clear hx300_0
                        try clear hx301_0
                        try clear hx302_0
                        try clear hx303_0
                        try clear hx304_0
                        try clear hx305_0
                        try clear hx305_1
                        try clear hx305_2
                        try clear hx305_3
                        try clear p2
                        try clear p28
                        try clear p287
                        try clear p288
                        try clear p289
                        try clear p29
                        try clear p292
                        try clear p293
                        try clear p294
                        try clear p295
                        try clear p296
                        try clear p297
                        try clear p298
                        try clear p299
                        try clear p3
                        try clear p30
                        try clear p300
                        try clear p301
                        try clear p302
                        try clear p303
                        try clear p304
                        try clear p305
                        try clear p6
                        try clear p64
                        try clear q2
                        try clear q28
                        try clear q287
                        try clear q288
                        try clear q289
                        try clear q29
                        try clear q292
                        try clear q293
                        try clear q294
                        try clear q295
                        try clear q296
                        try clear q297
                        try clear q298
                        try clear q299
                        try clear q3
                        try clear q30
                        try clear q300
                        try clear q301
                        try clear q302
                        try clear q303
                        try clear q304
                        try clear q305
                        obtain ⟨kq, x167_66, rfl, HA, HJ66, HO_7, HO_9, HB⟩ := hcut
                        cases kq with
                        | zero => exact absurd HA.out (by simp [selvedgelaw21_BreaksFit.j7])
                        | succ kj66 =>
                         have H := HA.out
                         clear HA
                         simp only [selvedgelaw21_BreaksFit.j7] at H
                         by_cases c72 : x167_66 = true
                         ·subst c72
                          have H1 : (if 0 ≤ x11_4 then (if x11_4 < (t278.length : Int) then ((breaks_Measure.f kj66 l0 (rd t278 x11_4) x16_6).bind fun bt307 => (if bt307.2 = 0 then (if bt307.1 ≤ a1 then (some false) else (selvedgelaw21_BreaksFit.l0 kj66 l0 a1 a2 t278 t282 (wrap64 (x11_4 + 1)))) else (some false))) else (none)) else (none)) = some r := by rw [if_pos rfl] at H; exact H
                          clear H
                          have H := H1
                          clear H1
                          by_cases c73 : 0 ≤ x11_4
                          ·rw [if_pos c73] at H
                           have c73b0 : decide (0 ≤ x11_4) = true := decide_eq_true c73
                           clear c73
                           by_cases c74 : x11_4 < (t278.length : Int)
                           ·rw [if_pos c74] at H
                            have c74b0 : decide (x11_4 < (t278.length : Int)) = true := decide_eq_true c74
                            clear c74
                            replace H := Option.bind_eq_some_iff.mp H
                            obtain ⟨⟨t307, t308⟩, A750, H⟩ := H
                            replace H : (if t308 = 0 then (if t307 ≤ a1 then (some false) else (selvedgelaw21_BreaksFit.l0 kj66 l0 a1 a2 t278 t282 (wrap64 (x11_4 + 1)))) else (some false)) = some r := H
                            have A75 := Aside0.mk A750
                            clear A750
                            by_cases c76 : t308 = 0
                            ·rw [if_pos c76] at H
                             have c76b0 : (t308 == 0) = true := beq_iff_eq.mpr c76
                             have c76b1 : (t308 != 0) = false := bne_eq_false_iff_eq.mpr c76
                             clear c76
                             by_cases c77 : t307 ≤ a1
                             ·rw [if_pos c77] at H
                              have c77b0 : decide (t307 ≤ a1) = true := decide_eq_true c77
                              clear c77
                              obtain rfl := Option.some.inj H
                              obtain ⟨ad306, e306, hx306_0, p306, q306⟩ := atI (Kd.R_reads' HO_7.out).2.2 x11_4
                              obtain rfl : ad289 = ad306 := (by injection e306)
                              go_wp2_with (first | (go_at_call 11; (with_reducible refine (breaks_Measure.calls kj66 _ _ l0 (rd t278 x11_4) x16_6 t307 t308 _ ?side1 ?side2 A75.out).mono ?_); (case side1 => repeat (first | exact (Kd.C_below HR0.out HB.out) | (with_reducible refine Kd.C_alloc ?_ _) | (with_reducible refine Kd.C_drewN ?_ _) | (with_reducible refine Kd.C_drew ?_))); (case side2 => exact HC0.out); rintro e w78 ⟨rfl, hb⟩; have n0_ := Aside0.mk (Kd.R_below (mvR HO_7) hb); have n1_ := Aside0.mk (Kd.R_below (mvR HO_9) hb); have n2_ := Aside0.mk (below_step (mvB HB) hb); clear HO_7; clear HO_9; clear HB; have HO_7 := n0_; have HO_9 := n1_; have HB := n2_; clear n0_ n1_ n2_; (try clear hb); (try clear hb2); (try clear hk); (try clear hi)))
                              repeat (go_quiet (fail))
                              go_ret
                              exact ⟨by first | rfl | (simp [errW_none, errW_some] <;> rfl) | (simp [*, errW_none, errW_some] <;> rfl), mvB HB⟩
                             ·rw [if_neg c77] at H
                              have c77b0 : decide (t307 ≤ a1) = false := decide_eq_false c77
                              clear c77
                              have H' := Aside0.mk H
                              clear H
                              obtain ⟨ad306, e306, hx306_0, p306, q306⟩ := atI (Kd.R_reads' HO_7.out).2.2 x11_4
                              obtain rfl : ad289 = ad306 := (by injection e306)
                              go_wp2_with (first | (go_at_call 11; (with_reducible refine (breaks_Measure.calls kj66 _ _ l0 (rd t278 x11_4) x16_6 t307 t308 _ ?side1 ?side2 A75.out).mono ?_); (case side1 => repeat (first | exact (Kd.C_below HR0.out HB.out) | (with_reducible refine Kd.C_alloc ?_ _) | (with_reducible refine Kd.C_drewN ?_ _) | (with_reducible refine Kd.C_drew ?_))); (case side2 => exact HC0.out); rintro e w79 ⟨rfl, hb⟩; have n0_ := Aside0.mk (Kd.R_below (mvR HO_7) hb); have n1_ := Aside0.mk (Kd.R_below (mvR HO_9) hb); have n2_ := Aside0.mk (below_step (mvB HB) hb); clear HO_7; clear HO_9; clear HB; have HO_7 := n0_; have HO_9 := n1_; have HB := n2_; clear n0_ n1_ n2_; (try clear hb); (try clear hb2); (try clear hk); (try clear hi)))
                              repeat (go_quiet (fail))
                              go_roundg kj66
                              case measure => have := HJ3.out; have := HJ10.out; have := HJ20.out; have := HK4.out; have := HJ27.out; have := HK6.out; have := HJ49.out; have := HJ66.out; omega
                              case rel => exact ⟨(wrap64 (x11_4 + 1)), (by first | rfl | (simp; done) | (simp [*]; done)), H', ⟨by have := HJ3.out; have := HJ10.out; have := HJ20.out; have := HK4.out; have := HJ27.out; have := HK6.out; have := HJ49.out; have := HJ66.out; omega⟩, ⟨mvR HO_7⟩, ⟨mvR HO_9⟩, ⟨mvB HB⟩⟩
                            ·rw [if_neg c76] at H
                             have c76b0 : (t308 == 0) = false := beq_eq_false_iff_ne.mpr c76
                             have c76b1 : (t308 != 0) = true := bne_iff_ne.mpr c76
                             obtain rfl := Option.some.inj H
                             obtain ⟨ad306, e306, hx306_0, p306, q306⟩ := atI (Kd.R_reads' HO_7.out).2.2 x11_4
                             obtain rfl : ad289 = ad306 := (by injection e306)
                             go_wp2_with (first | (go_at_call 11; (with_reducible refine (breaks_Measure.calls kj66 _ _ l0 (rd t278 x11_4) x16_6 t307 t308 _ ?side1 ?side2 A75.out).mono ?_); (case side1 => repeat (first | exact (Kd.C_below HR0.out HB.out) | (with_reducible refine Kd.C_alloc ?_ _) | (with_reducible refine Kd.C_drewN ?_ _) | (with_reducible refine Kd.C_drew ?_))); (case side2 => exact HC0.out); rintro e w80 ⟨rfl, hb⟩; have n0_ := Aside0.mk (Kd.R_below (mvR HO_7) hb); have n1_ := Aside0.mk (Kd.R_below (mvR HO_9) hb); have n2_ := Aside0.mk (below_step (mvB HB) hb); clear HO_7; clear HO_9; clear HB; have HO_7 := n0_; have HO_9 := n1_; have HB := n2_; clear n0_ n1_ n2_; (try clear hb); (try clear hb2); (try clear hk); (try clear hi)))
                             repeat (go_quiet (fail))
                             go_ret
                             exact ⟨by first | rfl | (simp [errW_none, errW_some] <;> rfl) | (simp [*, errW_none, errW_some] <;> rfl), mvB HB⟩
                           ·rw [if_neg c74] at H
                            exact absurd H (by simp)
                          ·rw [if_neg c73] at H
                           exact absurd H (by simp)
                         ·replace c72 := Bool.eq_false_iff.mpr c72
                          subst c72
                          have H1 : (selvedgelaw21_BreaksFit.l0 kj66 l0 a1 a2 t278 t282 (wrap64 (x11_4 + 1))) = some r := by rw [if_neg (show ¬ (false = true) by decide)] at H; exact H
                          clear H
                          have H := H1
                          clear H1
                          have H' := Aside0.mk H
                          clear H
                          go_wp2
                          repeat (go_quiet (fail); try go_wp2)
                          go_roundg kj66
                          case measure => have := HJ3.out; have := HJ10.out; have := HJ20.out; have := HK4.out; have := HJ27.out; have := HK6.out; have := HJ49.out; have := HJ66.out; omega
                          case rel => exact ⟨(wrap64 (x11_4 + 1)), (by first | rfl | (simp; done) | (simp [*]; done)), H', ⟨by have := HJ3.out; have := HJ10.out; have := HJ20.out; have := HK4.out; have := HJ27.out; have := HK6.out; have := HJ49.out; have := HJ66.out; omega⟩, ⟨mvR HO_7⟩, ⟨mvR HO_9⟩, ⟨mvB HB⟩⟩
                ·rw [if_neg c34] at H
                 exact absurd H (by simp)
               ·rw [if_neg c33] at H
                exact absurd H (by simp)
            ·rw [if_neg c27] at H
             have c27b0 : decide (x11_4 < (t278.length : Int)) = false := decide_eq_false c27
             clear c27
             by_cases c81 : a1 > (wrap64 (16777216 - a2))
             ·rw [if_pos c81] at H
              have c81b0 : decide ((wrap64 (16777216 - a2)) < a1) = true := decide_eq_true c81
              clear c81
              replace H := Option.bind_eq_some_iff.mp H
              obtain ⟨t309, A820, H⟩ := H
              replace H : (some t309) = some r := H
              have A82 := Aside0.mk A820
              clear A820
              obtain rfl := Option.some.inj H
              obtain ⟨Ao83, co83, eo83⟩ := Kd.R_slice HO_7.out
              subst eo83
              go_wp2_with (first | (go_at_call 10; (with_reducible refine (selvedgelaw21_works.calls k4  t309 _ A82.out).mono ?_); rintro e w84 ⟨rfl, hb⟩; have n0_ := Aside0.mk (Kd.R_below (mvR HO_7) hb); have n1_ := Aside0.mk (Kd.R_below (mvR HO_9) hb); have n2_ := Aside0.mk (below_step (mvB HB) hb); clear HO_7; clear HO_9; clear HB; have HO_7 := n0_; have HO_9 := n1_; have HB := n2_; clear n0_ n1_ n2_; (try clear hb); (try clear hb2); (try clear hk); (try clear hi)))
              repeat (go_quiet (fail))
              go_ret
              exact ⟨by first | rfl | (simp [errW_none, errW_some] <;> rfl) | (simp [*, errW_none, errW_some] <;> rfl), mvB HB⟩
             ·rw [if_neg c81] at H
              have c81b0 : decide ((wrap64 (16777216 - a2)) < a1) = false := decide_eq_false c81
              clear c81
              replace H := Option.bind_eq_some_iff.mp H
              obtain ⟨⟨t310, t311⟩, A850, H⟩ := H
              replace H : (if t311 = 0 then (if (t310.length : Int) ≤ (t278.length : Int) then ((selvedgelaw21_works.f k4).bind fun t314 => (some t314)) else (some false)) else (some false)) = some r := H
              have A85 := Aside0.mk A850
              clear A850
              by_cases c86 : t311 = 0
              ·rw [if_pos c86] at H
               have c86b0 : (t311 == 0) = true := beq_iff_eq.mpr c86
               have c86b1 : (t311 != 0) = false := bne_eq_false_iff_eq.mpr c86
               clear c86
               by_cases c87 : (t310.length : Int) ≤ (t278.length : Int)
               ·rw [if_pos c87] at H
                have c87b0 : decide ((t310.length : Int) ≤ (t278.length : Int)) = true := decide_eq_true c87
                have c87b1 : decide (t310.length ≤ t278.length) = true := decide_eq_true (Int.ofNat_le.mp c87)
                clear c87
                replace H := Option.bind_eq_some_iff.mp H
                obtain ⟨t314, A880, H⟩ := H
                replace H : (some t314) = some r := H
                have A88 := Aside0.mk A880
                clear A880
                obtain rfl := Option.some.inj H
                obtain ⟨Ao89, co89, eo89⟩ := Kd.R_slice HO_7.out
                subst eo89
                go_wp2_with (first | (go_at_call 14; (with_reducible refine (breaks_Lines.calls _ _ l0 (wrap64 (a1 + a2)) t310 t311 _ ?side1 ?side2 A85.out).mono ?_); (case side1 => repeat (first | exact (Kd.C_below HR0.out HB.out) | (with_reducible refine Kd.C_alloc ?_ _) | (with_reducible refine Kd.C_drewN ?_ _) | (with_reducible refine Kd.C_drew ?_))); (case side2 => exact HC0.out); rintro e w90 ⟨v312, rfl, ho0, hb⟩; have n0_ := Aside0.mk (Kd.R_elder' (mvR HO_7) (Kd.R_base ho0) hb); have n1_ := Aside0.mk (Kd.R_elder' (mvR HO_9) (Kd.R_base ho0) hb); have n2_ := Aside0.mk (Kd.R_lower (Kd.R_new' (Kd.R_new' ho0 (Kd.R_lt (mvR HO_7))) (Kd.R_lt (mvR HO_9))) (below_size (mvB HB))); have n3_ := Aside0.mk (below_step (mvB HB) hb); clear HO_7; clear HO_9; clear HB; have HO_7 := n0_; have HO_9 := n1_; have HO313 := n2_; have HB := n3_; clear n0_ n1_ n2_ n3_; (try clear hb); (try clear hb2); (try clear hk); (try clear hi); (try clear ho0); obtain ⟨Ao91, co91, eo91⟩ := Kd.R_slice HO313.out; subst eo91) | (go_at_call 10; (with_reducible refine (selvedgelaw21_works.calls k4  t314 _ A88.out).mono ?_); rintro e w92 ⟨rfl, hb⟩; have n0_ := Aside0.mk (Kd.R_below (mvR HO_7) hb); have n1_ := Aside0.mk (Kd.R_below (mvR HO_9) hb); have n2_ := Aside0.mk (Kd.R_below (mvR HO313) hb); have n3_ := Aside0.mk (below_step (mvB HB) hb); clear HO_7; clear HO_9; clear HO313; clear HB; have HO_7 := n0_; have HO_9 := n1_; have HO313 := n2_; have HB := n3_; clear n0_ n1_ n2_ n3_; (try clear hb); (try clear hb2); (try clear hk); (try clear hi)))
                repeat (go_quiet (fail))
                go_ret
                exact ⟨by first | rfl | (simp [errW_none, errW_some] <;> rfl) | (simp [*, errW_none, errW_some] <;> rfl), mvB HB⟩
               ·rw [if_neg c87] at H
                have c87b0 : decide ((t310.length : Int) ≤ (t278.length : Int)) = false := decide_eq_false c87
                have c87b1 : decide (t310.length ≤ t278.length) = false := decide_eq_false (fun h => c87 (Int.ofNat_le.mpr h))
                clear c87
                obtain rfl := Option.some.inj H
                obtain ⟨Ao93, co93, eo93⟩ := Kd.R_slice HO_7.out
                subst eo93
                go_wp2_with (first | (go_at_call 14; (with_reducible refine (breaks_Lines.calls _ _ l0 (wrap64 (a1 + a2)) t310 t311 _ ?side1 ?side2 A85.out).mono ?_); (case side1 => repeat (first | exact (Kd.C_below HR0.out HB.out) | (with_reducible refine Kd.C_alloc ?_ _) | (with_reducible refine Kd.C_drewN ?_ _) | (with_reducible refine Kd.C_drew ?_))); (case side2 => exact HC0.out); rintro e w94 ⟨v312, rfl, ho0, hb⟩; have n0_ := Aside0.mk (Kd.R_elder' (mvR HO_7) (Kd.R_base ho0) hb); have n1_ := Aside0.mk (Kd.R_elder' (mvR HO_9) (Kd.R_base ho0) hb); have n2_ := Aside0.mk (Kd.R_lower (Kd.R_new' (Kd.R_new' ho0 (Kd.R_lt (mvR HO_7))) (Kd.R_lt (mvR HO_9))) (below_size (mvB HB))); have n3_ := Aside0.mk (below_step (mvB HB) hb); clear HO_7; clear HO_9; clear HB; have HO_7 := n0_; have HO_9 := n1_; have HO313 := n2_; have HB := n3_; clear n0_ n1_ n2_ n3_; (try clear hb); (try clear hb2); (try clear hk); (try clear hi); (try clear ho0); obtain ⟨Ao95, co95, eo95⟩ := Kd.R_slice HO313.out; subst eo95))
                repeat (go_quiet (fail))
                go_ret
                exact ⟨by first | rfl | (simp [errW_none, errW_some] <;> rfl) | (simp [*, errW_none, errW_some] <;> rfl), mvB HB⟩
              ·rw [if_neg c86] at H
               have c86b0 : (t311 == 0) = false := beq_eq_false_iff_ne.mpr c86
               have c86b1 : (t311 != 0) = true := bne_iff_ne.mpr c86
               obtain rfl := Option.some.inj H
               obtain ⟨Ao96, co96, eo96⟩ := Kd.R_slice HO_7.out
               subst eo96
               go_wp2_with (first | (go_at_call 14; (with_reducible refine (breaks_Lines.calls _ _ l0 (wrap64 (a1 + a2)) t310 t311 _ ?side1 ?side2 A85.out).mono ?_); (case side1 => repeat (first | exact (Kd.C_below HR0.out HB.out) | (with_reducible refine Kd.C_alloc ?_ _) | (with_reducible refine Kd.C_drewN ?_ _) | (with_reducible refine Kd.C_drew ?_))); (case side2 => exact HC0.out); rintro e w97 ⟨v312, rfl, ho0, hb⟩; have n0_ := Aside0.mk (Kd.R_elder' (mvR HO_7) (Kd.R_base ho0) hb); have n1_ := Aside0.mk (Kd.R_elder' (mvR HO_9) (Kd.R_base ho0) hb); have n2_ := Aside0.mk (Kd.R_lower (Kd.R_new' (Kd.R_new' ho0 (Kd.R_lt (mvR HO_7))) (Kd.R_lt (mvR HO_9))) (below_size (mvB HB))); have n3_ := Aside0.mk (below_step (mvB HB) hb); clear HO_7; clear HO_9; clear HB; have HO_7 := n0_; have HO_9 := n1_; have HO313 := n2_; have HB := n3_; clear n0_ n1_ n2_ n3_; (try clear hb); (try clear hb2); (try clear hk); (try clear hi); (try clear ho0)))
               repeat (go_quiet (fail))
               go_ret
               exact ⟨by first | rfl | (simp [errW_none, errW_some] <;> rfl) | (simp [*, errW_none, errW_some] <;> rfl), mvB HB⟩

end Go.Proofs.Ythckihfkhmoafaa.X
