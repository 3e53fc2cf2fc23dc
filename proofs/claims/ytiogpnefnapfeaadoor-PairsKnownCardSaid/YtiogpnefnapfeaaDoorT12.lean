-- by xprint.py: the kit's printer over texts of this session
import Derived.Test.YtiogpnefnapfeaaDoorX0
import Derived.Test.YtiogpnefnapfeaaDoorX1
import Derived.Test.YtiogpnefnapfeaaDoorX1b
import Derived.Test.YtiogpnefnapfeaaDoorX6
import Derived.Test.YtiogpnefnapfeaaDoorX7
import Derived.Test.YtiogpnefnapfeaaDoorT3
import Derived.Test.YtiogpnefnapfeaaDoorT4
import Derived.Test.YtiogpnefnapfeaaDoorT5
namespace Go.Proofs.YtiogpnefnapfeaaDoor.X
open Go.RowKit Go.Proofs.YtiogpnefnapfeaaDoorW.PrintWords Go.Proofs.YtiogpnefnapfeaaDoorW.PrintLast Go.Proofs.YtiogpnefnapfeaaDoorW.PrintMore
attribute [local go_sem] max2_int min2_int max_two min_two max_three min_three max_four min_four   -- for this text's walks alone
set_option linter.unusedVariables false
set_option linter.unusedSimpArgs false

/-! ### selvedgelaw17_PairsKnown: function 7 -/
mutual
def selvedgelaw17_PairsKnown.j0 : Nat → Int → Int → Int → Bool → Option (Bool)
 | 0, _, _, _, _ => none
 | k + 1, x1, x2, x3, x4 => (selvedgelaw17_become.f k (⟨#[226, 140, 169, 97, 227, 128, 137]⟩ : ByteArray) 0 1 (([x1, x1, x1] : List Int))).bind fun t349 => (if t349 = true then ((selvedgelaw17_become.f k (⟨#[40, 97, 93]⟩ : ByteArray) 0 1 (([x3, x1, x3] : List Int))).bind fun t353 => (if t353 = true then ((selvedgelaw17_become.f k (⟨#[97, 40, 215, 144, 91, 215, 145, 93, 41]⟩ : ByteArray) 1 2 (([x1, x2, x2, x2, x2, x2, x2] : List Int))).bind fun t357 => (if t357 = true then ((selvedgelaw17_become.f k (⟨#[215, 144, 91, 97, 40, 215, 144, 41, 93]⟩ : ByteArray) 0 1 (([x2, x1, x1, x1, x2, x1, x1] : List Int))).bind fun t361 => (selvedgelaw17_PairsKnown.j1 k x1 x2 x3 x4 t361)) else (none))) else (none))) else (none))
def selvedgelaw17_PairsKnown.j1 : Nat → Int → Int → Int → Bool → Bool → Option (Bool)
 | 0, _, _, _, _, _ => none
 | k + 1, x1, x2, x3, x4, x5 => selvedgelaw17_PairsKnown.l0 k x1 x2 x3 x4 x5 ([] : List Int) 0
def selvedgelaw17_PairsKnown.l0 : Nat → Int → Int → Int → Bool → Bool → List Int → Int → Option (Bool)
 | 0, _, _, _, _, _, _, _ => none
 | k + 1, x1, x2, x3, x4, x5, x6, x8 => if x8 < 70 then (if x6.length < 35184372088832 then (selvedgelaw17_PairsKnown.l0 k x1 x2 x3 x4 x5 (x6 ++ [40]) (wrap64 (x8 + 1))) else (none)) else (selvedgelaw17_PairsKnown.l1 k x1 x2 x3 x4 x5 x6 0)
def selvedgelaw17_PairsKnown.l1 : Nat → Int → Int → Int → Bool → Bool → List Int → Int → Option (Bool)
 | 0, _, _, _, _, _, _, _ => none
 | k + 1, x1, x2, x3, x4, x5, x6, x9 => if x9 < 70 then (if x6.length < 35184372088832 then (selvedgelaw17_PairsKnown.l1 k x1 x2 x3 x4 x5 (x6 ++ [41]) (wrap64 (x9 + 1))) else (none)) else ((selvedgelaw17_classes.f k x6).bind fun t368 => ((pairs_Pairs.f x6 t368).bind fun t371 => (if (t371.length : Int) = 0 then (if 7 ≤ 133 then (if 133 ≤ (x6.length : Int) then (if 133 ≤ (t368.length : Int) then ((pairs_Pairs.f ((x6.take 133).drop 7) ((t368.take 133).drop 7)).bind fun t382 => (if (t382.length : Int) = 63 then ((selvedgelaw17_PairsResolve.f k x6 t368 t368 0 1).bind fun t385 => (if t385 = true then ((selvedgelaw17_PairsNest.f k ((x6.take 133).drop 7) ((t368.take 133).drop 7) ((t368.take 133).drop 7) 1 1).bind fun t398 => (selvedgelaw17_PairsKnown.j4 k x1 x2 x3 x4 x5 t398)) else (none))) else (none))) else (none)) else (none)) else (none)) else (none))))
def selvedgelaw17_PairsKnown.j4 : Nat → Int → Int → Int → Bool → Bool → Bool → Option (Bool)
 | 0, _, _, _, _, _, _ => none
 | k + 1, x1, x2, x3, x4, x5, x10 => (some (([40, 120, 41, 40, 40, 121, 41, 41] : List Int) : List Int)).bind fun y399 => ((selvedgelaw17_classes.f k y399).bind fun t402 => ((some (([x3, x1, x3, 9, 9, x3, 9, 10] : List Int) : List Int)).bind fun y405 => (if 65537 ≤ 70368744177664 then (if 65537 ≤ 281474976710656 then ((pairs_Resolve.f (List.replicate 65537 0) (List.replicate 65537 0) (List.replicate 65537 0) 0 x1).bind fun bt417 => (if 1 ≤ (t402.length : Int) then ((pairs_Resolve.f y399 (t402.drop 1) t402 0 x1).bind fun bt425 => ((pairs_Resolve.f y399 t402 ([] : List Int) 0 x1).bind fun bt429 => ((selvedgelaw17_PairsResolve.f k y399 y405 t402 0 x1).bind fun t433 => (if t433 = true then ((selvedgelaw17_PairsResolve.f k y399 y405 y405 1 x1).bind fun t434 => (if t434 = true then ((selvedgelaw17_PairsNest.f k y399 y405 t402 0 x2).bind fun t435 => (if t435 = true then (if bt417.2 = 3 then (if bt425.2 = 2 then (if x4 = true then (if x5 = true then (if x10 = true then (if bt429.2 = 2 then ((selvedgelaw17_works.f k).bind fun t436 => (some t436)) else (none)) else (none)) else (none)) else (none)) else (none)) else (none)) else (none))) else (none))) else (none))))) else (none))) else (none)) else (none))))
end
def selvedgelaw17_PairsKnown.f (k : Nat)  : Option (Bool) := (selvedgelaw17_become.f k (⟨#[215, 144, 40, 49, 41]⟩ : ByteArray) 0 1 (([2, 2, 4, 2] : List Int))).bind fun t317 => (if t317 = true then ((selvedgelaw17_become.f k (⟨#[97, 40, 215, 144, 41]⟩ : ByteArray) 0 1 (([1, 1, 2, 1] : List Int))).bind fun t321 => (if t321 = true then ((selvedgelaw17_become.f k (⟨#[215, 144, 40, 97, 41]⟩ : ByteArray) 1 2 (([2, 2, 1, 2] : List Int))).bind fun t325 => (if t325 = true then ((selvedgelaw17_become.f k (⟨#[40, 33, 41]⟩ : ByteArray) 0 1 (([14, 14, 14] : List Int))).bind fun t329 => (if t329 = true then ((selvedgelaw17_become.f k (⟨#[215, 144, 40, 215, 144, 41, 204, 129]⟩ : ByteArray) 0 1 (([2, 2, 2, 2, 2] : List Int))).bind fun t333 => (if t333 = true then ((selvedgelaw17_become.f k (⟨#[40, 91, 41, 93, 97]⟩ : ByteArray) 0 1 (([14, 14, 14, 14, 1] : List Int))).bind fun t337 => (if t337 = true then ((selvedgelaw17_become.f k (⟨#[40, 215, 144, 41]⟩ : ByteArray) 0 2 (([2, 2, 2] : List Int))).bind fun t341 => (if t341 = true then ((selvedgelaw17_become.f k (⟨#[40, 215, 144, 41]⟩ : ByteArray) 0 1 (([1, 2, 1] : List Int))).bind fun t345 => (selvedgelaw17_PairsKnown.j0 k 1 2 14 t345)) else (none))) else (none))) else (none))) else (none))) else (none))) else (none))) else (none))
theorem selvedgelaw17_PairsKnown.mono_l : ∀ k, (∀ y0 y1 y2 y3, LeO (selvedgelaw17_PairsKnown.j0 k y0 y1 y2 y3) (selvedgelaw17_PairsKnown.j0 (k + 1) y0 y1 y2 y3)) ∧ (∀ y0 y1 y2 y3 y4, LeO (selvedgelaw17_PairsKnown.j1 k y0 y1 y2 y3 y4) (selvedgelaw17_PairsKnown.j1 (k + 1) y0 y1 y2 y3 y4)) ∧ (∀ y0 y1 y2 y3 y4 y5 y6, LeO (selvedgelaw17_PairsKnown.l0 k y0 y1 y2 y3 y4 y5 y6) (selvedgelaw17_PairsKnown.l0 (k + 1) y0 y1 y2 y3 y4 y5 y6)) ∧ (∀ y0 y1 y2 y3 y4 y5 y6, LeO (selvedgelaw17_PairsKnown.l1 k y0 y1 y2 y3 y4 y5 y6) (selvedgelaw17_PairsKnown.l1 (k + 1) y0 y1 y2 y3 y4 y5 y6)) ∧ (∀ y0 y1 y2 y3 y4 y5, LeO (selvedgelaw17_PairsKnown.j4 k y0 y1 y2 y3 y4 y5) (selvedgelaw17_PairsKnown.j4 (k + 1) y0 y1 y2 y3 y4 y5))
 | 0 => ⟨fun _ _ _ _ r h => by simp [selvedgelaw17_PairsKnown.j0] at h, fun _ _ _ _ _ r h => by simp [selvedgelaw17_PairsKnown.j1] at h, fun _ _ _ _ _ _ _ r h => by simp [selvedgelaw17_PairsKnown.l0] at h, fun _ _ _ _ _ _ _ r h => by simp [selvedgelaw17_PairsKnown.l1] at h, fun _ _ _ _ _ _ r h => by simp [selvedgelaw17_PairsKnown.j4] at h⟩
 | k + 1 => by
  obtain ⟨ih0, ih1, ih2, ih3, ih4⟩ := selvedgelaw17_PairsKnown.mono_l k
  refine ⟨?_, ?_, ?_, ?_, ?_⟩
  ·intro y0 y1 y2 y3
   unfold selvedgelaw17_PairsKnown.j0
   repeat' first
   | (with_reducible exact ih0 _ _ _ _)
   | (with_reducible exact ih1 _ _ _ _ _)
   | (with_reducible exact ih2 _ _ _ _ _ _ _)
   | (with_reducible exact ih3 _ _ _ _ _ _ _)
   | (with_reducible exact ih4 _ _ _ _ _ _)
   | (with_reducible exact selvedgelaw17_PairsNest.mono _ _ _ _ _ _)
   | (with_reducible exact selvedgelaw17_PairsResolve.mono _ _ _ _ _ _)
   | (with_reducible exact selvedgelaw17_become.mono _ _ _ _ _)
   | (with_reducible exact selvedgelaw17_classes.mono _ _)
   | (with_reducible exact selvedgelaw17_works.mono _)
   | (with_reducible exact LeO.refl _)
   | (with_reducible exact LeO.none _)
   | (with_reducible refine LeO.ite ?_ ?_)
   | (with_reducible refine LeO.bind ?_ (fun _ => ?_))
   | exact ih0 _ _ _ _
   | exact ih1 _ _ _ _ _
   | exact ih2 _ _ _ _ _ _ _
   | exact ih3 _ _ _ _ _ _ _
   | exact ih4 _ _ _ _ _ _
   | exact selvedgelaw17_PairsNest.mono _ _ _ _ _ _
   | exact selvedgelaw17_PairsResolve.mono _ _ _ _ _ _
   | exact selvedgelaw17_become.mono _ _ _ _ _
   | exact selvedgelaw17_classes.mono _ _
   | exact selvedgelaw17_works.mono _
   | exact LeO.none _
   | refine LeO.ite ?_ ?_
   | refine LeO.bind ?_ (fun _ => ?_)
  ·intro y0 y1 y2 y3 y4
   unfold selvedgelaw17_PairsKnown.j1
   repeat' first
   | (with_reducible exact ih0 _ _ _ _)
   | (with_reducible exact ih1 _ _ _ _ _)
   | (with_reducible exact ih2 _ _ _ _ _ _ _)
   | (with_reducible exact ih3 _ _ _ _ _ _ _)
   | (with_reducible exact ih4 _ _ _ _ _ _)
   | (with_reducible exact selvedgelaw17_PairsNest.mono _ _ _ _ _ _)
   | (with_reducible exact selvedgelaw17_PairsResolve.mono _ _ _ _ _ _)
   | (with_reducible exact selvedgelaw17_become.mono _ _ _ _ _)
   | (with_reducible exact selvedgelaw17_classes.mono _ _)
   | (with_reducible exact selvedgelaw17_works.mono _)
   | (with_reducible exact LeO.refl _)
   | (with_reducible exact LeO.none _)
   | (with_reducible refine LeO.ite ?_ ?_)
   | (with_reducible refine LeO.bind ?_ (fun _ => ?_))
   | exact ih0 _ _ _ _
   | exact ih1 _ _ _ _ _
   | exact ih2 _ _ _ _ _ _ _
   | exact ih3 _ _ _ _ _ _ _
   | exact ih4 _ _ _ _ _ _
   | exact selvedgelaw17_PairsNest.mono _ _ _ _ _ _
   | exact selvedgelaw17_PairsResolve.mono _ _ _ _ _ _
   | exact selvedgelaw17_become.mono _ _ _ _ _
   | exact selvedgelaw17_classes.mono _ _
   | exact selvedgelaw17_works.mono _
   | exact LeO.none _
   | refine LeO.ite ?_ ?_
   | refine LeO.bind ?_ (fun _ => ?_)
  ·intro y0 y1 y2 y3 y4 y5 y6
   unfold selvedgelaw17_PairsKnown.l0
   repeat' first
   | (with_reducible exact ih0 _ _ _ _)
   | (with_reducible exact ih1 _ _ _ _ _)
   | (with_reducible exact ih2 _ _ _ _ _ _ _)
   | (with_reducible exact ih3 _ _ _ _ _ _ _)
   | (with_reducible exact ih4 _ _ _ _ _ _)
   | (with_reducible exact selvedgelaw17_PairsNest.mono _ _ _ _ _ _)
   | (with_reducible exact selvedgelaw17_PairsResolve.mono _ _ _ _ _ _)
   | (with_reducible exact selvedgelaw17_become.mono _ _ _ _ _)
   | (with_reducible exact selvedgelaw17_classes.mono _ _)
   | (with_reducible exact selvedgelaw17_works.mono _)
   | (with_reducible exact LeO.refl _)
   | (with_reducible exact LeO.none _)
   | (with_reducible refine LeO.ite ?_ ?_)
   | (with_reducible refine LeO.bind ?_ (fun _ => ?_))
   | exact ih0 _ _ _ _
   | exact ih1 _ _ _ _ _
   | exact ih2 _ _ _ _ _ _ _
   | exact ih3 _ _ _ _ _ _ _
   | exact ih4 _ _ _ _ _ _
   | exact selvedgelaw17_PairsNest.mono _ _ _ _ _ _
   | exact selvedgelaw17_PairsResolve.mono _ _ _ _ _ _
   | exact selvedgelaw17_become.mono _ _ _ _ _
   | exact selvedgelaw17_classes.mono _ _
   | exact selvedgelaw17_works.mono _
   | exact LeO.none _
   | refine LeO.ite ?_ ?_
   | refine LeO.bind ?_ (fun _ => ?_)
  ·intro y0 y1 y2 y3 y4 y5 y6
   unfold selvedgelaw17_PairsKnown.l1
   repeat' first
   | (with_reducible exact ih0 _ _ _ _)
   | (with_reducible exact ih1 _ _ _ _ _)
   | (with_reducible exact ih2 _ _ _ _ _ _ _)
   | (with_reducible exact ih3 _ _ _ _ _ _ _)
   | (with_reducible exact ih4 _ _ _ _ _ _)
   | (with_reducible exact selvedgelaw17_PairsNest.mono _ _ _ _ _ _)
   | (with_reducible exact selvedgelaw17_PairsResolve.mono _ _ _ _ _ _)
   | (with_reducible exact selvedgelaw17_become.mono _ _ _ _ _)
   | (with_reducible exact selvedgelaw17_classes.mono _ _)
   | (with_reducible exact selvedgelaw17_works.mono _)
   | (with_reducible exact LeO.refl _)
   | (with_reducible exact LeO.none _)
   | (with_reducible refine LeO.ite ?_ ?_)
   | (with_reducible refine LeO.bind ?_ (fun _ => ?_))
   | exact ih0 _ _ _ _
   | exact ih1 _ _ _ _ _
   | exact ih2 _ _ _ _ _ _ _
   | exact ih3 _ _ _ _ _ _ _
   | exact ih4 _ _ _ _ _ _
   | exact selvedgelaw17_PairsNest.mono _ _ _ _ _ _
   | exact selvedgelaw17_PairsResolve.mono _ _ _ _ _ _
   | exact selvedgelaw17_become.mono _ _ _ _ _
   | exact selvedgelaw17_classes.mono _ _
   | exact selvedgelaw17_works.mono _
   | exact LeO.none _
   | refine LeO.ite ?_ ?_
   | refine LeO.bind ?_ (fun _ => ?_)
  ·intro y0 y1 y2 y3 y4 y5
   unfold selvedgelaw17_PairsKnown.j4
   repeat' first
   | (with_reducible exact ih0 _ _ _ _)
   | (with_reducible exact ih1 _ _ _ _ _)
   | (with_reducible exact ih2 _ _ _ _ _ _ _)
   | (with_reducible exact ih3 _ _ _ _ _ _ _)
   | (with_reducible exact ih4 _ _ _ _ _ _)
   | (with_reducible exact selvedgelaw17_PairsNest.mono _ _ _ _ _ _)
   | (with_reducible exact selvedgelaw17_PairsResolve.mono _ _ _ _ _ _)
   | (with_reducible exact selvedgelaw17_become.mono _ _ _ _ _)
   | (with_reducible exact selvedgelaw17_classes.mono _ _)
   | (with_reducible exact selvedgelaw17_works.mono _)
   | (with_reducible exact LeO.refl _)
   | (with_reducible exact LeO.none _)
   | (with_reducible refine LeO.ite ?_ ?_)
   | (with_reducible refine LeO.bind ?_ (fun _ => ?_))
   | exact ih0 _ _ _ _
   | exact ih1 _ _ _ _ _
   | exact ih2 _ _ _ _ _ _ _
   | exact ih3 _ _ _ _ _ _ _
   | exact ih4 _ _ _ _ _ _
   | exact selvedgelaw17_PairsNest.mono _ _ _ _ _ _
   | exact selvedgelaw17_PairsResolve.mono _ _ _ _ _ _
   | exact selvedgelaw17_become.mono _ _ _ _ _
   | exact selvedgelaw17_classes.mono _ _
   | exact selvedgelaw17_works.mono _
   | exact LeO.none _
   | refine LeO.ite ?_ ?_
   | refine LeO.bind ?_ (fun _ => ?_)
theorem selvedgelaw17_PairsKnown.mono : ∀ k, LeO (selvedgelaw17_PairsKnown.f k ) (selvedgelaw17_PairsKnown.f (k + 1) ) := by
 intro  k
 obtain ⟨ih0, ih1, ih2, ih3, ih4⟩ := selvedgelaw17_PairsKnown.mono_l k
 unfold selvedgelaw17_PairsKnown.f
 repeat' first
   | (with_reducible exact ih0 _ _ _ _)
   | (with_reducible exact ih1 _ _ _ _ _)
   | (with_reducible exact ih2 _ _ _ _ _ _ _)
   | (with_reducible exact ih3 _ _ _ _ _ _ _)
   | (with_reducible exact ih4 _ _ _ _ _ _)
   | (with_reducible exact selvedgelaw17_PairsNest.mono _ _ _ _ _ _)
   | (with_reducible exact selvedgelaw17_PairsResolve.mono _ _ _ _ _ _)
   | (with_reducible exact selvedgelaw17_become.mono _ _ _ _ _)
   | (with_reducible exact selvedgelaw17_classes.mono _ _)
   | (with_reducible exact selvedgelaw17_works.mono _)
   | (with_reducible exact LeO.refl _)
   | (with_reducible exact LeO.none _)
   | (with_reducible refine LeO.ite ?_ ?_)
   | (with_reducible refine LeO.bind ?_ (fun _ => ?_))
   | exact ih0 _ _ _ _
   | exact ih1 _ _ _ _ _
   | exact ih2 _ _ _ _ _ _ _
   | exact ih3 _ _ _ _ _ _ _
   | exact ih4 _ _ _ _ _ _
   | exact selvedgelaw17_PairsNest.mono _ _ _ _ _ _
   | exact selvedgelaw17_PairsResolve.mono _ _ _ _ _ _
   | exact selvedgelaw17_become.mono _ _ _ _ _
   | exact selvedgelaw17_classes.mono _ _
   | exact selvedgelaw17_works.mono _
   | exact LeO.none _
   | refine LeO.ite ?_ ?_
   | refine LeO.bind ?_ (fun _ => ?_)
def selvedgelaw17_PairsKnown.T15 : Bool × List (List Nat × List Nat) := (true, [([], []), ([], []), ([0, 1], [0, 1]), ([2], [2]), ([3], [3]), ([4, 2], [4]), ([5], [5]), ([6, 5], [5, 6]), ([5], [5]), ([8, 5], [5, 8]), ([7, 9, 5, 5], [5, 7, 9]), ([10, 5], [5, 10]), ([11, 5], [5, 11]), ([5, 12], [5, 12]), ([13, 10], [13]), ([14], [14]), ([14], [14]), ([14], [14]), ([15, 16, 17, 14, 14], [14, 15, 16, 17]), ([14, 18], [14, 18]), ([19, 18], [19]), ([20], [20]), ([21, 20], [20, 21]), ([20], [20]), ([23, 20], [20, 23]), ([20], [20]), ([25, 20], [20, 25]), ([22, 24, 26, 20, 20], [20, 22, 24, 26]), ([20, 27], [20, 27]), ([28, 27, 0, 1, 2, 3, 4, 5, 6, 7, 8, 9, 10, 11, 12, 13, 14, 15, 16, 17, 18, 19, 20, 21, 22, 23, 24, 25, 26, 27, 28], [28])])
def selvedgelaw17_PairsKnown.B15 : List Nat := [0, 0, 3, 7, 15, 31, 63, 127, 63, 319, 1023, 2047, 4095, 8191, 16383, 32767, 32767, 32767, 262143, 524287, 1048575, 2097151, 4194303, 2097151, 10485759, 2097151, 35651583, 134217727, 268435455, 536870911]
theorem selvedgelaw17_PairsKnown.tab15 : rtab .any (opsOf Tryd.f7 15) = selvedgelaw17_PairsKnown.T15 := by kernel_rfl
theorem selvedgelaw17_PairsKnown.bits15 : waitsOk selvedgelaw17_PairsKnown.T15.2 selvedgelaw17_PairsKnown.B15 = true := by kernel_rfl
def selvedgelaw17_PairsKnown.T19 : Bool × List (List Nat × List Nat) := (true, [([], []), ([], []), ([], []), ([], []), ([0, 1, 2, 3], [0, 1, 2, 3]), ([4], [4]), ([5], [5]), ([5], [5]), ([6, 4, 0, 1, 2, 3, 4, 5, 6], [6]), ([7, 8, 0, 1, 2, 3, 4, 5, 6, 7, 8], [7])])
def selvedgelaw17_PairsKnown.B19 : List Nat := [0, 0, 0, 0, 15, 31, 63, 63, 127, 511]
theorem selvedgelaw17_PairsKnown.tab19 : rtab .any (opsOf Tryd.f7 19) = selvedgelaw17_PairsKnown.T19 := by kernel_rfl
theorem selvedgelaw17_PairsKnown.bits19 : waitsOk selvedgelaw17_PairsKnown.T19.2 selvedgelaw17_PairsKnown.B19 = true := by kernel_rfl
set_option maxHeartbeats 8000000 in
set_option maxRecDepth 100000 in
theorem selvedgelaw17_PairsKnown.calls (k : Nat)  (r : Bool) (w : World) (h : selvedgelaw17_PairsKnown.f k  = some r) (hT : Tabs w) :
  Calls Tryd.prog 7 #[] w fun e w' => e = .returned (.bool r) ∧ Below w.heap.size w w' := by
 have HT := Aside0.mk hT
 clear hT
 have HB := Aside0.mk (Below.refl w.heap.size w)
 have H : ((selvedgelaw17_become.f k (⟨#[215, 144, 40, 49, 41]⟩ : ByteArray) 0 1 (([2, 2, 4, 2] : List Int))).bind fun t317 => (if t317 = true then ((selvedgelaw17_become.f k (⟨#[97, 40, 215, 144, 41]⟩ : ByteArray) 0 1 (([1, 1, 2, 1] : List Int))).bind fun t321 => (if t321 = true then ((selvedgelaw17_become.f k (⟨#[215, 144, 40, 97, 41]⟩ : ByteArray) 1 2 (([2, 2, 1, 2] : List Int))).bind fun t325 => (if t325 = true then ((selvedgelaw17_become.f k (⟨#[40, 33, 41]⟩ : ByteArray) 0 1 (([14, 14, 14] : List Int))).bind fun t329 => (if t329 = true then ((selvedgelaw17_become.f k (⟨#[215, 144, 40, 215, 144, 41, 204, 129]⟩ : ByteArray) 0 1 (([2, 2, 2, 2, 2] : List Int))).bind fun t333 => (if t333 = true then ((selvedgelaw17_become.f k (⟨#[40, 91, 41, 93, 97]⟩ : ByteArray) 0 1 (([14, 14, 14, 14, 1] : List Int))).bind fun t337 => (if t337 = true then ((selvedgelaw17_become.f k (⟨#[40, 215, 144, 41]⟩ : ByteArray) 0 2 (([2, 2, 2] : List Int))).bind fun t341 => (if t341 = true then ((selvedgelaw17_become.f k (⟨#[40, 215, 144, 41]⟩ : ByteArray) 0 1 (([1, 2, 1] : List Int))).bind fun t345 => (selvedgelaw17_PairsKnown.j0 k 1 2 14 t345)) else (none))) else (none))) else (none))) else (none))) else (none))) else (none))) else (none))) = some r := h
 clear h
 have HC1 := Aside0.mk H
 clear H
 go_enter Tryd.func7, Tryd.ntmps7
 go_upto_region 2 with (fail)
 go_cut [4] (fun v4 wc => ∃ (kq : Nat) (x4_0 : Bool), v4 = .bool x4_0 ∧ Aside0 (selvedgelaw17_PairsKnown.j0 kq 1 2 14 x4_0 = some r) ∧ Aside0 (kq ≤ k) ∧ Aside0 (Below w.heap.size w wc))
 case first =>
  have H := HC1.out
  clear HC1
  obtain ⟨y314, hy314⟩ : ∃ y_ : List Int, y_ = (([2, 2, 4, 2] : List Int)) := ⟨_, rfl⟩
  replace H : ((selvedgelaw17_become.f k (⟨#[215, 144, 40, 49, 41]⟩ : ByteArray) 0 1 y314).bind fun t317 => (if t317 = true then ((selvedgelaw17_become.f k (⟨#[97, 40, 215, 144, 41]⟩ : ByteArray) 0 1 (([1, 1, 2, 1] : List Int))).bind fun t321 => (if t321 = true then ((selvedgelaw17_become.f k (⟨#[215, 144, 40, 97, 41]⟩ : ByteArray) 1 2 (([2, 2, 1, 2] : List Int))).bind fun t325 => (if t325 = true then ((selvedgelaw17_become.f k (⟨#[40, 33, 41]⟩ : ByteArray) 0 1 (([14, 14, 14] : List Int))).bind fun t329 => (if t329 = true then ((selvedgelaw17_become.f k (⟨#[215, 144, 40, 215, 144, 41, 204, 129]⟩ : ByteArray) 0 1 (([2, 2, 2, 2, 2] : List Int))).bind fun t333 => (if t333 = true then ((selvedgelaw17_become.f k (⟨#[40, 91, 41, 93, 97]⟩ : ByteArray) 0 1 (([14, 14, 14, 14, 1] : List Int))).bind fun t337 => (if t337 = true then ((selvedgelaw17_become.f k (⟨#[40, 215, 144, 41]⟩ : ByteArray) 0 2 (([2, 2, 2] : List Int))).bind fun t341 => (if t341 = true then ((selvedgelaw17_become.f k (⟨#[40, 215, 144, 41]⟩ : ByteArray) 0 1 (([1, 2, 1] : List Int))).bind fun t345 => (selvedgelaw17_PairsKnown.j0 k 1 2 14 t345)) else (none))) else (none))) else (none))) else (none))) else (none))) else (none))) else (none))) = some r := by first | (rw [hy314]; with_reducible exact H) | (have H2_ := (Option.bind_some _ _).symm.trans H; rw [hy314]; with_reducible exact H2_) | (have H2_ := (Option.bind_some _ _).symm.trans H; with_reducible exact H2_) | with_reducible exact H | (rw [hy314]; exact H) | exact H
  have Ny314 := Aside0.mk hy314
  clear hy314
  replace H := Option.bind_eq_some_iff.mp H
  obtain ⟨t317, A20, H⟩ := H
  replace H : (if t317 = true then ((selvedgelaw17_become.f k (⟨#[97, 40, 215, 144, 41]⟩ : ByteArray) 0 1 (([1, 1, 2, 1] : List Int))).bind fun t321 => (if t321 = true then ((selvedgelaw17_become.f k (⟨#[215, 144, 40, 97, 41]⟩ : ByteArray) 1 2 (([2, 2, 1, 2] : List Int))).bind fun t325 => (if t325 = true then ((selvedgelaw17_become.f k (⟨#[40, 33, 41]⟩ : ByteArray) 0 1 (([14, 14, 14] : List Int))).bind fun t329 => (if t329 = true then ((selvedgelaw17_become.f k (⟨#[215, 144, 40, 215, 144, 41, 204, 129]⟩ : ByteArray) 0 1 (([2, 2, 2, 2, 2] : List Int))).bind fun t333 => (if t333 = true then ((selvedgelaw17_become.f k (⟨#[40, 91, 41, 93, 97]⟩ : ByteArray) 0 1 (([14, 14, 14, 14, 1] : List Int))).bind fun t337 => (if t337 = true then ((selvedgelaw17_become.f k (⟨#[40, 215, 144, 41]⟩ : ByteArray) 0 2 (([2, 2, 2] : List Int))).bind fun t341 => (if t341 = true then ((selvedgelaw17_become.f k (⟨#[40, 215, 144, 41]⟩ : ByteArray) 0 1 (([1, 2, 1] : List Int))).bind fun t345 => (selvedgelaw17_PairsKnown.j0 k 1 2 14 t345)) else (none))) else (none))) else (none))) else (none))) else (none))) else (none))) else (none)) = some r := H
  have A2 := Aside0.mk A20
  clear A20
  by_cases c3 : t317 = true
  ·subst c3
   have H1 : ((selvedgelaw17_become.f k (⟨#[97, 40, 215, 144, 41]⟩ : ByteArray) 0 1 (([1, 1, 2, 1] : List Int))).bind fun t321 => (if t321 = true then ((selvedgelaw17_become.f k (⟨#[215, 144, 40, 97, 41]⟩ : ByteArray) 1 2 (([2, 2, 1, 2] : List Int))).bind fun t325 => (if t325 = true then ((selvedgelaw17_become.f k (⟨#[40, 33, 41]⟩ : ByteArray) 0 1 (([14, 14, 14] : List Int))).bind fun t329 => (if t329 = true then ((selvedgelaw17_become.f k (⟨#[215, 144, 40, 215, 144, 41, 204, 129]⟩ : ByteArray) 0 1 (([2, 2, 2, 2, 2] : List Int))).bind fun t333 => (if t333 = true then ((selvedgelaw17_become.f k (⟨#[40, 91, 41, 93, 97]⟩ : ByteArray) 0 1 (([14, 14, 14, 14, 1] : List Int))).bind fun t337 => (if t337 = true then ((selvedgelaw17_become.f k (⟨#[40, 215, 144, 41]⟩ : ByteArray) 0 2 (([2, 2, 2] : List Int))).bind fun t341 => (if t341 = true then ((selvedgelaw17_become.f k (⟨#[40, 215, 144, 41]⟩ : ByteArray) 0 1 (([1, 2, 1] : List Int))).bind fun t345 => (selvedgelaw17_PairsKnown.j0 k 1 2 14 t345)) else (none))) else (none))) else (none))) else (none))) else (none))) else (none))) = some r := by rw [if_pos rfl] at H; exact H
   clear H
   have H := H1
   clear H1
   obtain ⟨y318, hy318⟩ : ∃ y_ : List Int, y_ = (([1, 1, 2, 1] : List Int)) := ⟨_, rfl⟩
   replace H : ((selvedgelaw17_become.f k (⟨#[97, 40, 215, 144, 41]⟩ : ByteArray) 0 1 y318).bind fun t321 => (if t321 = true then ((selvedgelaw17_become.f k (⟨#[215, 144, 40, 97, 41]⟩ : ByteArray) 1 2 (([2, 2, 1, 2] : List Int))).bind fun t325 => (if t325 = true then ((selvedgelaw17_become.f k (⟨#[40, 33, 41]⟩ : ByteArray) 0 1 (([14, 14, 14] : List Int))).bind fun t329 => (if t329 = true then ((selvedgelaw17_become.f k (⟨#[215, 144, 40, 215, 144, 41, 204, 129]⟩ : ByteArray) 0 1 (([2, 2, 2, 2, 2] : List Int))).bind fun t333 => (if t333 = true then ((selvedgelaw17_become.f k (⟨#[40, 91, 41, 93, 97]⟩ : ByteArray) 0 1 (([14, 14, 14, 14, 1] : List Int))).bind fun t337 => (if t337 = true then ((selvedgelaw17_become.f k (⟨#[40, 215, 144, 41]⟩ : ByteArray) 0 2 (([2, 2, 2] : List Int))).bind fun t341 => (if t341 = true then ((selvedgelaw17_become.f k (⟨#[40, 215, 144, 41]⟩ : ByteArray) 0 1 (([1, 2, 1] : List Int))).bind fun t345 => (selvedgelaw17_PairsKnown.j0 k 1 2 14 t345)) else (none))) else (none))) else (none))) else (none))) else (none))) else (none))) = some r := by first | (rw [hy318]; with_reducible exact H) | (have H2_ := (Option.bind_some _ _).symm.trans H; rw [hy318]; with_reducible exact H2_) | (have H2_ := (Option.bind_some _ _).symm.trans H; with_reducible exact H2_) | with_reducible exact H | (rw [hy318]; exact H) | exact H
   have Ny318 := Aside0.mk hy318
   clear hy318
   replace H := Option.bind_eq_some_iff.mp H
   obtain ⟨t321, A40, H⟩ := H
   replace H : (if t321 = true then ((selvedgelaw17_become.f k (⟨#[215, 144, 40, 97, 41]⟩ : ByteArray) 1 2 (([2, 2, 1, 2] : List Int))).bind fun t325 => (if t325 = true then ((selvedgelaw17_become.f k (⟨#[40, 33, 41]⟩ : ByteArray) 0 1 (([14, 14, 14] : List Int))).bind fun t329 => (if t329 = true then ((selvedgelaw17_become.f k (⟨#[215, 144, 40, 215, 144, 41, 204, 129]⟩ : ByteArray) 0 1 (([2, 2, 2, 2, 2] : List Int))).bind fun t333 => (if t333 = true then ((selvedgelaw17_become.f k (⟨#[40, 91, 41, 93, 97]⟩ : ByteArray) 0 1 (([14, 14, 14, 14, 1] : List Int))).bind fun t337 => (if t337 = true then ((selvedgelaw17_become.f k (⟨#[40, 215, 144, 41]⟩ : ByteArray) 0 2 (([2, 2, 2] : List Int))).bind fun t341 => (if t341 = true then ((selvedgelaw17_become.f k (⟨#[40, 215, 144, 41]⟩ : ByteArray) 0 1 (([1, 2, 1] : List Int))).bind fun t345 => (selvedgelaw17_PairsKnown.j0 k 1 2 14 t345)) else (none))) else (none))) else (none))) else (none))) else (none))) else (none)) = some r := H
   have A4 := Aside0.mk A40
   clear A40
   by_cases c5 : t321 = true
   ·subst c5
    have H1 : ((selvedgelaw17_become.f k (⟨#[215, 144, 40, 97, 41]⟩ : ByteArray) 1 2 (([2, 2, 1, 2] : List Int))).bind fun t325 => (if t325 = true then ((selvedgelaw17_become.f k (⟨#[40, 33, 41]⟩ : ByteArray) 0 1 (([14, 14, 14] : List Int))).bind fun t329 => (if t329 = true then ((selvedgelaw17_become.f k (⟨#[215, 144, 40, 215, 144, 41, 204, 129]⟩ : ByteArray) 0 1 (([2, 2, 2, 2, 2] : List Int))).bind fun t333 => (if t333 = true then ((selvedgelaw17_become.f k (⟨#[40, 91, 41, 93, 97]⟩ : ByteArray) 0 1 (([14, 14, 14, 14, 1] : List Int))).bind fun t337 => (if t337 = true then ((selvedgelaw17_become.f k (⟨#[40, 215, 144, 41]⟩ : ByteArray) 0 2 (([2, 2, 2] : List Int))).bind fun t341 => (if t341 = true then ((selvedgelaw17_become.f k (⟨#[40, 215, 144, 41]⟩ : ByteArray) 0 1 (([1, 2, 1] : List Int))).bind fun t345 => (selvedgelaw17_PairsKnown.j0 k 1 2 14 t345)) else (none))) else (none))) else (none))) else (none))) else (none))) = some r := by rw [if_pos rfl] at H; exact H
    clear H
    have H := H1
    clear H1
    obtain ⟨y322, hy322⟩ : ∃ y_ : List Int, y_ = (([2, 2, 1, 2] : List Int)) := ⟨_, rfl⟩
    replace H : ((selvedgelaw17_become.f k (⟨#[215, 144, 40, 97, 41]⟩ : ByteArray) 1 2 y322).bind fun t325 => (if t325 = true then ((selvedgelaw17_become.f k (⟨#[40, 33, 41]⟩ : ByteArray) 0 1 (([14, 14, 14] : List Int))).bind fun t329 => (if t329 = true then ((selvedgelaw17_become.f k (⟨#[215, 144, 40, 215, 144, 41, 204, 129]⟩ : ByteArray) 0 1 (([2, 2, 2, 2, 2] : List Int))).bind fun t333 => (if t333 = true then ((selvedgelaw17_become.f k (⟨#[40, 91, 41, 93, 97]⟩ : ByteArray) 0 1 (([14, 14, 14, 14, 1] : List Int))).bind fun t337 => (if t337 = true then ((selvedgelaw17_become.f k (⟨#[40, 215, 144, 41]⟩ : ByteArray) 0 2 (([2, 2, 2] : List Int))).bind fun t341 => (if t341 = true then ((selvedgelaw17_become.f k (⟨#[40, 215, 144, 41]⟩ : ByteArray) 0 1 (([1, 2, 1] : List Int))).bind fun t345 => (selvedgelaw17_PairsKnown.j0 k 1 2 14 t345)) else (none))) else (none))) else (none))) else (none))) else (none))) = some r := by first | (rw [hy322]; with_reducible exact H) | (have H2_ := (Option.bind_some _ _).symm.trans H; rw [hy322]; with_reducible exact H2_) | (have H2_ := (Option.bind_some _ _).symm.trans H; with_reducible exact H2_) | with_reducible exact H | (rw [hy322]; exact H) | exact H
    have Ny322 := Aside0.mk hy322
    clear hy322
    replace H := Option.bind_eq_some_iff.mp H
    obtain ⟨t325, A60, H⟩ := H
    replace H : (if t325 = true then ((selvedgelaw17_become.f k (⟨#[40, 33, 41]⟩ : ByteArray) 0 1 (([14, 14, 14] : List Int))).bind fun t329 => (if t329 = true then ((selvedgelaw17_become.f k (⟨#[215, 144, 40, 215, 144, 41, 204, 129]⟩ : ByteArray) 0 1 (([2, 2, 2, 2, 2] : List Int))).bind fun t333 => (if t333 = true then ((selvedgelaw17_become.f k (⟨#[40, 91, 41, 93, 97]⟩ : ByteArray) 0 1 (([14, 14, 14, 14, 1] : List Int))).bind fun t337 => (if t337 = true then ((selvedgelaw17_become.f k (⟨#[40, 215, 144, 41]⟩ : ByteArray) 0 2 (([2, 2, 2] : List Int))).bind fun t341 => (if t341 = true then ((selvedgelaw17_become.f k (⟨#[40, 215, 144, 41]⟩ : ByteArray) 0 1 (([1, 2, 1] : List Int))).bind fun t345 => (selvedgelaw17_PairsKnown.j0 k 1 2 14 t345)) else (none))) else (none))) else (none))) else (none))) else (none)) = some r := H
    have A6 := Aside0.mk A60
    clear A60
    by_cases c7 : t325 = true
    ·subst c7
     have H1 : ((selvedgelaw17_become.f k (⟨#[40, 33, 41]⟩ : ByteArray) 0 1 (([14, 14, 14] : List Int))).bind fun t329 => (if t329 = true then ((selvedgelaw17_become.f k (⟨#[215, 144, 40, 215, 144, 41, 204, 129]⟩ : ByteArray) 0 1 (([2, 2, 2, 2, 2] : List Int))).bind fun t333 => (if t333 = true then ((selvedgelaw17_become.f k (⟨#[40, 91, 41, 93, 97]⟩ : ByteArray) 0 1 (([14, 14, 14, 14, 1] : List Int))).bind fun t337 => (if t337 = true then ((selvedgelaw17_become.f k (⟨#[40, 215, 144, 41]⟩ : ByteArray) 0 2 (([2, 2, 2] : List Int))).bind fun t341 => (if t341 = true then ((selvedgelaw17_become.f k (⟨#[40, 215, 144, 41]⟩ : ByteArray) 0 1 (([1, 2, 1] : List Int))).bind fun t345 => (selvedgelaw17_PairsKnown.j0 k 1 2 14 t345)) else (none))) else (none))) else (none))) else (none))) = some r := by rw [if_pos rfl] at H; exact H
     clear H
     have H := H1
     clear H1
     obtain ⟨y326, hy326⟩ : ∃ y_ : List Int, y_ = (([14, 14, 14] : List Int)) := ⟨_, rfl⟩
     replace H : ((selvedgelaw17_become.f k (⟨#[40, 33, 41]⟩ : ByteArray) 0 1 y326).bind fun t329 => (if t329 = true then ((selvedgelaw17_become.f k (⟨#[215, 144, 40, 215, 144, 41, 204, 129]⟩ : ByteArray) 0 1 (([2, 2, 2, 2, 2] : List Int))).bind fun t333 => (if t333 = true then ((selvedgelaw17_become.f k (⟨#[40, 91, 41, 93, 97]⟩ : ByteArray) 0 1 (([14, 14, 14, 14, 1] : List Int))).bind fun t337 => (if t337 = true then ((selvedgelaw17_become.f k (⟨#[40, 215, 144, 41]⟩ : ByteArray) 0 2 (([2, 2, 2] : List Int))).bind fun t341 => (if t341 = true then ((selvedgelaw17_become.f k (⟨#[40, 215, 144, 41]⟩ : ByteArray) 0 1 (([1, 2, 1] : List Int))).bind fun t345 => (selvedgelaw17_PairsKnown.j0 k 1 2 14 t345)) else (none))) else (none))) else (none))) else (none))) = some r := by first | (rw [hy326]; with_reducible exact H) | (have H2_ := (Option.bind_some _ _).symm.trans H; rw [hy326]; with_reducible exact H2_) | (have H2_ := (Option.bind_some _ _).symm.trans H; with_reducible exact H2_) | with_reducible exact H | (rw [hy326]; exact H) | exact H
     have Ny326 := Aside0.mk hy326
     clear hy326
     replace H := Option.bind_eq_some_iff.mp H
     obtain ⟨t329, A80, H⟩ := H
     replace H : (if t329 = true then ((selvedgelaw17_become.f k (⟨#[215, 144, 40, 215, 144, 41, 204, 129]⟩ : ByteArray) 0 1 (([2, 2, 2, 2, 2] : List Int))).bind fun t333 => (if t333 = true then ((selvedgelaw17_become.f k (⟨#[40, 91, 41, 93, 97]⟩ : ByteArray) 0 1 (([14, 14, 14, 14, 1] : List Int))).bind fun t337 => (if t337 = true then ((selvedgelaw17_become.f k (⟨#[40, 215, 144, 41]⟩ : ByteArray) 0 2 (([2, 2, 2] : List Int))).bind fun t341 => (if t341 = true then ((selvedgelaw17_become.f k (⟨#[40, 215, 144, 41]⟩ : ByteArray) 0 1 (([1, 2, 1] : List Int))).bind fun t345 => (selvedgelaw17_PairsKnown.j0 k 1 2 14 t345)) else (none))) else (none))) else (none))) else (none)) = some r := H
     have A8 := Aside0.mk A80
     clear A80
     by_cases c9 : t329 = true
     ·subst c9
      have H1 : ((selvedgelaw17_become.f k (⟨#[215, 144, 40, 215, 144, 41, 204, 129]⟩ : ByteArray) 0 1 (([2, 2, 2, 2, 2] : List Int))).bind fun t333 => (if t333 = true then ((selvedgelaw17_become.f k (⟨#[40, 91, 41, 93, 97]⟩ : ByteArray) 0 1 (([14, 14, 14, 14, 1] : List Int))).bind fun t337 => (if t337 = true then ((selvedgelaw17_become.f k (⟨#[40, 215, 144, 41]⟩ : ByteArray) 0 2 (([2, 2, 2] : List Int))).bind fun t341 => (if t341 = true then ((selvedgelaw17_become.f k (⟨#[40, 215, 144, 41]⟩ : ByteArray) 0 1 (([1, 2, 1] : List Int))).bind fun t345 => (selvedgelaw17_PairsKnown.j0 k 1 2 14 t345)) else (none))) else (none))) else (none))) = some r := by rw [if_pos rfl] at H; exact H
      clear H
      have H := H1
      clear H1
      obtain ⟨y330, hy330⟩ : ∃ y_ : List Int, y_ = (([2, 2, 2, 2, 2] : List Int)) := ⟨_, rfl⟩
      replace H : ((selvedgelaw17_become.f k (⟨#[215, 144, 40, 215, 144, 41, 204, 129]⟩ : ByteArray) 0 1 y330).bind fun t333 => (if t333 = true then ((selvedgelaw17_become.f k (⟨#[40, 91, 41, 93, 97]⟩ : ByteArray) 0 1 (([14, 14, 14, 14, 1] : List Int))).bind fun t337 => (if t337 = true then ((selvedgelaw17_become.f k (⟨#[40, 215, 144, 41]⟩ : ByteArray) 0 2 (([2, 2, 2] : List Int))).bind fun t341 => (if t341 = true then ((selvedgelaw17_become.f k (⟨#[40, 215, 144, 41]⟩ : ByteArray) 0 1 (([1, 2, 1] : List Int))).bind fun t345 => (selvedgelaw17_PairsKnown.j0 k 1 2 14 t345)) else (none))) else (none))) else (none))) = some r := by first | (rw [hy330]; with_reducible exact H) | (have H2_ := (Option.bind_some _ _).symm.trans H; rw [hy330]; with_reducible exact H2_) | (have H2_ := (Option.bind_some _ _).symm.trans H; with_reducible exact H2_) | with_reducible exact H | (rw [hy330]; exact H) | exact H
      have Ny330 := Aside0.mk hy330
      clear hy330
      replace H := Option.bind_eq_some_iff.mp H
      obtain ⟨t333, A100, H⟩ := H
      replace H : (if t333 = true then ((selvedgelaw17_become.f k (⟨#[40, 91, 41, 93, 97]⟩ : ByteArray) 0 1 (([14, 14, 14, 14, 1] : List Int))).bind fun t337 => (if t337 = true then ((selvedgelaw17_become.f k (⟨#[40, 215, 144, 41]⟩ : ByteArray) 0 2 (([2, 2, 2] : List Int))).bind fun t341 => (if t341 = true then ((selvedgelaw17_become.f k (⟨#[40, 215, 144, 41]⟩ : ByteArray) 0 1 (([1, 2, 1] : List Int))).bind fun t345 => (selvedgelaw17_PairsKnown.j0 k 1 2 14 t345)) else (none))) else (none))) else (none)) = some r := H
      have A10 := Aside0.mk A100
      clear A100
      by_cases c11 : t333 = true
      ·subst c11
       have H1 : ((selvedgelaw17_become.f k (⟨#[40, 91, 41, 93, 97]⟩ : ByteArray) 0 1 (([14, 14, 14, 14, 1] : List Int))).bind fun t337 => (if t337 = true then ((selvedgelaw17_become.f k (⟨#[40, 215, 144, 41]⟩ : ByteArray) 0 2 (([2, 2, 2] : List Int))).bind fun t341 => (if t341 = true then ((selvedgelaw17_become.f k (⟨#[40, 215, 144, 41]⟩ : ByteArray) 0 1 (([1, 2, 1] : List Int))).bind fun t345 => (selvedgelaw17_PairsKnown.j0 k 1 2 14 t345)) else (none))) else (none))) = some r := by rw [if_pos rfl] at H; exact H
       clear H
       have H := H1
       clear H1
       obtain ⟨y334, hy334⟩ : ∃ y_ : List Int, y_ = (([14, 14, 14, 14, 1] : List Int)) := ⟨_, rfl⟩
       replace H : ((selvedgelaw17_become.f k (⟨#[40, 91, 41, 93, 97]⟩ : ByteArray) 0 1 y334).bind fun t337 => (if t337 = true then ((selvedgelaw17_become.f k (⟨#[40, 215, 144, 41]⟩ : ByteArray) 0 2 (([2, 2, 2] : List Int))).bind fun t341 => (if t341 = true then ((selvedgelaw17_become.f k (⟨#[40, 215, 144, 41]⟩ : ByteArray) 0 1 (([1, 2, 1] : List Int))).bind fun t345 => (selvedgelaw17_PairsKnown.j0 k 1 2 14 t345)) else (none))) else (none))) = some r := by first | (rw [hy334]; with_reducible exact H) | (have H2_ := (Option.bind_some _ _).symm.trans H; rw [hy334]; with_reducible exact H2_) | (have H2_ := (Option.bind_some _ _).symm.trans H; with_reducible exact H2_) | with_reducible exact H | (rw [hy334]; exact H) | exact H
       have Ny334 := Aside0.mk hy334
       clear hy334
       replace H := Option.bind_eq_some_iff.mp H
       obtain ⟨t337, A120, H⟩ := H
       replace H : (if t337 = true then ((selvedgelaw17_become.f k (⟨#[40, 215, 144, 41]⟩ : ByteArray) 0 2 (([2, 2, 2] : List Int))).bind fun t341 => (if t341 = true then ((selvedgelaw17_become.f k (⟨#[40, 215, 144, 41]⟩ : ByteArray) 0 1 (([1, 2, 1] : List Int))).bind fun t345 => (selvedgelaw17_PairsKnown.j0 k 1 2 14 t345)) else (none))) else (none)) = some r := H
       have A12 := Aside0.mk A120
       clear A120
       by_cases c13 : t337 = true
       ·subst c13
        have H1 : ((selvedgelaw17_become.f k (⟨#[40, 215, 144, 41]⟩ : ByteArray) 0 2 (([2, 2, 2] : List Int))).bind fun t341 => (if t341 = true then ((selvedgelaw17_become.f k (⟨#[40, 215, 144, 41]⟩ : ByteArray) 0 1 (([1, 2, 1] : List Int))).bind fun t345 => (selvedgelaw17_PairsKnown.j0 k 1 2 14 t345)) else (none))) = some r := by rw [if_pos rfl] at H; exact H
        clear H
        have H := H1
        clear H1
        obtain ⟨y338, hy338⟩ : ∃ y_ : List Int, y_ = (([2, 2, 2] : List Int)) := ⟨_, rfl⟩
        replace H : ((selvedgelaw17_become.f k (⟨#[40, 215, 144, 41]⟩ : ByteArray) 0 2 y338).bind fun t341 => (if t341 = true then ((selvedgelaw17_become.f k (⟨#[40, 215, 144, 41]⟩ : ByteArray) 0 1 (([1, 2, 1] : List Int))).bind fun t345 => (selvedgelaw17_PairsKnown.j0 k 1 2 14 t345)) else (none))) = some r := by first | (rw [hy338]; with_reducible exact H) | (have H2_ := (Option.bind_some _ _).symm.trans H; rw [hy338]; with_reducible exact H2_) | (have H2_ := (Option.bind_some _ _).symm.trans H; with_reducible exact H2_) | with_reducible exact H | (rw [hy338]; exact H) | exact H
        have Ny338 := Aside0.mk hy338
        clear hy338
        replace H := Option.bind_eq_some_iff.mp H
        obtain ⟨t341, A140, H⟩ := H
        replace H : (if t341 = true then ((selvedgelaw17_become.f k (⟨#[40, 215, 144, 41]⟩ : ByteArray) 0 1 (([1, 2, 1] : List Int))).bind fun t345 => (selvedgelaw17_PairsKnown.j0 k 1 2 14 t345)) else (none)) = some r := H
        have A14 := Aside0.mk A140
        clear A140
        by_cases c15 : t341 = true
        ·subst c15
         have H1 : ((selvedgelaw17_become.f k (⟨#[40, 215, 144, 41]⟩ : ByteArray) 0 1 (([1, 2, 1] : List Int))).bind fun t345 => (selvedgelaw17_PairsKnown.j0 k 1 2 14 t345)) = some r := by rw [if_pos rfl] at H; exact H
         clear H
         have H := H1
         clear H1
         obtain ⟨y342, hy342⟩ : ∃ y_ : List Int, y_ = (([1, 2, 1] : List Int)) := ⟨_, rfl⟩
         replace H : ((selvedgelaw17_become.f k (⟨#[40, 215, 144, 41]⟩ : ByteArray) 0 1 y342).bind fun t345 => (selvedgelaw17_PairsKnown.j0 k 1 2 14 t345)) = some r := by first | (rw [hy342]; with_reducible exact H) | (have H2_ := (Option.bind_some _ _).symm.trans H; rw [hy342]; with_reducible exact H2_) | (have H2_ := (Option.bind_some _ _).symm.trans H; with_reducible exact H2_) | with_reducible exact H | (rw [hy342]; exact H) | exact H
         have Ny342 := Aside0.mk hy342
         clear hy342
         replace H := Option.bind_eq_some_iff.mp H
         obtain ⟨t345, A160, H⟩ := H
         replace H : (selvedgelaw17_PairsKnown.j0 k 1 2 14 t345) = some r := H
         have A16 := Aside0.mk A160
         clear A160
         have H' := Aside0.mk H
         clear H
         go_wp2_with (first | ((with_reducible refine gate_dst (N := 24) rfl ?_); (try (refine gate_guard (by rfl) ?_; dsimp only)); refine Kd.R_lit (Kd.int .u8) _ 33 ?hg (N := 24) ?hd (xs := ([2, 2, 4, 2] : List Int)) (inner := [.int .u8 2, .int .u8 2, .int .u8 4, .int .u8 2]) (ok := fun _ => True) (okp := fun _ => True) ?hr ?hp (fun _ hk => hk) trivial (Below.refl _ _) (Nat.le_refl _) (by simp) ?_; (case hd => rfl); (case hg => rfl); (case hr => first | (go_simp; done) | (go_simp; rfl)); (case hp => exact (Reps.one (show Kd.M (Kd.int .u8) _ _ _ 2 [.int .u8 2] from rfl) (Reps.one (show Kd.M (Kd.int .u8) _ _ _ 2 [.int .u8 2] from rfl) (Reps.one (show Kd.M (Kd.int .u8) _ _ _ 4 [.int .u8 4] from rfl) (Reps.one (show Kd.M (Kd.int .u8) _ _ _ 2 [.int .u8 2] from rfl) (Reps.none _ _)))))); intro v315 w17 ho18 hb hg_ hnew_; clear hg_ hnew_; (first | rw [← Ny314.out] at ho18 | (simp only [Int.reduceToNat] at ho18; rw [← Ny314.out] at ho18)); have n0_ := Aside0.mk (Kd.R_lower ho18 (below_size (mvB HB))); have n1_ := Aside0.mk (below_step (mvB HB) hb); clear HB; have HO316 := n0_; have HB := n1_; clear n0_ n1_; clear hb ho18; obtain ⟨Ao19, co19, eo19⟩ := Kd.R_slice HO316.out; subst eo19) | ((with_reducible refine gate_callee (f := 16) rfl ?_); refine goesL_ (some 25) rfl rfl Tryd.func16 (by kernel_rfl) rfl #[.string (⟨#[215, 144, 40, 49, 41]⟩ : ByteArray), .int .u8 0, .int .u8 1, .slice Ao19 y314.length co19] rfl (by (try simp only [List.map_toArray, List.map_cons, List.map_nil]); first | done | rfl | (simp only [List.length_drop, List.length_take]; rfl)) ?_; (with_reducible refine (selvedgelaw17_become.calls k (⟨#[215, 144, 40, 49, 41]⟩ : ByteArray) 0 1 _ _ y314 true _ ?side1 ?side2 A2.out (by exact HT.out.below (mvB HB))).mono ?_); (case side1 => repeat (first | exact (Kd.R_reads' HO316.out).2.2 | (with_reducible refine Kd.C_alloc ?_ _) | (with_reducible refine Kd.C_drewN ?_ _) | (with_reducible refine Kd.C_drew ?_))); (case side2 => exact (Kd.R_reads' HO316.out).2.1); rintro e w20 ⟨rfl, hb⟩; refine ⟨_, rfl, ?_⟩; have n0_ := Aside0.mk (Kd.R_below (mvR HO316) hb); have n1_ := Aside0.mk (below_step (mvB HB) hb); clear HO316; clear HB; have HO316 := n0_; have HB := n1_; clear n0_ n1_; (try clear hb); (try clear hb2); (try clear hk); (try clear hi)) | ((with_reducible refine gate_dst (N := 31) rfl ?_); (try (refine gate_guard (by rfl) ?_; dsimp only)); refine Kd.R_lit (Kd.int .u8) _ 33 ?hg (N := 31) ?hd (xs := ([1, 1, 2, 1] : List Int)) (inner := [.int .u8 1, .int .u8 1, .int .u8 2, .int .u8 1]) (ok := fun _ => True) (okp := fun _ => True) ?hr ?hp (fun _ hk => hk) trivial (Below.refl _ _) (Nat.le_refl _) (by simp) ?_; (case hd => rfl); (case hg => rfl); (case hr => first | (go_simp; done) | (go_simp; rfl)); (case hp => exact (Reps.one (show Kd.M (Kd.int .u8) _ _ _ 1 [.int .u8 1] from rfl) (Reps.one (show Kd.M (Kd.int .u8) _ _ _ 1 [.int .u8 1] from rfl) (Reps.one (show Kd.M (Kd.int .u8) _ _ _ 2 [.int .u8 2] from rfl) (Reps.one (show Kd.M (Kd.int .u8) _ _ _ 1 [.int .u8 1] from rfl) (Reps.none _ _)))))); intro v319 w21 ho22 hb hg_ hnew_; clear hg_ hnew_; (first | rw [← Ny318.out] at ho22 | (simp only [Int.reduceToNat] at ho22; rw [← Ny318.out] at ho22)); have n0_ := Aside0.mk (Kd.R_elder' (mvR HO316) (Kd.R_base ho22) hb); have n1_ := Aside0.mk (Kd.R_lower (Kd.R_new' ho22 (Kd.R_lt (mvR HO316))) (below_size (mvB HB))); have n2_ := Aside0.mk (below_step (mvB HB) hb); clear HO316; clear HB; have HO316 := n0_; have HO320 := n1_; have HB := n2_; clear n0_ n1_ n2_; clear hb ho22; obtain ⟨Ao23, co23, eo23⟩ := Kd.R_slice HO320.out; subst eo23) | (go_at_call 16; (with_reducible refine (selvedgelaw17_become.calls k (⟨#[97, 40, 215, 144, 41]⟩ : ByteArray) 0 1 _ _ y318 true _ ?side1 ?side2 A4.out (by exact HT.out.below (mvB HB))).mono ?_); (case side1 => repeat (first | exact (Kd.R_reads' HO320.out).2.2 | (with_reducible refine Kd.C_alloc ?_ _) | (with_reducible refine Kd.C_drewN ?_ _) | (with_reducible refine Kd.C_drew ?_))); (case side2 => exact (Kd.R_reads' HO320.out).2.1); rintro e w24 ⟨rfl, hb⟩; have n0_ := Aside0.mk (Kd.R_below (mvR HO316) hb); have n1_ := Aside0.mk (Kd.R_below (mvR HO320) hb); have n2_ := Aside0.mk (below_step (mvB HB) hb); clear HO316; clear HO320; clear HB; have HO316 := n0_; have HO320 := n1_; have HB := n2_; clear n0_ n1_ n2_; (try clear hb); (try clear hb2); (try clear hk); (try clear hi)) | ((with_reducible refine gate_dst (N := 39) rfl ?_); (try (refine gate_guard (by rfl) ?_; dsimp only)); refine Kd.R_lit (Kd.int .u8) _ 33 ?hg (N := 39) ?hd (xs := ([2, 2, 1, 2] : List Int)) (inner := [.int .u8 2, .int .u8 2, .int .u8 1, .int .u8 2]) (ok := fun _ => True) (okp := fun _ => True) ?hr ?hp (fun _ hk => hk) trivial (Below.refl _ _) (Nat.le_refl _) (by simp) ?_; (case hd => rfl); (case hg => rfl); (case hr => first | (go_simp; done) | (go_simp; rfl)); (case hp => exact (Reps.one (show Kd.M (Kd.int .u8) _ _ _ 2 [.int .u8 2] from rfl) (Reps.one (show Kd.M (Kd.int .u8) _ _ _ 2 [.int .u8 2] from rfl) (Reps.one (show Kd.M (Kd.int .u8) _ _ _ 1 [.int .u8 1] from rfl) (Reps.one (show Kd.M (Kd.int .u8) _ _ _ 2 [.int .u8 2] from rfl) (Reps.none _ _)))))); intro v323 w25 ho26 hb hg_ hnew_; clear hg_ hnew_; (first | rw [← Ny322.out] at ho26 | (simp only [Int.reduceToNat] at ho26; rw [← Ny322.out] at ho26)); have n0_ := Aside0.mk (Kd.R_elder' (mvR HO316) (Kd.R_base ho26) hb); have n1_ := Aside0.mk (Kd.R_elder' (mvR HO320) (Kd.R_base ho26) hb); have n2_ := Aside0.mk (Kd.R_lower (Kd.R_new' (Kd.R_new' ho26 (Kd.R_lt (mvR HO316))) (Kd.R_lt (mvR HO320))) (below_size (mvB HB))); have n3_ := Aside0.mk (below_step (mvB HB) hb); clear HO316; clear HO320; clear HB; have HO316 := n0_; have HO320 := n1_; have HO324 := n2_; have HB := n3_; clear n0_ n1_ n2_ n3_; clear hb ho26; obtain ⟨Ao27, co27, eo27⟩ := Kd.R_slice HO324.out; subst eo27) | (go_at_call 16; (with_reducible refine (selvedgelaw17_become.calls k (⟨#[215, 144, 40, 97, 41]⟩ : ByteArray) 1 2 _ _ y322 true _ ?side1 ?side2 A6.out (by exact HT.out.below (mvB HB))).mono ?_); (case side1 => repeat (first | exact (Kd.R_reads' HO324.out).2.2 | (with_reducible refine Kd.C_alloc ?_ _) | (with_reducible refine Kd.C_drewN ?_ _) | (with_reducible refine Kd.C_drew ?_))); (case side2 => exact (Kd.R_reads' HO324.out).2.1); rintro e w28 ⟨rfl, hb⟩; have n0_ := Aside0.mk (Kd.R_below (mvR HO316) hb); have n1_ := Aside0.mk (Kd.R_below (mvR HO320) hb); have n2_ := Aside0.mk (Kd.R_below (mvR HO324) hb); have n3_ := Aside0.mk (below_step (mvB HB) hb); clear HO316; clear HO320; clear HO324; clear HB; have HO316 := n0_; have HO320 := n1_; have HO324 := n2_; have HB := n3_; clear n0_ n1_ n2_ n3_; (try clear hb); (try clear hb2); (try clear hk); (try clear hi)) | ((with_reducible refine gate_dst (N := 46) rfl ?_); (try (refine gate_guard (by rfl) ?_; dsimp only)); refine Kd.R_lit (Kd.int .u8) _ 33 ?hg (N := 46) ?hd (xs := ([14, 14, 14] : List Int)) (inner := [.int .u8 14, .int .u8 14, .int .u8 14]) (ok := fun _ => True) (okp := fun _ => True) ?hr ?hp (fun _ hk => hk) trivial (Below.refl _ _) (Nat.le_refl _) (by simp) ?_; (case hd => rfl); (case hg => rfl); (case hr => first | (go_simp; done) | (go_simp; rfl)); (case hp => exact (Reps.one (show Kd.M (Kd.int .u8) _ _ _ 14 [.int .u8 14] from rfl) (Reps.one (show Kd.M (Kd.int .u8) _ _ _ 14 [.int .u8 14] from rfl) (Reps.one (show Kd.M (Kd.int .u8) _ _ _ 14 [.int .u8 14] from rfl) (Reps.none _ _))))); intro v327 w29 ho30 hb hg_ hnew_; clear hg_ hnew_; (first | rw [← Ny326.out] at ho30 | (simp only [Int.reduceToNat] at ho30; rw [← Ny326.out] at ho30)); have n0_ := Aside0.mk (Kd.R_elder' (mvR HO316) (Kd.R_base ho30) hb); have n1_ := Aside0.mk (Kd.R_elder' (mvR HO320) (Kd.R_base ho30) hb); have n2_ := Aside0.mk (Kd.R_elder' (mvR HO324) (Kd.R_base ho30) hb); have n3_ := Aside0.mk (Kd.R_lower (Kd.R_new' (Kd.R_new' (Kd.R_new' ho30 (Kd.R_lt (mvR HO316))) (Kd.R_lt (mvR HO320))) (Kd.R_lt (mvR HO324))) (below_size (mvB HB))); have n4_ := Aside0.mk (below_step (mvB HB) hb); clear HO316; clear HO320; clear HO324; clear HB; have HO316 := n0_; have HO320 := n1_; have HO324 := n2_; have HO328 := n3_; have HB := n4_; clear n0_ n1_ n2_ n3_ n4_; clear hb ho30; obtain ⟨Ao31, co31, eo31⟩ := Kd.R_slice HO328.out; subst eo31) | (go_at_call 16; (with_reducible refine (selvedgelaw17_become.calls k (⟨#[40, 33, 41]⟩ : ByteArray) 0 1 _ _ y326 true _ ?side1 ?side2 A8.out (by exact HT.out.below (mvB HB))).mono ?_); (case side1 => repeat (first | exact (Kd.R_reads' HO328.out).2.2 | (with_reducible refine Kd.C_alloc ?_ _) | (with_reducible refine Kd.C_drewN ?_ _) | (with_reducible refine Kd.C_drew ?_))); (case side2 => exact (Kd.R_reads' HO328.out).2.1); rintro e w32 ⟨rfl, hb⟩; have n0_ := Aside0.mk (Kd.R_below (mvR HO316) hb); have n1_ := Aside0.mk (Kd.R_below (mvR HO320) hb); have n2_ := Aside0.mk (Kd.R_below (mvR HO324) hb); have n3_ := Aside0.mk (Kd.R_below (mvR HO328) hb); have n4_ := Aside0.mk (below_step (mvB HB) hb); clear HO316; clear HO320; clear HO324; clear HO328; clear HB; have HO316 := n0_; have HO320 := n1_; have HO324 := n2_; have HO328 := n3_; have HB := n4_; clear n0_ n1_ n2_ n3_ n4_; (try clear hb); (try clear hb2); (try clear hk); (try clear hi)) | ((with_reducible refine gate_dst (N := 55) rfl ?_); (try (refine gate_guard (by rfl) ?_; dsimp only)); refine Kd.R_lit (Kd.int .u8) _ 33 ?hg (N := 55) ?hd (xs := ([2, 2, 2, 2, 2] : List Int)) (inner := [.int .u8 2, .int .u8 2, .int .u8 2, .int .u8 2, .int .u8 2]) (ok := fun _ => True) (okp := fun _ => True) ?hr ?hp (fun _ hk => hk) trivial (Below.refl _ _) (Nat.le_refl _) (by simp) ?_; (case hd => rfl); (case hg => rfl); (case hr => first | (go_simp; done) | (go_simp; rfl)); (case hp => exact (Reps.one (show Kd.M (Kd.int .u8) _ _ _ 2 [.int .u8 2] from rfl) (Reps.one (show Kd.M (Kd.int .u8) _ _ _ 2 [.int .u8 2] from rfl) (Reps.one (show Kd.M (Kd.int .u8) _ _ _ 2 [.int .u8 2] from rfl) (Reps.one (show Kd.M (Kd.int .u8) _ _ _ 2 [.int .u8 2] from rfl) (Reps.one (show Kd.M (Kd.int .u8) _ _ _ 2 [.int .u8 2] from rfl) (Reps.none _ _))))))); intro v331 w33 ho34 hb hg_ hnew_; clear hg_ hnew_; (first | rw [← Ny330.out] at ho34 | (simp only [Int.reduceToNat] at ho34; rw [← Ny330.out] at ho34)); have n0_ := Aside0.mk (Kd.R_elder' (mvR HO316) (Kd.R_base ho34) hb); have n1_ := Aside0.mk (Kd.R_elder' (mvR HO320) (Kd.R_base ho34) hb); have n2_ := Aside0.mk (Kd.R_elder' (mvR HO324) (Kd.R_base ho34) hb); have n3_ := Aside0.mk (Kd.R_elder' (mvR HO328) (Kd.R_base ho34) hb); have n4_ := Aside0.mk (Kd.R_lower (Kd.R_new' (Kd.R_new' (Kd.R_new' (Kd.R_new' ho34 (Kd.R_lt (mvR HO316))) (Kd.R_lt (mvR HO320))) (Kd.R_lt (mvR HO324))) (Kd.R_lt (mvR HO328))) (below_size (mvB HB))); have n5_ := Aside0.mk (below_step (mvB HB) hb); clear HO316; clear HO320; clear HO324; clear HO328; clear HB; have HO316 := n0_; have HO320 := n1_; have HO324 := n2_; have HO328 := n3_; have HO332 := n4_; have HB := n5_; clear n0_ n1_ n2_ n3_ n4_ n5_; clear hb ho34; obtain ⟨Ao35, co35, eo35⟩ := Kd.R_slice HO332.out; subst eo35) | (go_at_call 16; (with_reducible refine (selvedgelaw17_become.calls k (⟨#[215, 144, 40, 215, 144, 41, 204, 129]⟩ : ByteArray) 0 1 _ _ y330 true _ ?side1 ?side2 A10.out (by exact HT.out.below (mvB HB))).mono ?_); (case side1 => repeat (first | exact (Kd.R_reads' HO332.out).2.2 | (with_reducible refine Kd.C_alloc ?_ _) | (with_reducible refine Kd.C_drewN ?_ _) | (with_reducible refine Kd.C_drew ?_))); (case side2 => exact (Kd.R_reads' HO332.out).2.1); rintro e w36 ⟨rfl, hb⟩; have n0_ := Aside0.mk (Kd.R_below (mvR HO316) hb); have n1_ := Aside0.mk (Kd.R_below (mvR HO320) hb); have n2_ := Aside0.mk (Kd.R_below (mvR HO324) hb); have n3_ := Aside0.mk (Kd.R_below (mvR HO328) hb); have n4_ := Aside0.mk (Kd.R_below (mvR HO332) hb); have n5_ := Aside0.mk (below_step (mvB HB) hb); clear HO316; clear HO320; clear HO324; clear HO328; clear HO332; clear HB; have HO316 := n0_; have HO320 := n1_; have HO324 := n2_; have HO328 := n3_; have HO332 := n4_; have HB := n5_; clear n0_ n1_ n2_ n3_ n4_ n5_; (try clear hb); (try clear hb2); (try clear hk); (try clear hi)) | ((with_reducible refine gate_dst (N := 64) rfl ?_); (try (refine gate_guard (by rfl) ?_; dsimp only)); refine Kd.R_lit (Kd.int .u8) _ 33 ?hg (N := 64) ?hd (xs := ([14, 14, 14, 14, 1] : List Int)) (inner := [.int .u8 14, .int .u8 14, .int .u8 14, .int .u8 14, .int .u8 1]) (ok := fun _ => True) (okp := fun _ => True) ?hr ?hp (fun _ hk => hk) trivial (Below.refl _ _) (Nat.le_refl _) (by simp) ?_; (case hd => rfl); (case hg => rfl); (case hr => first | (go_simp; done) | (go_simp; rfl)); (case hp => exact (Reps.one (show Kd.M (Kd.int .u8) _ _ _ 14 [.int .u8 14] from rfl) (Reps.one (show Kd.M (Kd.int .u8) _ _ _ 14 [.int .u8 14] from rfl) (Reps.one (show Kd.M (Kd.int .u8) _ _ _ 14 [.int .u8 14] from rfl) (Reps.one (show Kd.M (Kd.int .u8) _ _ _ 14 [.int .u8 14] from rfl) (Reps.one (show Kd.M (Kd.int .u8) _ _ _ 1 [.int .u8 1] from rfl) (Reps.none _ _))))))); intro v335 w37 ho38 hb hg_ hnew_; clear hg_ hnew_; (first | rw [← Ny334.out] at ho38 | (simp only [Int.reduceToNat] at ho38; rw [← Ny334.out] at ho38)); have n0_ := Aside0.mk (Kd.R_elder' (mvR HO316) (Kd.R_base ho38) hb); have n1_ := Aside0.mk (Kd.R_elder' (mvR HO320) (Kd.R_base ho38) hb); have n2_ := Aside0.mk (Kd.R_elder' (mvR HO324) (Kd.R_base ho38) hb); have n3_ := Aside0.mk (Kd.R_elder' (mvR HO328) (Kd.R_base ho38) hb); have n4_ := Aside0.mk (Kd.R_elder' (mvR HO332) (Kd.R_base ho38) hb); have n5_ := Aside0.mk (Kd.R_lower (Kd.R_new' (Kd.R_new' (Kd.R_new' (Kd.R_new' (Kd.R_new' ho38 (Kd.R_lt (mvR HO316))) (Kd.R_lt (mvR HO320))) (Kd.R_lt (mvR HO324))) (Kd.R_lt (mvR HO328))) (Kd.R_lt (mvR HO332))) (below_size (mvB HB))); have n6_ := Aside0.mk (below_step (mvB HB) hb); clear HO316; clear HO320; clear HO324; clear HO328; clear HO332; clear HB; have HO316 := n0_; have HO320 := n1_; have HO324 := n2_; have HO328 := n3_; have HO332 := n4_; have HO336 := n5_; have HB := n6_; clear n0_ n1_ n2_ n3_ n4_ n5_ n6_; clear hb ho38; obtain ⟨Ao39, co39, eo39⟩ := Kd.R_slice HO336.out; subst eo39) | (go_at_call 16; (with_reducible refine (selvedgelaw17_become.calls k (⟨#[40, 91, 41, 93, 97]⟩ : ByteArray) 0 1 _ _ y334 true _ ?side1 ?side2 A12.out (by exact HT.out.below (mvB HB))).mono ?_); (case side1 => repeat (first | exact (Kd.R_reads' HO336.out).2.2 | (with_reducible refine Kd.C_alloc ?_ _) | (with_reducible refine Kd.C_drewN ?_ _) | (with_reducible refine Kd.C_drew ?_))); (case side2 => exact (Kd.R_reads' HO336.out).2.1); rintro e w40 ⟨rfl, hb⟩; have n0_ := Aside0.mk (Kd.R_below (mvR HO316) hb); have n1_ := Aside0.mk (Kd.R_below (mvR HO320) hb); have n2_ := Aside0.mk (Kd.R_below (mvR HO324) hb); have n3_ := Aside0.mk (Kd.R_below (mvR HO328) hb); have n4_ := Aside0.mk (Kd.R_below (mvR HO332) hb); have n5_ := Aside0.mk (Kd.R_below (mvR HO336) hb); have n6_ := Aside0.mk (below_step (mvB HB) hb); clear HO316; clear HO320; clear HO324; clear HO328; clear HO332; clear HO336; clear HB; have HO316 := n0_; have HO320 := n1_; have HO324 := n2_; have HO328 := n3_; have HO332 := n4_; have HO336 := n5_; have HB := n6_; clear n0_ n1_ n2_ n3_ n4_ n5_ n6_; (try clear hb); (try clear hb2); (try clear hk); (try clear hi)) | ((with_reducible refine gate_dst (N := 71) rfl ?_); (try (refine gate_guard (by rfl) ?_; dsimp only)); refine Kd.R_lit (Kd.int .u8) _ 33 ?hg (N := 71) ?hd (xs := ([2, 2, 2] : List Int)) (inner := [.int .u8 2, .int .u8 2, .int .u8 2]) (ok := fun _ => True) (okp := fun _ => True) ?hr ?hp (fun _ hk => hk) trivial (Below.refl _ _) (Nat.le_refl _) (by simp) ?_; (case hd => rfl); (case hg => rfl); (case hr => first | (go_simp; done) | (go_simp; rfl)); (case hp => exact (Reps.one (show Kd.M (Kd.int .u8) _ _ _ 2 [.int .u8 2] from rfl) (Reps.one (show Kd.M (Kd.int .u8) _ _ _ 2 [.int .u8 2] from rfl) (Reps.one (show Kd.M (Kd.int .u8) _ _ _ 2 [.int .u8 2] from rfl) (Reps.none _ _))))); intro v339 w41 ho42 hb hg_ hnew_; clear hg_ hnew_; (first | rw [← Ny338.out] at ho42 | (simp only [Int.reduceToNat] at ho42; rw [← Ny338.out] at ho42)); have n0_ := Aside0.mk (Kd.R_elder' (mvR HO316) (Kd.R_base ho42) hb); have n1_ := Aside0.mk (Kd.R_elder' (mvR HO320) (Kd.R_base ho42) hb); have n2_ := Aside0.mk (Kd.R_elder' (mvR HO324) (Kd.R_base ho42) hb); have n3_ := Aside0.mk (Kd.R_elder' (mvR HO328) (Kd.R_base ho42) hb); have n4_ := Aside0.mk (Kd.R_elder' (mvR HO332) (Kd.R_base ho42) hb); have n5_ := Aside0.mk (Kd.R_elder' (mvR HO336) (Kd.R_base ho42) hb); have n6_ := Aside0.mk (Kd.R_lower (Kd.R_new' (Kd.R_new' (Kd.R_new' (Kd.R_new' (Kd.R_new' (Kd.R_new' ho42 (Kd.R_lt (mvR HO316))) (Kd.R_lt (mvR HO320))) (Kd.R_lt (mvR HO324))) (Kd.R_lt (mvR HO328))) (Kd.R_lt (mvR HO332))) (Kd.R_lt (mvR HO336))) (below_size (mvB HB))); have n7_ := Aside0.mk (below_step (mvB HB) hb); clear HO316; clear HO320; clear HO324; clear HO328; clear HO332; clear HO336; clear HB; have HO316 := n0_; have HO320 := n1_; have HO324 := n2_; have HO328 := n3_; have HO332 := n4_; have HO336 := n5_; have HO340 := n6_; have HB := n7_; clear n0_ n1_ n2_ n3_ n4_ n5_ n6_ n7_; clear hb ho42; obtain ⟨Ao43, co43, eo43⟩ := Kd.R_slice HO340.out; subst eo43) | (go_at_call 16; (with_reducible refine (selvedgelaw17_become.calls k (⟨#[40, 215, 144, 41]⟩ : ByteArray) 0 2 _ _ y338 true _ ?side1 ?side2 A14.out (by exact HT.out.below (mvB HB))).mono ?_); (case side1 => repeat (first | exact (Kd.R_reads' HO340.out).2.2 | (with_reducible refine Kd.C_alloc ?_ _) | (with_reducible refine Kd.C_drewN ?_ _) | (with_reducible refine Kd.C_drew ?_))); (case side2 => exact (Kd.R_reads' HO340.out).2.1); rintro e w44 ⟨rfl, hb⟩; have n0_ := Aside0.mk (Kd.R_below (mvR HO316) hb); have n1_ := Aside0.mk (Kd.R_below (mvR HO320) hb); have n2_ := Aside0.mk (Kd.R_below (mvR HO324) hb); have n3_ := Aside0.mk (Kd.R_below (mvR HO328) hb); have n4_ := Aside0.mk (Kd.R_below (mvR HO332) hb); have n5_ := Aside0.mk (Kd.R_below (mvR HO336) hb); have n6_ := Aside0.mk (Kd.R_below (mvR HO340) hb); have n7_ := Aside0.mk (below_step (mvB HB) hb); clear HO316; clear HO320; clear HO324; clear HO328; clear HO332; clear HO336; clear HO340; clear HB; have HO316 := n0_; have HO320 := n1_; have HO324 := n2_; have HO328 := n3_; have HO332 := n4_; have HO336 := n5_; have HO340 := n6_; have HB := n7_; clear n0_ n1_ n2_ n3_ n4_ n5_ n6_ n7_; (try clear hb); (try clear hb2); (try clear hk); (try clear hi)) | ((with_reducible refine gate_dst (N := 78) rfl ?_); (try (refine gate_guard (by rfl) ?_; dsimp only)); refine Kd.R_lit (Kd.int .u8) _ 33 ?hg (N := 78) ?hd (xs := ([1, 2, 1] : List Int)) (inner := [.int .u8 1, .int .u8 2, .int .u8 1]) (ok := fun _ => True) (okp := fun _ => True) ?hr ?hp (fun _ hk => hk) trivial (Below.refl _ _) (Nat.le_refl _) (by simp) ?_; (case hd => rfl); (case hg => rfl); (case hr => first | (go_simp; done) | (go_simp; rfl)); (case hp => exact (Reps.one (show Kd.M (Kd.int .u8) _ _ _ 1 [.int .u8 1] from rfl) (Reps.one (show Kd.M (Kd.int .u8) _ _ _ 2 [.int .u8 2] from rfl) (Reps.one (show Kd.M (Kd.int .u8) _ _ _ 1 [.int .u8 1] from rfl) (Reps.none _ _))))); intro v343 w45 ho46 hb hg_ hnew_; clear hg_ hnew_; (first | rw [← Ny342.out] at ho46 | (simp only [Int.reduceToNat] at ho46; rw [← Ny342.out] at ho46)); have n0_ := Aside0.mk (Kd.R_elder' (mvR HO316) (Kd.R_base ho46) hb); have n1_ := Aside0.mk (Kd.R_elder' (mvR HO320) (Kd.R_base ho46) hb); have n2_ := Aside0.mk (Kd.R_elder' (mvR HO324) (Kd.R_base ho46) hb); have n3_ := Aside0.mk (Kd.R_elder' (mvR HO328) (Kd.R_base ho46) hb); have n4_ := Aside0.mk (Kd.R_elder' (mvR HO332) (Kd.R_base ho46) hb); have n5_ := Aside0.mk (Kd.R_elder' (mvR HO336) (Kd.R_base ho46) hb); have n6_ := Aside0.mk (Kd.R_elder' (mvR HO340) (Kd.R_base ho46) hb); have n7_ := Aside0.mk (Kd.R_lower (Kd.R_new' (Kd.R_new' (Kd.R_new' (Kd.R_new' (Kd.R_new' (Kd.R_new' (Kd.R_new' ho46 (Kd.R_lt (mvR HO316))) (Kd.R_lt (mvR HO320))) (Kd.R_lt (mvR HO324))) (Kd.R_lt (mvR HO328))) (Kd.R_lt (mvR HO332))) (Kd.R_lt (mvR HO336))) (Kd.R_lt (mvR HO340))) (below_size (mvB HB))); have n8_ := Aside0.mk (below_step (mvB HB) hb); clear HO316; clear HO320; clear HO324; clear HO328; clear HO332; clear HO336; clear HO340; clear HB; have HO316 := n0_; have HO320 := n1_; have HO324 := n2_; have HO328 := n3_; have HO332 := n4_; have HO336 := n5_; have HO340 := n6_; have HO344 := n7_; have HB := n8_; clear n0_ n1_ n2_ n3_ n4_ n5_ n6_ n7_ n8_; clear hb ho46; obtain ⟨Ao47, co47, eo47⟩ := Kd.R_slice HO344.out; subst eo47) | (go_at_call 16; (with_reducible refine (selvedgelaw17_become.calls k (⟨#[40, 215, 144, 41]⟩ : ByteArray) 0 1 _ _ y342 t345 _ ?side1 ?side2 A16.out (by exact HT.out.below (mvB HB))).mono ?_); (case side1 => repeat (first | exact (Kd.R_reads' HO344.out).2.2 | (with_reducible refine Kd.C_alloc ?_ _) | (with_reducible refine Kd.C_drewN ?_ _) | (with_reducible refine Kd.C_drew ?_))); (case side2 => exact (Kd.R_reads' HO344.out).2.1); rintro e w48 ⟨rfl, hb⟩; have n0_ := Aside0.mk (Kd.R_below (mvR HO316) hb); have n1_ := Aside0.mk (Kd.R_below (mvR HO320) hb); have n2_ := Aside0.mk (Kd.R_below (mvR HO324) hb); have n3_ := Aside0.mk (Kd.R_below (mvR HO328) hb); have n4_ := Aside0.mk (Kd.R_below (mvR HO332) hb); have n5_ := Aside0.mk (Kd.R_below (mvR HO336) hb); have n6_ := Aside0.mk (Kd.R_below (mvR HO340) hb); have n7_ := Aside0.mk (Kd.R_below (mvR HO344) hb); have n8_ := Aside0.mk (below_step (mvB HB) hb); clear HO316; clear HO320; clear HO324; clear HO328; clear HO332; clear HO336; clear HO340; clear HO344; clear HB; have HO316 := n0_; have HO320 := n1_; have HO324 := n2_; have HO328 := n3_; have HO332 := n4_; have HO336 := n5_; have HO340 := n6_; have HO344 := n7_; have HB := n8_; clear n0_ n1_ n2_ n3_ n4_ n5_ n6_ n7_ n8_; (try clear hb); (try clear hb2); (try clear hk); (try clear hi)))
         go_meet
         case rel => exact ⟨_, (t345), (by first | rfl | (simp; done) | (simp [*]; done)), H', ⟨by first | omega | exact Nat.le_refl _⟩, ⟨mvB HB⟩⟩
        ·rw [if_neg c15] at H
         exact absurd H (by simp)
       ·rw [if_neg c13] at H
        exact absurd H (by simp)
      ·rw [if_neg c11] at H
       exact absurd H (by simp)
     ·rw [if_neg c9] at H
      exact absurd H (by simp)
    ·rw [if_neg c7] at H
     exact absurd H (by simp)
   ·rw [if_neg c5] at H
    exact absurd H (by simp)
  ·rw [if_neg c3] at H
   exact absurd H (by simp)
 case rest =>
  clear HC1
  try clear c1
  try clear p2
  try clear c3
  try clear c5
  try clear c7
  try clear c9
  try clear c11
  try clear c13
  try clear c15
  try clear c16
  obtain ⟨kq, x4_0, rfl, HA, HJ0, HB⟩ := hcut
  cases kq with
  | zero => exact absurd HA.out (by simp [selvedgelaw17_PairsKnown.j0])
  | succ kj0 =>
   have H := HA.out
   clear HA
   simp only [selvedgelaw17_PairsKnown.j0] at H
   have HC161 := Aside0.mk H
   clear H
   go_upto_region 3 with (fail)
   go_cut [5] (fun v5 wc => ∃ (kq : Nat) (x5_160 : Bool), v5 = .bool x5_160 ∧ Aside0 (selvedgelaw17_PairsKnown.j1 kq 1 2 14 x4_0 x5_160 = some r) ∧ Aside0 (kq ≤ kj0) ∧ Aside0 (Below w.heap.size w wc))
   case first =>
    have H := HC161.out
    clear HC161
    obtain ⟨y346, hy346⟩ : ∃ y_ : List Int, y_ = (([1, 1, 1] : List Int)) := ⟨_, rfl⟩
    replace H : ((selvedgelaw17_become.f kj0 (⟨#[226, 140, 169, 97, 227, 128, 137]⟩ : ByteArray) 0 1 y346).bind fun t349 => (if t349 = true then ((selvedgelaw17_become.f kj0 (⟨#[40, 97, 93]⟩ : ByteArray) 0 1 (([14, 1, 14] : List Int))).bind fun t353 => (if t353 = true then ((selvedgelaw17_become.f kj0 (⟨#[97, 40, 215, 144, 91, 215, 145, 93, 41]⟩ : ByteArray) 1 2 (([1, 2, 2, 2, 2, 2, 2] : List Int))).bind fun t357 => (if t357 = true then ((selvedgelaw17_become.f kj0 (⟨#[215, 144, 91, 97, 40, 215, 144, 41, 93]⟩ : ByteArray) 0 1 (([2, 1, 1, 1, 2, 1, 1] : List Int))).bind fun t361 => (selvedgelaw17_PairsKnown.j1 kj0 1 2 14 x4_0 t361)) else (none))) else (none))) else (none))) = some r := by first | (rw [hy346]; with_reducible exact H) | (have H2_ := (Option.bind_some _ _).symm.trans H; rw [hy346]; with_reducible exact H2_) | (have H2_ := (Option.bind_some _ _).symm.trans H; with_reducible exact H2_) | with_reducible exact H | (rw [hy346]; exact H) | exact H
    have Ny346 := Aside0.mk hy346
    clear hy346
    replace H := Option.bind_eq_some_iff.mp H
    obtain ⟨t349, A1620, H⟩ := H
    replace H : (if t349 = true then ((selvedgelaw17_become.f kj0 (⟨#[40, 97, 93]⟩ : ByteArray) 0 1 (([14, 1, 14] : List Int))).bind fun t353 => (if t353 = true then ((selvedgelaw17_become.f kj0 (⟨#[97, 40, 215, 144, 91, 215, 145, 93, 41]⟩ : ByteArray) 1 2 (([1, 2, 2, 2, 2, 2, 2] : List Int))).bind fun t357 => (if t357 = true then ((selvedgelaw17_become.f kj0 (⟨#[215, 144, 91, 97, 40, 215, 144, 41, 93]⟩ : ByteArray) 0 1 (([2, 1, 1, 1, 2, 1, 1] : List Int))).bind fun t361 => (selvedgelaw17_PairsKnown.j1 kj0 1 2 14 x4_0 t361)) else (none))) else (none))) else (none)) = some r := H
    have A162 := Aside0.mk A1620
    clear A1620
    by_cases c163 : t349 = true
    ·subst c163
     have H1 : ((selvedgelaw17_become.f kj0 (⟨#[40, 97, 93]⟩ : ByteArray) 0 1 (([14, 1, 14] : List Int))).bind fun t353 => (if t353 = true then ((selvedgelaw17_become.f kj0 (⟨#[97, 40, 215, 144, 91, 215, 145, 93, 41]⟩ : ByteArray) 1 2 (([1, 2, 2, 2, 2, 2, 2] : List Int))).bind fun t357 => (if t357 = true then ((selvedgelaw17_become.f kj0 (⟨#[215, 144, 91, 97, 40, 215, 144, 41, 93]⟩ : ByteArray) 0 1 (([2, 1, 1, 1, 2, 1, 1] : List Int))).bind fun t361 => (selvedgelaw17_PairsKnown.j1 kj0 1 2 14 x4_0 t361)) else (none))) else (none))) = some r := by rw [if_pos rfl] at H; exact H
     clear H
     have H := H1
     clear H1
     obtain ⟨y350, hy350⟩ : ∃ y_ : List Int, y_ = (([14, 1, 14] : List Int)) := ⟨_, rfl⟩
     replace H : ((selvedgelaw17_become.f kj0 (⟨#[40, 97, 93]⟩ : ByteArray) 0 1 y350).bind fun t353 => (if t353 = true then ((selvedgelaw17_become.f kj0 (⟨#[97, 40, 215, 144, 91, 215, 145, 93, 41]⟩ : ByteArray) 1 2 (([1, 2, 2, 2, 2, 2, 2] : List Int))).bind fun t357 => (if t357 = true then ((selvedgelaw17_become.f kj0 (⟨#[215, 144, 91, 97, 40, 215, 144, 41, 93]⟩ : ByteArray) 0 1 (([2, 1, 1, 1, 2, 1, 1] : List Int))).bind fun t361 => (selvedgelaw17_PairsKnown.j1 kj0 1 2 14 x4_0 t361)) else (none))) else (none))) = some r := by first | (rw [hy350]; with_reducible exact H) | (have H2_ := (Option.bind_some _ _).symm.trans H; rw [hy350]; with_reducible exact H2_) | (have H2_ := (Option.bind_some _ _).symm.trans H; with_reducible exact H2_) | with_reducible exact H | (rw [hy350]; exact H) | exact H
     have Ny350 := Aside0.mk hy350
     clear hy350
     replace H := Option.bind_eq_some_iff.mp H
     obtain ⟨t353, A1640, H⟩ := H
     replace H : (if t353 = true then ((selvedgelaw17_become.f kj0 (⟨#[97, 40, 215, 144, 91, 215, 145, 93, 41]⟩ : ByteArray) 1 2 (([1, 2, 2, 2, 2, 2, 2] : List Int))).bind fun t357 => (if t357 = true then ((selvedgelaw17_become.f kj0 (⟨#[215, 144, 91, 97, 40, 215, 144, 41, 93]⟩ : ByteArray) 0 1 (([2, 1, 1, 1, 2, 1, 1] : List Int))).bind fun t361 => (selvedgelaw17_PairsKnown.j1 kj0 1 2 14 x4_0 t361)) else (none))) else (none)) = some r := H
     have A164 := Aside0.mk A1640
     clear A1640
     by_cases c165 : t353 = true
     ·subst c165
      have H1 : ((selvedgelaw17_become.f kj0 (⟨#[97, 40, 215, 144, 91, 215, 145, 93, 41]⟩ : ByteArray) 1 2 (([1, 2, 2, 2, 2, 2, 2] : List Int))).bind fun t357 => (if t357 = true then ((selvedgelaw17_become.f kj0 (⟨#[215, 144, 91, 97, 40, 215, 144, 41, 93]⟩ : ByteArray) 0 1 (([2, 1, 1, 1, 2, 1, 1] : List Int))).bind fun t361 => (selvedgelaw17_PairsKnown.j1 kj0 1 2 14 x4_0 t361)) else (none))) = some r := by rw [if_pos rfl] at H; exact H
      clear H
      have H := H1
      clear H1
      obtain ⟨y354, hy354⟩ : ∃ y_ : List Int, y_ = (([1, 2, 2, 2, 2, 2, 2] : List Int)) := ⟨_, rfl⟩
      replace H : ((selvedgelaw17_become.f kj0 (⟨#[97, 40, 215, 144, 91, 215, 145, 93, 41]⟩ : ByteArray) 1 2 y354).bind fun t357 => (if t357 = true then ((selvedgelaw17_become.f kj0 (⟨#[215, 144, 91, 97, 40, 215, 144, 41, 93]⟩ : ByteArray) 0 1 (([2, 1, 1, 1, 2, 1, 1] : List Int))).bind fun t361 => (selvedgelaw17_PairsKnown.j1 kj0 1 2 14 x4_0 t361)) else (none))) = some r := by first | (rw [hy354]; with_reducible exact H) | (have H2_ := (Option.bind_some _ _).symm.trans H; rw [hy354]; with_reducible exact H2_) | (have H2_ := (Option.bind_some _ _).symm.trans H; with_reducible exact H2_) | with_reducible exact H | (rw [hy354]; exact H) | exact H
      have Ny354 := Aside0.mk hy354
      clear hy354
      replace H := Option.bind_eq_some_iff.mp H
      obtain ⟨t357, A1660, H⟩ := H
      replace H : (if t357 = true then ((selvedgelaw17_become.f kj0 (⟨#[215, 144, 91, 97, 40, 215, 144, 41, 93]⟩ : ByteArray) 0 1 (([2, 1, 1, 1, 2, 1, 1] : List Int))).bind fun t361 => (selvedgelaw17_PairsKnown.j1 kj0 1 2 14 x4_0 t361)) else (none)) = some r := H
      have A166 := Aside0.mk A1660
      clear A1660
      by_cases c167 : t357 = true
      ·subst c167
       have H1 : ((selvedgelaw17_become.f kj0 (⟨#[215, 144, 91, 97, 40, 215, 144, 41, 93]⟩ : ByteArray) 0 1 (([2, 1, 1, 1, 2, 1, 1] : List Int))).bind fun t361 => (selvedgelaw17_PairsKnown.j1 kj0 1 2 14 x4_0 t361)) = some r := by rw [if_pos rfl] at H; exact H
       clear H
       have H := H1
       clear H1
       obtain ⟨y358, hy358⟩ : ∃ y_ : List Int, y_ = (([2, 1, 1, 1, 2, 1, 1] : List Int)) := ⟨_, rfl⟩
       replace H : ((selvedgelaw17_become.f kj0 (⟨#[215, 144, 91, 97, 40, 215, 144, 41, 93]⟩ : ByteArray) 0 1 y358).bind fun t361 => (selvedgelaw17_PairsKnown.j1 kj0 1 2 14 x4_0 t361)) = some r := by first | (rw [hy358]; with_reducible exact H) | (have H2_ := (Option.bind_some _ _).symm.trans H; rw [hy358]; with_reducible exact H2_) | (have H2_ := (Option.bind_some _ _).symm.trans H; with_reducible exact H2_) | with_reducible exact H | (rw [hy358]; exact H) | exact H
       have Ny358 := Aside0.mk hy358
       clear hy358
       replace H := Option.bind_eq_some_iff.mp H
       obtain ⟨t361, A1680, H⟩ := H
       replace H : (selvedgelaw17_PairsKnown.j1 kj0 1 2 14 x4_0 t361) = some r := H
       have A168 := Aside0.mk A1680
       clear A1680
       have H' := Aside0.mk H
       clear H
       go_wp2_with (first | ((with_reducible refine gate_dst (N := 84) rfl ?_); (try (refine gate_guard (by rfl) ?_; dsimp only)); refine Kd.R_lit (Kd.int .u8) _ 33 ?hg (N := 84) ?hd (xs := ([1, 1, 1] : List Int)) (inner := [.int .u8 1, .int .u8 1, .int .u8 1]) (ok := fun _ => True) (okp := fun _ => True) ?hr ?hp (fun _ hk => hk) trivial (Below.refl _ _) (Nat.le_refl _) (by simp) ?_; (case hd => rfl); (case hg => rfl); (case hr => first | (go_simp; done) | (go_simp; rfl)); (case hp => exact (Reps.one (show Kd.M (Kd.int .u8) _ _ _ 1 [.int .u8 1] from rfl) (Reps.one (show Kd.M (Kd.int .u8) _ _ _ 1 [.int .u8 1] from rfl) (Reps.one (show Kd.M (Kd.int .u8) _ _ _ 1 [.int .u8 1] from rfl) (Reps.none _ _))))); intro v347 w169 ho170 hb hg_ hnew_; clear hg_ hnew_; (first | rw [← Ny346.out] at ho170 | (simp only [Int.reduceToNat] at ho170; rw [← Ny346.out] at ho170)); have n0_ := Aside0.mk (Kd.R_lower ho170 (below_size (mvB HB))); have n1_ := Aside0.mk (below_step (mvB HB) hb); clear HB; have HO348 := n0_; have HB := n1_; clear n0_ n1_; clear hb ho170; obtain ⟨Ao171, co171, eo171⟩ := Kd.R_slice HO348.out; subst eo171) | ((with_reducible refine gate_callee (f := 16) rfl ?_); refine goesL_ (some 85) rfl rfl Tryd.func16 (by kernel_rfl) rfl #[.string (⟨#[226, 140, 169, 97, 227, 128, 137]⟩ : ByteArray), .int .u8 0, .int .u8 1, .slice Ao171 y346.length co171] rfl (by (try simp only [List.map_toArray, List.map_cons, List.map_nil]); first | done | rfl | (simp only [List.length_drop, List.length_take]; rfl)) ?_; (with_reducible refine (selvedgelaw17_become.calls kj0 (⟨#[226, 140, 169, 97, 227, 128, 137]⟩ : ByteArray) 0 1 _ _ y346 true _ ?side1 ?side2 A162.out (by exact HT.out.below (mvB HB))).mono ?_); (case side1 => repeat (first | exact (Kd.R_reads' HO348.out).2.2 | (with_reducible refine Kd.C_alloc ?_ _) | (with_reducible refine Kd.C_drewN ?_ _) | (with_reducible refine Kd.C_drew ?_))); (case side2 => exact (Kd.R_reads' HO348.out).2.1); rintro e w172 ⟨rfl, hb⟩; refine ⟨_, rfl, ?_⟩; have n0_ := Aside0.mk (Kd.R_below (mvR HO348) hb); have n1_ := Aside0.mk (below_step (mvB HB) hb); clear HO348; clear HB; have HO348 := n0_; have HB := n1_; clear n0_ n1_; (try clear hb); (try clear hb2); (try clear hk); (try clear hi)) | ((with_reducible refine gate_dst (N := 90) rfl ?_); (try (refine gate_guard (by rfl) ?_; dsimp only)); refine Kd.R_lit (Kd.int .u8) _ 33 ?hg (N := 90) ?hd (xs := ([14, 1, 14] : List Int)) (inner := [.int .u8 14, .int .u8 1, .int .u8 14]) (ok := fun _ => True) (okp := fun _ => True) ?hr ?hp (fun _ hk => hk) trivial (Below.refl _ _) (Nat.le_refl _) (by simp) ?_; (case hd => rfl); (case hg => rfl); (case hr => first | (go_simp; done) | (go_simp; rfl)); (case hp => exact (Reps.one (show Kd.M (Kd.int .u8) _ _ _ 14 [.int .u8 14] from rfl) (Reps.one (show Kd.M (Kd.int .u8) _ _ _ 1 [.int .u8 1] from rfl) (Reps.one (show Kd.M (Kd.int .u8) _ _ _ 14 [.int .u8 14] from rfl) (Reps.none _ _))))); intro v351 w173 ho174 hb hg_ hnew_; clear hg_ hnew_; (first | rw [← Ny350.out] at ho174 | (simp only [Int.reduceToNat] at ho174; rw [← Ny350.out] at ho174)); have n0_ := Aside0.mk (Kd.R_elder' (mvR HO348) (Kd.R_base ho174) hb); have n1_ := Aside0.mk (Kd.R_lower (Kd.R_new' ho174 (Kd.R_lt (mvR HO348))) (below_size (mvB HB))); have n2_ := Aside0.mk (below_step (mvB HB) hb); clear HO348; clear HB; have HO348 := n0_; have HO352 := n1_; have HB := n2_; clear n0_ n1_ n2_; clear hb ho174; obtain ⟨Ao175, co175, eo175⟩ := Kd.R_slice HO352.out; subst eo175) | (go_at_call 16; (with_reducible refine (selvedgelaw17_become.calls kj0 (⟨#[40, 97, 93]⟩ : ByteArray) 0 1 _ _ y350 true _ ?side1 ?side2 A164.out (by exact HT.out.below (mvB HB))).mono ?_); (case side1 => repeat (first | exact (Kd.R_reads' HO352.out).2.2 | (with_reducible refine Kd.C_alloc ?_ _) | (with_reducible refine Kd.C_drewN ?_ _) | (with_reducible refine Kd.C_drew ?_))); (case side2 => exact (Kd.R_reads' HO352.out).2.1); rintro e w176 ⟨rfl, hb⟩; have n0_ := Aside0.mk (Kd.R_below (mvR HO348) hb); have n1_ := Aside0.mk (Kd.R_below (mvR HO352) hb); have n2_ := Aside0.mk (below_step (mvB HB) hb); clear HO348; clear HO352; clear HB; have HO348 := n0_; have HO352 := n1_; have HB := n2_; clear n0_ n1_ n2_; (try clear hb); (try clear hb2); (try clear hk); (try clear hi)) | ((with_reducible refine gate_dst (N := 101) rfl ?_); (try (refine gate_guard (by rfl) ?_; dsimp only)); refine Kd.R_lit (Kd.int .u8) _ 33 ?hg (N := 101) ?hd (xs := ([1, 2, 2, 2, 2, 2, 2] : List Int)) (inner := [.int .u8 1, .int .u8 2, .int .u8 2, .int .u8 2, .int .u8 2, .int .u8 2, .int .u8 2]) (ok := fun _ => True) (okp := fun _ => True) ?hr ?hp (fun _ hk => hk) trivial (Below.refl _ _) (Nat.le_refl _) (by simp) ?_; (case hd => rfl); (case hg => rfl); (case hr => first | (go_simp; done) | (go_simp; rfl)); (case hp => exact (Reps.one (show Kd.M (Kd.int .u8) _ _ _ 1 [.int .u8 1] from rfl) (Reps.one (show Kd.M (Kd.int .u8) _ _ _ 2 [.int .u8 2] from rfl) (Reps.one (show Kd.M (Kd.int .u8) _ _ _ 2 [.int .u8 2] from rfl) (Reps.one (show Kd.M (Kd.int .u8) _ _ _ 2 [.int .u8 2] from rfl) (Reps.one (show Kd.M (Kd.int .u8) _ _ _ 2 [.int .u8 2] from rfl) (Reps.one (show Kd.M (Kd.int .u8) _ _ _ 2 [.int .u8 2] from rfl) (Reps.one (show Kd.M (Kd.int .u8) _ _ _ 2 [.int .u8 2] from rfl) (Reps.none _ _))))))))); intro v355 w177 ho178 hb hg_ hnew_; clear hg_ hnew_; (first | rw [← Ny354.out] at ho178 | (simp only [Int.reduceToNat] at ho178; rw [← Ny354.out] at ho178)); have n0_ := Aside0.mk (Kd.R_elder' (mvR HO348) (Kd.R_base ho178) hb); have n1_ := Aside0.mk (Kd.R_elder' (mvR HO352) (Kd.R_base ho178) hb); have n2_ := Aside0.mk (Kd.R_lower (Kd.R_new' (Kd.R_new' ho178 (Kd.R_lt (mvR HO348))) (Kd.R_lt (mvR HO352))) (below_size (mvB HB))); have n3_ := Aside0.mk (below_step (mvB HB) hb); clear HO348; clear HO352; clear HB; have HO348 := n0_; have HO352 := n1_; have HO356 := n2_; have HB := n3_; clear n0_ n1_ n2_ n3_; clear hb ho178; obtain ⟨Ao179, co179, eo179⟩ := Kd.R_slice HO356.out; subst eo179) | (go_at_call 16; (with_reducible refine (selvedgelaw17_become.calls kj0 (⟨#[97, 40, 215, 144, 91, 215, 145, 93, 41]⟩ : ByteArray) 1 2 _ _ y354 true _ ?side1 ?side2 A166.out (by exact HT.out.below (mvB HB))).mono ?_); (case side1 => repeat (first | exact (Kd.R_reads' HO356.out).2.2 | (with_reducible refine Kd.C_alloc ?_ _) | (with_reducible refine Kd.C_drewN ?_ _) | (with_reducible refine Kd.C_drew ?_))); (case side2 => exact (Kd.R_reads' HO356.out).2.1); rintro e w180 ⟨rfl, hb⟩; have n0_ := Aside0.mk (Kd.R_below (mvR HO348) hb); have n1_ := Aside0.mk (Kd.R_below (mvR HO352) hb); have n2_ := Aside0.mk (Kd.R_below (mvR HO356) hb); have n3_ := Aside0.mk (below_step (mvB HB) hb); clear HO348; clear HO352; clear HO356; clear HB; have HO348 := n0_; have HO352 := n1_; have HO356 := n2_; have HB := n3_; clear n0_ n1_ n2_ n3_; (try clear hb); (try clear hb2); (try clear hk); (try clear hi)) | ((with_reducible refine gate_dst (N := 112) rfl ?_); (try (refine gate_guard (by rfl) ?_; dsimp only)); refine Kd.R_lit (Kd.int .u8) _ 33 ?hg (N := 112) ?hd (xs := ([2, 1, 1, 1, 2, 1, 1] : List Int)) (inner := [.int .u8 2, .int .u8 1, .int .u8 1, .int .u8 1, .int .u8 2, .int .u8 1, .int .u8 1]) (ok := fun _ => True) (okp := fun _ => True) ?hr ?hp (fun _ hk => hk) trivial (Below.refl _ _) (Nat.le_refl _) (by simp) ?_; (case hd => rfl); (case hg => rfl); (case hr => first | (go_simp; done) | (go_simp; rfl)); (case hp => exact (Reps.one (show Kd.M (Kd.int .u8) _ _ _ 2 [.int .u8 2] from rfl) (Reps.one (show Kd.M (Kd.int .u8) _ _ _ 1 [.int .u8 1] from rfl) (Reps.one (show Kd.M (Kd.int .u8) _ _ _ 1 [.int .u8 1] from rfl) (Reps.one (show Kd.M (Kd.int .u8) _ _ _ 1 [.int .u8 1] from rfl) (Reps.one (show Kd.M (Kd.int .u8) _ _ _ 2 [.int .u8 2] from rfl) (Reps.one (show Kd.M (Kd.int .u8) _ _ _ 1 [.int .u8 1] from rfl) (Reps.one (show Kd.M (Kd.int .u8) _ _ _ 1 [.int .u8 1] from rfl) (Reps.none _ _))))))))); intro v359 w181 ho182 hb hg_ hnew_; clear hg_ hnew_; (first | rw [← Ny358.out] at ho182 | (simp only [Int.reduceToNat] at ho182; rw [← Ny358.out] at ho182)); have n0_ := Aside0.mk (Kd.R_elder' (mvR HO348) (Kd.R_base ho182) hb); have n1_ := Aside0.mk (Kd.R_elder' (mvR HO352) (Kd.R_base ho182) hb); have n2_ := Aside0.mk (Kd.R_elder' (mvR HO356) (Kd.R_base ho182) hb); have n3_ := Aside0.mk (Kd.R_lower (Kd.R_new' (Kd.R_new' (Kd.R_new' ho182 (Kd.R_lt (mvR HO348))) (Kd.R_lt (mvR HO352))) (Kd.R_lt (mvR HO356))) (below_size (mvB HB))); have n4_ := Aside0.mk (below_step (mvB HB) hb); clear HO348; clear HO352; clear HO356; clear HB; have HO348 := n0_; have HO352 := n1_; have HO356 := n2_; have HO360 := n3_; have HB := n4_; clear n0_ n1_ n2_ n3_ n4_; clear hb ho182; obtain ⟨Ao183, co183, eo183⟩ := Kd.R_slice HO360.out; subst eo183) | (go_at_call 16; (with_reducible refine (selvedgelaw17_become.calls kj0 (⟨#[215, 144, 91, 97, 40, 215, 144, 41, 93]⟩ : ByteArray) 0 1 _ _ y358 t361 _ ?side1 ?side2 A168.out (by exact HT.out.below (mvB HB))).mono ?_); (case side1 => repeat (first | exact (Kd.R_reads' HO360.out).2.2 | (with_reducible refine Kd.C_alloc ?_ _) | (with_reducible refine Kd.C_drewN ?_ _) | (with_reducible refine Kd.C_drew ?_))); (case side2 => exact (Kd.R_reads' HO360.out).2.1); rintro e w184 ⟨rfl, hb⟩; have n0_ := Aside0.mk (Kd.R_below (mvR HO348) hb); have n1_ := Aside0.mk (Kd.R_below (mvR HO352) hb); have n2_ := Aside0.mk (Kd.R_below (mvR HO356) hb); have n3_ := Aside0.mk (Kd.R_below (mvR HO360) hb); have n4_ := Aside0.mk (below_step (mvB HB) hb); clear HO348; clear HO352; clear HO356; clear HO360; clear HB; have HO348 := n0_; have HO352 := n1_; have HO356 := n2_; have HO360 := n3_; have HB := n4_; clear n0_ n1_ n2_ n3_ n4_; (try clear hb); (try clear hb2); (try clear hk); (try clear hi)))
       go_meet
       case rel => exact ⟨_, (t361), (by first | rfl | (simp; done) | (simp [*]; done)), H', ⟨by have := HJ0.out; first | omega | exact Nat.le_refl _⟩, ⟨mvB HB⟩⟩
      ·rw [if_neg c167] at H
       exact absurd H (by simp)
     ·rw [if_neg c165] at H
      exact absurd H (by simp)
    ·rw [if_neg c163] at H
     exact absurd H (by simp)
   case rest =>
    clear HC161
    try clear c1
    try clear p2
    try clear c3
    try clear c5
    try clear c7
    try clear c9
    try clear c11
    try clear c13
    try clear c15
    try clear c16
    try clear c163
    try clear c165
    try clear c167
    try clear p2
    obtain ⟨kq, x5_160, rfl, HA, HJ160, HB⟩ := hcut
    cases kq with
    | zero => exact absurd HA.out (by simp [selvedgelaw17_PairsKnown.j1])
    | succ kj160 =>
     have H := HA.out
     clear HA
     simp only [selvedgelaw17_PairsKnown.j1] at H
     have H' := Aside0.mk H
     clear H
     go_wp2
     go_loopg [6, 8] kj160 (fun kq v6 v8 w' => ∃ (x6_3 : List Int) (x8_3 : Int), v8 = .int .i64 x8_3 ∧ Aside0 (selvedgelaw17_PairsKnown.l0 kq 1 2 14 x4_0 x5_160 x6_3 x8_3 = some r) ∧ Aside0 (kq ≤ kj160) ∧ Aside0 (Kd.R (Kd.int .i32) 21 w' w.heap.size (fun _ => True) v6 x6_3) ∧ Aside0 (Below w.heap.size w w'))
     case atStart => exact ⟨(([] : List Int)), (0), (by first | rfl | (simp; done) | (simp [*]; done)), H', ⟨Nat.le_refl _⟩, ⟨by first | exact Kd.R_nil _ _ _ _ _ | exact Kd.N_nil _ _ _ _ _ | exact Kd.V_nil _ _ _ _ _ | exact Kd.Q_nil _ _ _ _ _ | exact Kd.S_nil _ _ _ _ _⟩, ⟨mvB HB⟩⟩
     case round =>
      clear H'
      try clear c1
      try clear p2
      try clear c3
      try clear c5
      try clear c7
      try clear c9
      try clear c11
      try clear c13
      try clear c15
      try clear c16
      try clear c163
      try clear c165
      try clear c167
      try clear p2
      obtain ⟨x6_3, x8_3, rfl, HA, HK3, HO_6, HB⟩ := hrel
      cases gk with
      | zero => exact absurd HA.out (by simp [selvedgelaw17_PairsKnown.l0])
      | succ k3 =>
       have H := HA.out
       clear HA
       simp only [selvedgelaw17_PairsKnown.l0] at H
       by_cases c209 : x8_3 < 70
       ·rw [if_pos c209] at H
        have c209b0 : decide (x8_3 < 70) = true := decide_eq_true c209
        clear c209
        by_cases c210 : x6_3.length < 35184372088832
        ·rw [if_pos c210] at H
         have LMc210 := Aside0.mk c210
         clear c210
         obtain ⟨y362, hy362⟩ : ∃ y_ : List Int, y_ = (x6_3 ++ [40]) := ⟨_, rfl⟩
         replace H : (selvedgelaw17_PairsKnown.l0 k3 1 2 14 x4_0 x5_160 y362 (wrap64 (x8_3 + 1))) = some r := by first | (rw [hy362]; with_reducible exact H) | (have H2_ := (Option.bind_some _ _).symm.trans H; rw [hy362]; with_reducible exact H2_) | (have H2_ := (Option.bind_some _ _).symm.trans H; with_reducible exact H2_) | with_reducible exact H | (rw [hy362]; exact H) | exact H
         have Ny362 := Aside0.mk hy362
         clear hy362
         have H' := Aside0.mk H
         clear H
         go_wp2_with (first | ((with_reducible refine gate_builtin (b := .append) (xs := #[.tmp 119, .tmp 120]) rfl ?_); (try (refine gate_guard (by rfl) ?_; dsimp only)); at_builtin; refine Kd.R_append (Kd.int .i32) (w0 := w) w.heap.size rfl (.tmp 119) (.tmp 120) 22 21 (.int .i32 0) 4 rfl Tryd.underlying22 info21 rfl (by decide) (by omega) u6 x6_3 40 [.int .i32 40] (fun _ => True) (fun _ => False) rfl rfl ?aP (fun _ hk => hk.elim) ?aF ?aO ?aB ?aS ?aL ?_; (case aP => exact rfl); (case aB => exact (mvB HB)); (case aF => exact (fun _ _ => trivial)); (case aO => exact (mvR HO_6)); (case aS => exact (below_size (mvB HB))); (case aL => have := LMc210.out; omega); intro v363 w211 ho hb hg hat; rw [← Ny362.out] at ho; have n0_ := Aside0.mk (hb); have n1_ := Aside0.mk (ho); clear HB; clear HO_6; have HB := n0_; have HO364 := n1_; clear n0_ n1_; clear ho hb hg hat))
         go_roundg k3
         case measure => have := HJ0.out; have := HJ160.out; have := HK3.out; omega
         case rel => exact ⟨(y362), (wrap64 (x8_3 + 1)), (by first | rfl | (simp; done) | (simp [*]; done)), H', ⟨by have := HJ0.out; have := HJ160.out; have := HK3.out; omega⟩, ⟨mvR HO364⟩, ⟨mvB HB⟩⟩
        ·rw [if_neg c210] at H
         exact absurd H (by simp)
       ·rw [if_neg c209] at H
        have c209b0 : decide (x8_3 < 70) = false := decide_eq_false c209
        clear c209
        have H' := Aside0.mk H
        clear H
        go_wp2
        go_loopg [6, 9] k3 (fun kq v6 v9 w' => ∃ (x6_4 : List Int) (x9_4 : Int), v9 = .int .i64 x9_4 ∧ Aside0 (selvedgelaw17_PairsKnown.l1 kq 1 2 14 x4_0 x5_160 x6_4 x9_4 = some r) ∧ Aside0 (kq ≤ k3) ∧ Aside0 (Kd.R (Kd.int .i32) 21 w' w.heap.size (fun _ => True) v6 x6_4) ∧ Aside0 (Below w.heap.size w w'))
        case atStart => exact ⟨(x6_3), (0), (by first | rfl | (simp; done) | (simp [*]; done)), H', ⟨Nat.le_refl _⟩, ⟨mvR HO_6⟩, ⟨mvB HB⟩⟩
        case round =>
         clear H'
         try clear c1
         try clear c2
         try clear p2
         try clear c3
         try clear c5
         try clear p6
         try clear c7
         try clear c9
         try clear c11
         try clear c13
         try clear c15
         try clear c16
         try clear c20
         try clear c21
         try clear p64
         try clear c163
         try clear c165
         try clear c167
         try clear c209
         try clear c209b0
         try clear c210
         try clear p2
         obtain ⟨x6_4, x9_4, rfl, HA, HK4, HO_6, HB⟩ := hrel
         cases gk with
         | zero => exact absurd HA.out (by simp [selvedgelaw17_PairsKnown.l1])
         | succ k4 =>
          have H := HA.out
          clear HA
          simp only [selvedgelaw17_PairsKnown.l1] at H
          by_cases c212 : x9_4 < 70
          ·rw [if_pos c212] at H
           have c212b0 : decide (x9_4 < 70) = true := decide_eq_true c212
           clear c212
           by_cases c213 : x6_4.length < 35184372088832
           ·rw [if_pos c213] at H
            have LMc213 := Aside0.mk c213
            clear c213
            obtain ⟨y365, hy365⟩ : ∃ y_ : List Int, y_ = (x6_4 ++ [41]) := ⟨_, rfl⟩
            replace H : (selvedgelaw17_PairsKnown.l1 k4 1 2 14 x4_0 x5_160 y365 (wrap64 (x9_4 + 1))) = some r := by first | (rw [hy365]; with_reducible exact H) | (have H2_ := (Option.bind_some _ _).symm.trans H; rw [hy365]; with_reducible exact H2_) | (have H2_ := (Option.bind_some _ _).symm.trans H; with_reducible exact H2_) | with_reducible exact H | (rw [hy365]; exact H) | exact H
            have Ny365 := Aside0.mk hy365
            clear hy365
            have H' := Aside0.mk H
            clear H
            go_wp2_with (first | ((with_reducible refine gate_builtin (b := .append) (xs := #[.tmp 126, .tmp 127]) rfl ?_); (try (refine gate_guard (by rfl) ?_; dsimp only)); at_builtin; refine Kd.R_append (Kd.int .i32) (w0 := w) w.heap.size rfl (.tmp 126) (.tmp 127) 22 21 (.int .i32 0) 4 rfl Tryd.underlying22 info21 rfl (by decide) (by omega) u6 x6_4 41 [.int .i32 41] (fun _ => True) (fun _ => False) rfl rfl ?aP (fun _ hk => hk.elim) ?aF ?aO ?aB ?aS ?aL ?_; (case aP => exact rfl); (case aB => exact (mvB HB)); (case aF => exact (fun _ _ => trivial)); (case aO => exact (mvR HO_6)); (case aS => exact (below_size (mvB HB))); (case aL => have := LMc213.out; omega); intro v366 w214 ho hb hg hat; rw [← Ny365.out] at ho; have n0_ := Aside0.mk (hb); have n1_ := Aside0.mk (ho); clear HB; clear HO_6; have HB := n0_; have HO367 := n1_; clear n0_ n1_; clear ho hb hg hat))
            go_roundg k4
            case measure => have := HJ0.out; have := HJ160.out; have := HK3.out; have := HK4.out; omega
            case rel => exact ⟨(y365), (wrap64 (x9_4 + 1)), (by first | rfl | (simp; done) | (simp [*]; done)), H', ⟨by have := HJ0.out; have := HJ160.out; have := HK3.out; have := HK4.out; omega⟩, ⟨mvR HO367⟩, ⟨mvB HB⟩⟩
           ·rw [if_neg c213] at H
            exact absurd H (by simp)
          ·rw [if_neg c212] at H
           have c212b0 : decide (x9_4 < 70) = false := decide_eq_false c212
           clear c212
           replace H := Option.bind_eq_some_iff.mp H
           obtain ⟨t368, A2150, H⟩ := H
           replace H : ((pairs_Pairs.f x6_4 t368).bind fun t371 => (if (t371.length : Int) = 0 then (if 7 ≤ 133 then (if 133 ≤ (x6_4.length : Int) then (if 133 ≤ (t368.length : Int) then ((pairs_Pairs.f ((x6_4.take 133).drop 7) ((t368.take 133).drop 7)).bind fun t382 => (if (t382.length : Int) = 63 then ((selvedgelaw17_PairsResolve.f k4 x6_4 t368 t368 0 1).bind fun t385 => (if t385 = true then ((selvedgelaw17_PairsNest.f k4 ((x6_4.take 133).drop 7) ((t368.take 133).drop 7) ((t368.take 133).drop 7) 1 1).bind fun t398 => (selvedgelaw17_PairsKnown.j4 k4 1 2 14 x4_0 x5_160 t398)) else (none))) else (none))) else (none)) else (none)) else (none)) else (none))) = some r := H
           have A215 := Aside0.mk A2150
           clear A2150
           have HC216 := Aside0.mk H
           clear H
           obtain ⟨Ao217, co217, eo217⟩ := Kd.R_slice HO_6.out
           subst eo217
           go_upto_region 15 with (first | ((with_reducible refine gate_callee (f := 17) rfl ?_); refine goesL_ (some 130) rfl rfl Tryd.func17 (by kernel_rfl) rfl #[.slice Ao217 x6_4.length co217] rfl (by (try simp only [List.map_toArray, List.map_cons, List.map_nil]); first | done | rfl | (simp only [List.length_drop, List.length_take]; rfl)) ?_; (with_reducible refine (selvedgelaw17_classes.calls k4 _ _ x6_4 t368 _ ?side1 ?side2 A215.out).mono ?_); (case side1 => repeat (first | exact (Kd.R_reads' HO_6.out).2.2 | (with_reducible refine Kd.C_alloc ?_ _) | (with_reducible refine Kd.C_drewN ?_ _) | (with_reducible refine Kd.C_drew ?_))); (case side2 => exact (Kd.R_reads' HO_6.out).2.1); rintro e w218 ⟨v369, rfl, ho0, hb⟩; refine ⟨_, rfl, ?_⟩; have n0_ := Aside0.mk (Kd.R_below (mvR HO_6) hb); have n1_ := Aside0.mk (Kd.R_lower ho0 (below_size (mvB HB))); have n2_ := Aside0.mk (below_step (mvB HB) hb); clear HO_6; clear HB; have HO_6 := n0_; have HO370 := n1_; have HB := n2_; clear n0_ n1_ n2_; (try clear hb); (try clear hb2); (try clear hk); (try clear hi); (try clear ho0)))
           (try simp only [Act.put, List.setIfInBounds_toArray, List.set_cons_zero, List.set_cons_succ])
           go_cut [10] (fun v10 wc => ∃ (kq : Nat) (x10_215 : Bool), v10 = .bool x10_215 ∧ Aside0 (selvedgelaw17_PairsKnown.j4 kq 1 2 14 x4_0 x5_160 x10_215 = some r) ∧ Aside0 (kq ≤ k4) ∧ Aside0 (Below w.heap.size w wc))
           case first =>
            have H := HC216.out
            clear HC216
            replace H := Option.bind_eq_some_iff.mp H
            obtain ⟨t371, A2190, H⟩ := H
            replace H : (if (t371.length : Int) = 0 then (if 7 ≤ 133 then (if 133 ≤ (x6_4.length : Int) then (if 133 ≤ (t368.length : Int) then ((pairs_Pairs.f ((x6_4.take 133).drop 7) ((t368.take 133).drop 7)).bind fun t382 => (if (t382.length : Int) = 63 then ((selvedgelaw17_PairsResolve.f k4 x6_4 t368 t368 0 1).bind fun t385 => (if t385 = true then ((selvedgelaw17_PairsNest.f k4 ((x6_4.take 133).drop 7) ((t368.take 133).drop 7) ((t368.take 133).drop 7) 1 1).bind fun t398 => (selvedgelaw17_PairsKnown.j4 k4 1 2 14 x4_0 x5_160 t398)) else (none))) else (none))) else (none)) else (none)) else (none)) else (none)) = some r := H
            have A219 := Aside0.mk A2190
            clear A2190
            by_cases c220 : (t371.length : Int) = 0
            ·rw [if_pos c220] at H
             have c220b0 : ((t371.length : Int) == 0) = true := beq_iff_eq.mpr c220
             have c220b1 : ((t371.length : Int) != 0) = false := bne_eq_false_iff_eq.mpr c220
             clear c220
             (first | rw [c220b0] | (simp only [i64_w, i32_w]; rw [c220b0]) | skip)
             by_cases c221 : 7 ≤ 133
             ·rw [if_pos c221] at H
              have c221b0 := eq_true c221
              have c221b1 : decide (7 ≤ 133) = true := decide_eq_true c221
              clear c221
              by_cases c222 : 133 ≤ (x6_4.length : Int)
              ·rw [if_pos c222] at H
               have c222b0 := eq_true c222
               have c222b1 : decide (133 ≤ (x6_4.length : Int)) = true := decide_eq_true c222
               clear c222
               obtain ⟨y374, hy374⟩ : ∃ y_ : List Int, y_ = ((x6_4.take 133).drop 7) := ⟨_, rfl⟩
               replace H : (if 133 ≤ (t368.length : Int) then ((pairs_Pairs.f y374 ((t368.take 133).drop 7)).bind fun t382 => (if (t382.length : Int) = 63 then ((selvedgelaw17_PairsResolve.f k4 x6_4 t368 t368 0 1).bind fun t385 => (if t385 = true then ((selvedgelaw17_PairsNest.f k4 ((x6_4.take 133).drop 7) ((t368.take 133).drop 7) ((t368.take 133).drop 7) 1 1).bind fun t398 => (selvedgelaw17_PairsKnown.j4 k4 1 2 14 x4_0 x5_160 t398)) else (none))) else (none))) else (none)) = some r := by first | (rw [hy374]; with_reducible exact H) | (have H2_ := (Option.bind_some _ _).symm.trans H; rw [hy374]; with_reducible exact H2_) | (have H2_ := (Option.bind_some _ _).symm.trans H; with_reducible exact H2_) | with_reducible exact H | (rw [hy374]; exact H) | exact H
               have Ny374 := Aside0.mk hy374
               clear hy374
               have c223b0 := eq_true (of_decide_eq_true (by first | (with_reducible assumption) | assumption) : 7 ≤ 133)
               by_cases c224 : 133 ≤ (t368.length : Int)
               ·rw [if_pos c224] at H
                have c224b0 := eq_true c224
                have c224b1 : decide (133 ≤ (t368.length : Int)) = true := decide_eq_true c224
                clear c224
                obtain ⟨y378, hy378⟩ : ∃ y_ : List Int, y_ = ((t368.take 133).drop 7) := ⟨_, rfl⟩
                replace H : ((pairs_Pairs.f y374 y378).bind fun t382 => (if (t382.length : Int) = 63 then ((selvedgelaw17_PairsResolve.f k4 x6_4 t368 t368 0 1).bind fun t385 => (if t385 = true then ((selvedgelaw17_PairsNest.f k4 ((x6_4.take 133).drop 7) ((t368.take 133).drop 7) ((t368.take 133).drop 7) 1 1).bind fun t398 => (selvedgelaw17_PairsKnown.j4 k4 1 2 14 x4_0 x5_160 t398)) else (none))) else (none))) = some r := by first | (rw [hy378]; with_reducible exact H) | (have H2_ := (Option.bind_some _ _).symm.trans H; rw [hy378]; with_reducible exact H2_) | (have H2_ := (Option.bind_some _ _).symm.trans H; with_reducible exact H2_) | with_reducible exact H | (rw [hy378]; exact H) | exact H
                have Ny378 := Aside0.mk hy378
                clear hy378
                replace H := Option.bind_eq_some_iff.mp H
                obtain ⟨t382, A2250, H⟩ := H
                replace H : (if (t382.length : Int) = 63 then ((selvedgelaw17_PairsResolve.f k4 x6_4 t368 t368 0 1).bind fun t385 => (if t385 = true then ((selvedgelaw17_PairsNest.f k4 ((x6_4.take 133).drop 7) ((t368.take 133).drop 7) ((t368.take 133).drop 7) 1 1).bind fun t398 => (selvedgelaw17_PairsKnown.j4 k4 1 2 14 x4_0 x5_160 t398)) else (none))) else (none)) = some r := H
                have A225 := Aside0.mk A2250
                clear A2250
                by_cases c226 : (t382.length : Int) = 63
                ·rw [if_pos c226] at H
                 have c226b0 : ((t382.length : Int) == 63) = true := beq_iff_eq.mpr c226
                 have c226b1 : ((t382.length : Int) != 63) = false := bne_eq_false_iff_eq.mpr c226
                 clear c226
                 replace H := Option.bind_eq_some_iff.mp H
                 obtain ⟨t385, A2270, H⟩ := H
                 replace H : (if t385 = true then ((selvedgelaw17_PairsNest.f k4 ((x6_4.take 133).drop 7) ((t368.take 133).drop 7) ((t368.take 133).drop 7) 1 1).bind fun t398 => (selvedgelaw17_PairsKnown.j4 k4 1 2 14 x4_0 x5_160 t398)) else (none)) = some r := H
                 have A227 := Aside0.mk A2270
                 clear A2270
                 by_cases c228 : t385 = true
                 ·subst c228
                  have H1 : ((selvedgelaw17_PairsNest.f k4 ((x6_4.take 133).drop 7) ((t368.take 133).drop 7) ((t368.take 133).drop 7) 1 1).bind fun t398 => (selvedgelaw17_PairsKnown.j4 k4 1 2 14 x4_0 x5_160 t398)) = some r := by rw [if_pos rfl] at H; exact H
                  clear H
                  have H := H1
                  clear H1
                  have c229b0 := eq_true (of_decide_eq_true (by first | (with_reducible assumption) | assumption) : 7 ≤ 133)
                  have c230b0 := eq_true (of_decide_eq_true (by first | (with_reducible assumption) | assumption) : 133 ≤ (x6_4.length : Int))
                  obtain ⟨y386, hy386⟩ : ∃ y_ : List Int, y_ = ((x6_4.take 133).drop 7) := ⟨_, rfl⟩
                  replace H : ((selvedgelaw17_PairsNest.f k4 y386 ((t368.take 133).drop 7) ((t368.take 133).drop 7) 1 1).bind fun t398 => (selvedgelaw17_PairsKnown.j4 k4 1 2 14 x4_0 x5_160 t398)) = some r := by first | (rw [hy386]; with_reducible exact H) | (have H2_ := (Option.bind_some _ _).symm.trans H; rw [hy386]; with_reducible exact H2_) | (have H2_ := (Option.bind_some _ _).symm.trans H; with_reducible exact H2_) | with_reducible exact H | (rw [hy386]; exact H) | exact H
                  have Ny386 := Aside0.mk hy386
                  clear hy386
                  have c231b0 := eq_true (of_decide_eq_true (by first | (with_reducible assumption) | assumption) : 7 ≤ 133)
                  have c232b0 := eq_true (of_decide_eq_true (by first | (with_reducible assumption) | assumption) : 133 ≤ (t368.length : Int))
                  obtain ⟨y390, hy390⟩ : ∃ y_ : List Int, y_ = ((t368.take 133).drop 7) := ⟨_, rfl⟩
                  replace H : ((selvedgelaw17_PairsNest.f k4 y386 y390 ((t368.take 133).drop 7) 1 1).bind fun t398 => (selvedgelaw17_PairsKnown.j4 k4 1 2 14 x4_0 x5_160 t398)) = some r := by first | (rw [hy390]; with_reducible exact H) | (have H2_ := (Option.bind_some _ _).symm.trans H; rw [hy390]; with_reducible exact H2_) | (have H2_ := (Option.bind_some _ _).symm.trans H; with_reducible exact H2_) | with_reducible exact H | (rw [hy390]; exact H) | exact H
                  have Ny390 := Aside0.mk hy390
                  clear hy390
                  have c233b0 := eq_true (of_decide_eq_true (by first | (with_reducible assumption) | assumption) : 7 ≤ 133)
                  have c234b0 := eq_true (of_decide_eq_true (by first | (with_reducible assumption) | assumption) : 133 ≤ (t368.length : Int))
                  obtain ⟨y394, hy394⟩ : ∃ y_ : List Int, y_ = ((t368.take 133).drop 7) := ⟨_, rfl⟩
                  replace H : ((selvedgelaw17_PairsNest.f k4 y386 y390 y394 1 1).bind fun t398 => (selvedgelaw17_PairsKnown.j4 k4 1 2 14 x4_0 x5_160 t398)) = some r := by first | (rw [hy394]; with_reducible exact H) | (have H2_ := (Option.bind_some _ _).symm.trans H; rw [hy394]; with_reducible exact H2_) | (have H2_ := (Option.bind_some _ _).symm.trans H; with_reducible exact H2_) | with_reducible exact H | (rw [hy394]; exact H) | exact H
                  have Ny394 := Aside0.mk hy394
                  clear hy394
                  replace H := Option.bind_eq_some_iff.mp H
                  obtain ⟨t398, A2350, H⟩ := H
                  replace H : (selvedgelaw17_PairsKnown.j4 k4 1 2 14 x4_0 x5_160 t398) = some r := H
                  have A235 := Aside0.mk A2350
                  clear A2350
                  have H' := Aside0.mk H
                  clear H
                  try go_wp2
                  have n0_ := Aside0.mk (Kd.R_drew HO_6.out)
                  have n1_ := Aside0.mk (Kd.R_drew HO370.out)
                  have n2_ := Aside0.mk (below_drew1 HB.out)
                  clear HO_6
                  clear HO370
                  clear HB
                  have HO_6 := n0_
                  have HO370 := n1_
                  have HB := n2_
                  clear n0_ n1_ n2_
                  obtain ⟨Ao237, co237, eo237⟩ := Kd.R_slice HO370.out
                  (first | subst eo237 | (injection eo237 with f1_ f2_ f3_; have f4_ := f1_.symm; have f5_ := f3_.symm; clear f1_ f2_ f3_; subst f4_; subst f5_))
                  refine start_ (n := 30) (S := fun w' => True) (ds := []) #[false, false, false, false, false, false, false, false, false, false, false, false, false, false, false, false, false, false, false, false, false, false, false, false, false, false, false, false, false, false] (by kernel_rfl) rfl rfl trivial (fun hHeld => ?_); refine with_tabW selvedgelaw17_PairsKnown.tab15 selvedgelaw17_PairsKnown.bits15 (fun HT_ HW_ => ?_)
                  generalize w218.drew = w236 at HO_6 HO370 HB hHeld ⊢
                  refine pure_ (i := 0) (N := some 131) (v := ?_) (a' := ?_) #[true, false, false, false, false, false, false, false, false, false, false, false, false, false, false, false, false, false, false, false, false, false, false, false, false, false, false, false, false, false] rfl rfl (any_of HT_.out (by kernel_rfl)) (fun _ _ _ h => h) (Or.inl ⟨by rfl, ?_⟩) ?_ ?_
                  rotate_left
                  ·intro w'
                   go_simp
                   with_reducible rfl
                  rotate_left
                  ·simp only [Act.put, List.setIfInBounds_toArray, List.set_cons_zero, List.set_cons_succ, i64_w, i32_w]
                   rfl
                  refine pure_ (i := 1) (N := some 132) (v := ?_) (a' := ?_) #[true, true, false, false, false, false, false, false, false, false, false, false, false, false, false, false, false, false, false, false, false, false, false, false, false, false, false, false, false, false] rfl rfl (any_of HT_.out (by kernel_rfl)) (fun _ _ _ h => h) (Or.inl ⟨by rfl, ?_⟩) ?_ ?_
                  rotate_left
                  ·intro w'
                   go_simp
                   with_reducible rfl
                  rotate_left
                  ·simp only [Act.put, List.setIfInBounds_toArray, List.set_cons_zero, List.set_cons_succ, i64_w, i32_w]
                   rfl
                  refine one_ (i := 2) (N := some 133) #[true, true, true, false, false, false, false, false, false, false, false, false, false, false, false, false, false, false, false, false, false, false, false, false, false, false, false, false, false, false] rfl rfl (one_of HT_.out (by kernel_rfl)) (by decide) (fun K hK => ?_)
                  refine goes_ Tryd.func9 (by kernel_rfl) rfl #[.slice Ao217 x6_4.length co217, .slice Ao237 t368.length co237] (by rfl) rfl rfl (by (try simp only [List.map_toArray, List.map_cons, List.map_nil]); first | done | rfl | (simp only [List.length_drop, List.length_take]; rfl)) ?_
                  with_reducible refine (pairs_Pairs.calls _ _ x6_4 _ _ t368 t371 _ ?side1 ?side2 ?side3 ?side4 A219.out (by exact HT.out.below (mvB HB))).mono ?_
                  (case side1 => repeat (first | exact (Kd.R_reads' HO_6.out).2.2 | (with_reducible refine Kd.C_alloc ?_ _) | (with_reducible refine Kd.C_drewN ?_ _) | (with_reducible refine Kd.C_drew ?_)))
                  (case side2 => exact (Kd.R_reads' HO_6.out).2.1)
                  (case side3 => repeat (first | exact (Kd.R_reads' HO370.out).2.2 | (with_reducible refine Kd.C_alloc ?_ _) | (with_reducible refine Kd.C_drewN ?_ _) | (with_reducible refine Kd.C_drew ?_)))
                  (case side4 => exact (Kd.R_reads' HO370.out).2.1)
                  rintro e w238 ⟨v372, rfl, ho0, hb⟩
                  refine ⟨_, rfl, ?_⟩
                  have n0_ := Aside0.mk (Kd.R_below (mvR HO_6) hb)
                  have n1_ := Aside0.mk (Kd.R_below (mvR HO370) hb)
                  have n2_ := Aside0.mk (Kd.R_lower ho0 (below_size (mvB HB)))
                  have n3_ := Aside0.mk (below_step (mvB HB) hb)
                  clear HO_6
                  clear HO370
                  clear HB
                  have HO_6 := n0_
                  have HO370 := n1_
                  have HO373 := n2_
                  have HB := n3_
                  clear n0_ n1_ n2_ n3_
                  (try clear hb)
                  (try clear hb2)
                  (try clear hk)
                  (try clear hi)
                  (try clear ho0)
                  obtain ⟨Ao239, co239, eo239⟩ := Kd.R_slice HO373.out
                  (first | subst eo239 | (injection eo239 with f1_ f2_ f3_; have f4_ := f1_.symm; have f5_ := f3_.symm; clear f1_ f2_ f3_; subst f4_; subst f5_))
                  have q240 : (133 : Int) ≤ ((x6_4.length : Int) : Int) := of_decide_eq_true (by first | (with_reducible assumption) | assumption)
                  obtain ⟨i0240, hi0240, _, hsz240, _⟩ := info_parts info21
                  have hroom240 : x6_4.length ≤ co217 := (Kd.R_reads' HO_6.out).2.1
                  have hC240 : Kd.C (Kd.int .i32) _ Ao217 x6_4.length x6_4 := (Kd.R_reads' HO_6.out).2.2
                  have ql240 : (7 : Int) ≤ (133 : Int) := (by omega)
                  have hcut240 := cut_mid (P := Tryd.prog) 22 21 .i64 .i64 Tryd.underlying22 hi0240 1 hsz240 Ao217 x6_4.length co217 7 133 (by omega) ql240 q240 hroom240
                  have hr240 := Kd.C_mid (lo := (7 : Int).toNat) (hi := (133 : Int).toNat) (c := co217) hC240 (by omega) (by omega) hroom240
                  obtain ⟨A240, hA240⟩ : ∃ A1, A1 = (if co217 = (7 : Int).toNat then Ao217 else (Ao217 : Option Addr).map (·.add ((7 : Int).toNat * 1))) := ⟨_, rfl⟩
                  obtain ⟨c240, hc240⟩ : ∃ c1, c1 = co217 - (7 : Int).toNat := ⟨_, rfl⟩
                  have hy240 : y374.length = (133 : Int).toNat - (7 : Int).toNat := (by rw [Ny374.out, List.length_drop, List.length_take] <;> omega)
                  rw [show ((x6_4).take (133 : Int).toNat).drop (7 : Int).toNat = y374 from Ny374.out.symm] at hr240
                  replace hr240 : Kd.C (Kd.int .i32) _ A240 y374.length y374 := (by rw [hA240]; exact hr240)
                  rw [← hy240, ← hA240, ← hc240] at hcut240
                  have HR377 := Aside0.mk hr240
                  have HC377 := Aside0.mk (show y374.length ≤ c240 from by rw [hy240, hc240]; exact Nat.sub_le_sub_right (Nat.le_trans (by omega) hroom240) _)
                  have KC240 := Aside0.mk hc240
                  clear hr240 hC240 hroom240 hi0240 hsz240 hc240
                  have KY240 := Aside0.mk hy240
                  have KA240 := Aside0.mk hA240
                  clear hy240 hA240
                  have KL240 := Aside0.mk (show 133 ≤ x6_4.length from by omega)
                  have KM240 := Aside0.mk (show 7 ≤ 133 from by omega)
                  replace q240 := eq_true q240
                  have q241 : (133 : Int) ≤ ((t368.length : Int) : Int) := of_decide_eq_true (by first | (with_reducible assumption) | assumption)
                  obtain ⟨i0241, hi0241, _, hsz241, _⟩ := info_parts info33
                  have hroom241 : t368.length ≤ co237 := (Kd.R_reads' HO370.out).2.1
                  have hC241 : Kd.C (Kd.int .u8) _ Ao237 t368.length t368 := (Kd.R_reads' HO370.out).2.2
                  have ql241 : (7 : Int) ≤ (133 : Int) := (by omega)
                  have hcut241 := cut_mid (P := Tryd.prog) 23 33 .i64 .i64 Tryd.underlying23 hi0241 1 hsz241 Ao237 t368.length co237 7 133 (by omega) ql241 q241 hroom241
                  have hr241 := Kd.C_mid (lo := (7 : Int).toNat) (hi := (133 : Int).toNat) (c := co237) hC241 (by omega) (by omega) hroom241
                  obtain ⟨A241, hA241⟩ : ∃ A1, A1 = (if co237 = (7 : Int).toNat then Ao237 else (Ao237 : Option Addr).map (·.add ((7 : Int).toNat * 1))) := ⟨_, rfl⟩
                  obtain ⟨c241, hc241⟩ : ∃ c1, c1 = co237 - (7 : Int).toNat := ⟨_, rfl⟩
                  have hy241 : y378.length = (133 : Int).toNat - (7 : Int).toNat := (by rw [Ny378.out, List.length_drop, List.length_take] <;> omega)
                  rw [show ((t368).take (133 : Int).toNat).drop (7 : Int).toNat = y378 from Ny378.out.symm] at hr241
                  replace hr241 : Kd.C (Kd.int .u8) _ A241 y378.length y378 := (by rw [hA241]; exact hr241)
                  rw [← hy241, ← hA241, ← hc241] at hcut241
                  have HR381 := Aside0.mk hr241
                  have HC381 := Aside0.mk (show y378.length ≤ c241 from by rw [hy241, hc241]; exact Nat.sub_le_sub_right (Nat.le_trans (by omega) hroom241) _)
                  have KC241 := Aside0.mk hc241
                  clear hr241 hC241 hroom241 hi0241 hsz241 hc241
                  have KY241 := Aside0.mk hy241
                  have KA241 := Aside0.mk hA241
                  clear hy241 hA241
                  have KL241 := Aside0.mk (show 133 ≤ t368.length from by omega)
                  have KM241 := Aside0.mk (show 7 ≤ 133 from by omega)
                  replace q241 := eq_true q241
                  refine hK.out _ _ trivial (fun hHeld => ?_)
                  clear hK K
                  refine norm_ (a' := ?_) ?_ ?_
                  rotate_left
                  ·show Act.put _ (some 133) _ = _
                   simp only [Act.put, List.setIfInBounds_toArray, List.set_cons_zero, List.set_cons_succ, i64_w, i32_w]
                   rfl
                  refine pure_ (i := 3) (N := some 134) (v := ?_) (a' := ?_) #[true, true, true, true, false, false, false, false, false, false, false, false, false, false, false, false, false, false, false, false, false, false, false, false, false, false, false, false, false, false] rfl rfl (any_of HT_.out (by kernel_rfl)) (fun _ _ _ h => h) (Or.inl ⟨by rfl, ?_⟩) ?_ ?_
                  rotate_left
                  ·intro w'
                   go_simp
                   with_reducible rfl
                  rotate_left
                  ·simp only [Act.put, List.setIfInBounds_toArray, List.set_cons_zero, List.set_cons_succ, i64_w, i32_w]
                   rfl
                  refine pure_ (i := 4) (N := some 135) (v := ?_) (a' := ?_) #[true, true, true, true, true, false, false, false, false, false, false, false, false, false, false, false, false, false, false, false, false, false, false, false, false, false, false, false, false, false] rfl rfl (any_of HT_.out (by kernel_rfl)) (fun _ _ _ h => h) (Or.inl ⟨by rfl, ?_⟩) ?_ ?_
                  rotate_left
                  ·intro w'
                   go_simp
                   with_reducible rfl
                  rotate_left
                  ·simp only [Act.put, List.setIfInBounds_toArray, List.set_cons_zero, List.set_cons_succ, i64_w, i32_w]
                   rfl
                  refine pure_ (i := 5) (N := some 136) (v := ?_) (a' := ?_) #[true, true, true, true, true, true, false, false, false, false, false, false, false, false, false, false, false, false, false, false, false, false, false, false, false, false, false, false, false, false] rfl rfl (any_of HT_.out (by kernel_rfl)) (fun _ _ _ h => h) (Or.inl ⟨by rfl, ?_⟩) ?_ ?_
                  rotate_left
                  ·intro w'
                   go_simp
                   with_reducible rfl
                  rotate_left
                  ·simp only [Act.put, List.setIfInBounds_toArray, List.set_cons_zero, List.set_cons_succ, i64_w, i32_w]
                   rfl
                  refine pure_ (i := 6) (N := some 137) (v := ?_) (a' := ?_) #[true, true, true, true, true, true, true, false, false, false, false, false, false, false, false, false, false, false, false, false, false, false, false, false, false, false, false, false, false, false] rfl rfl (any_of HT_.out (by kernel_rfl)) (fun _ _ _ h => h) (Or.inl ⟨by rfl, ?_⟩) ?_ ?_
                  rotate_left
                  ·intro w'
                   go_simp
                   with_reducible rfl
                  rotate_left
                  ·simp only [Act.put, List.setIfInBounds_toArray, List.set_cons_zero, List.set_cons_succ, i64_w, i32_w]
                   rfl
                  refine pure_ (i := 7) (N := some 138) (v := ?_) (a' := ?_) #[true, true, true, true, true, true, true, true, false, false, false, false, false, false, false, false, false, false, false, false, false, false, false, false, false, false, false, false, false, false] rfl rfl (any_of HT_.out (by kernel_rfl)) (fun _ _ _ h => h) (Or.inl ⟨by rfl, ?_⟩) ?_ ?_
                  rotate_left
                  ·intro w'
                   go_simp
                   with_reducible rfl
                  rotate_left
                  ·simp only [Act.put, List.setIfInBounds_toArray, List.set_cons_zero, List.set_cons_succ, i64_w, i32_w]
                   rfl
                  refine pure_ (i := 8) (N := some 139) (v := ?_) (a' := ?_) #[true, true, true, true, true, true, true, true, true, false, false, false, false, false, false, false, false, false, false, false, false, false, false, false, false, false, false, false, false, false] rfl rfl (any_of HT_.out (by kernel_rfl)) (fun _ _ _ h => h) (Or.inl ⟨by rfl, ?_⟩) ?_ ?_
                  rotate_left
                  ·intro w'
                   go_simp
                   with_reducible rfl
                  rotate_left
                  ·simp only [Act.put, List.setIfInBounds_toArray, List.set_cons_zero, List.set_cons_succ, i64_w, i32_w]
                   rfl
                  refine pure_ (i := 9) (N := some 140) (v := ?_) (a' := ?_) #[true, true, true, true, true, true, true, true, true, true, false, false, false, false, false, false, false, false, false, false, false, false, false, false, false, false, false, false, false, false] rfl rfl (any_of HT_.out (by kernel_rfl)) (fun _ _ _ h => h) (Or.inl ⟨by rfl, ?_⟩) ?_ ?_
                  rotate_left
                  ·intro w'
                   go_simp
                   with_reducible rfl
                  rotate_left
                  ·simp only [Act.put, List.setIfInBounds_toArray, List.set_cons_zero, List.set_cons_succ, i64_w, i32_w]
                   rfl
                  refine one_ (i := 10) (N := some 141) #[true, true, true, true, true, true, true, true, true, true, true, false, false, false, false, false, false, false, false, false, false, false, false, false, false, false, false, false, false, false] rfl rfl (one_of HT_.out (by kernel_rfl)) (by decide) (fun K hK => ?_)
                  refine goes_ Tryd.func9 (by kernel_rfl) rfl #[.slice A240 y374.length c240, .slice A241 y378.length c241] (by rfl) rfl rfl (by (try simp only [List.map_toArray, List.map_cons, List.map_nil]); first | done | rfl | (simp only [List.length_drop, List.length_take]; rfl)) ?_
                  with_reducible refine (pairs_Pairs.calls _ _ y374 _ _ y378 t382 _ ?side1 ?side2 ?side3 ?side4 A225.out (by exact HT.out.below (mvB HB))).mono ?_
                  (case side1 => repeat (first | exact (by repeat (first | (with_reducible exact HR377.out) | (with_reducible refine Kd.C_alloc ?_ _) | (with_reducible refine Kd.C_drewN ?_ _) | (with_reducible refine Kd.C_drew ?_) | exact HR377.out)) | (with_reducible refine Kd.C_alloc ?_ _) | (with_reducible refine Kd.C_drewN ?_ _) | (with_reducible refine Kd.C_drew ?_)))
                  (case side2 => exact HC377.out)
                  (case side3 => repeat (first | exact (by repeat (first | (with_reducible exact HR381.out) | (with_reducible refine Kd.C_alloc ?_ _) | (with_reducible refine Kd.C_drewN ?_ _) | (with_reducible refine Kd.C_drew ?_) | exact HR381.out)) | (with_reducible refine Kd.C_alloc ?_ _) | (with_reducible refine Kd.C_drewN ?_ _) | (with_reducible refine Kd.C_drew ?_)))
                  (case side4 => exact HC381.out)
                  rintro e w242 ⟨v383, rfl, ho0, hb⟩
                  refine ⟨_, rfl, ?_⟩
                  have n0_ := Aside0.mk (Kd.R_below (mvR HO_6) hb)
                  have n1_ := Aside0.mk (Kd.R_below (mvR HO370) hb)
                  have n2_ := Aside0.mk (Kd.R_elder' (mvR HO373) (Kd.R_base ho0) hb)
                  have n3_ := Aside0.mk (Kd.R_lower (Kd.R_new' ho0 (Kd.R_lt (mvR HO373))) (below_size (mvB HB)))
                  have n4_ := Aside0.mk (Kd.C_below (by repeat (first | (with_reducible exact HR377.out) | (with_reducible refine Kd.C_alloc ?_ _) | (with_reducible refine Kd.C_drewN ?_ _) | (with_reducible refine Kd.C_drew ?_) | exact HR377.out)) hb)
                  have n5_ := Aside0.mk (Kd.C_below (by repeat (first | (with_reducible exact HR381.out) | (with_reducible refine Kd.C_alloc ?_ _) | (with_reducible refine Kd.C_drewN ?_ _) | (with_reducible refine Kd.C_drew ?_) | exact HR381.out)) hb)
                  have n6_ := Aside0.mk (below_step (mvB HB) hb)
                  clear HO_6
                  clear HO370
                  clear HO373
                  clear HR377
                  clear HR381
                  clear HB
                  have HO_6 := n0_
                  have HO370 := n1_
                  have HO373 := n2_
                  have HO384 := n3_
                  have HR377 := n4_
                  have HR381 := n5_
                  have HB := n6_
                  clear n0_ n1_ n2_ n3_ n4_ n5_ n6_
                  (try clear hb)
                  (try clear hb2)
                  (try clear hk)
                  (try clear hi)
                  (try clear ho0)
                  obtain ⟨Ao243, co243, eo243⟩ := Kd.R_slice HO384.out
                  (first | subst eo243 | (injection eo243 with f1_ f2_ f3_; have f4_ := f1_.symm; have f5_ := f3_.symm; clear f1_ f2_ f3_; subst f4_; subst f5_))
                  refine hK.out _ _ trivial (fun hHeld => ?_)
                  clear hK K
                  refine norm_ (a' := ?_) ?_ ?_
                  rotate_left
                  ·show Act.put _ (some 141) _ = _
                   simp only [Act.put, List.setIfInBounds_toArray, List.set_cons_zero, List.set_cons_succ, i64_w, i32_w]
                   rfl
                  refine pure_ (i := 11) (N := some 142) (v := ?_) (a' := ?_) #[true, true, true, true, true, true, true, true, true, true, true, true, false, false, false, false, false, false, false, false, false, false, false, false, false, false, false, false, false, false] rfl rfl (any_of HT_.out (by kernel_rfl)) (fun _ _ _ h => h) (Or.inl ⟨by rfl, ?_⟩) ?_ ?_
                  rotate_left
                  ·intro w'
                   go_simp
                   with_reducible rfl
                  rotate_left
                  ·simp only [Act.put, List.setIfInBounds_toArray, List.set_cons_zero, List.set_cons_succ, i64_w, i32_w]
                   rfl
                  refine pure_ (i := 12) (N := some 143) (v := ?_) (a' := ?_) #[true, true, true, true, true, true, true, true, true, true, true, true, true, false, false, false, false, false, false, false, false, false, false, false, false, false, false, false, false, false] rfl rfl (any_of HT_.out (by kernel_rfl)) (fun _ _ _ h => h) (Or.inl ⟨by rfl, ?_⟩) ?_ ?_
                  rotate_left
                  ·intro w'
                   go_simp
                   with_reducible rfl
                  rotate_left
                  ·simp only [Act.put, List.setIfInBounds_toArray, List.set_cons_zero, List.set_cons_succ, i64_w, i32_w]
                   rfl
                  refine pure_ (i := 13) (N := some 144) (v := ?_) (a' := ?_) #[true, true, true, true, true, true, true, true, true, true, true, true, true, true, false, false, false, false, false, false, false, false, false, false, false, false, false, false, false, false] rfl rfl (any_of HT_.out (by kernel_rfl)) (fun _ _ _ h => h) (Or.inl ⟨by rfl, ?_⟩) ?_ ?_
                  rotate_left
                  ·intro w'
                   go_simp
                   with_reducible rfl
                  rotate_left
                  ·simp only [Act.put, List.setIfInBounds_toArray, List.set_cons_zero, List.set_cons_succ, i64_w, i32_w]
                   rfl
                  refine pure_ (i := 14) (N := some 145) (v := ?_) (a' := ?_) #[true, true, true, true, true, true, true, true, true, true, true, true, true, true, true, false, false, false, false, false, false, false, false, false, false, false, false, false, false, false] rfl rfl (any_of HT_.out (by kernel_rfl)) (fun _ _ _ h => h) (Or.inl ⟨by rfl, ?_⟩) ?_ ?_
                  rotate_left
                  ·intro w'
                   go_simp
                   with_reducible rfl
                  rotate_left
                  ·simp only [Act.put, List.setIfInBounds_toArray, List.set_cons_zero, List.set_cons_succ, i64_w, i32_w]
                   rfl
                  refine pure_ (i := 15) (N := some 146) (v := ?_) (a' := ?_) #[true, true, true, true, true, true, true, true, true, true, true, true, true, true, true, true, false, false, false, false, false, false, false, false, false, false, false, false, false, false] rfl rfl (any_of HT_.out (by kernel_rfl)) (fun _ _ _ h => h) (Or.inl ⟨by rfl, ?_⟩) ?_ ?_
                  rotate_left
                  ·intro w'
                   go_simp
                   with_reducible rfl
                  rotate_left
                  ·simp only [Act.put, List.setIfInBounds_toArray, List.set_cons_zero, List.set_cons_succ, i64_w, i32_w]
                   rfl
                  refine pure_ (i := 16) (N := some 147) (v := ?_) (a' := ?_) #[true, true, true, true, true, true, true, true, true, true, true, true, true, true, true, true, true, false, false, false, false, false, false, false, false, false, false, false, false, false] rfl rfl (any_of HT_.out (by kernel_rfl)) (fun _ _ _ h => h) (Or.inl ⟨by rfl, ?_⟩) ?_ ?_
                  rotate_left
                  ·intro w'
                   go_simp
                   with_reducible rfl
                  rotate_left
                  ·simp only [Act.put, List.setIfInBounds_toArray, List.set_cons_zero, List.set_cons_succ, i64_w, i32_w]
                   rfl
                  refine pure_ (i := 17) (N := some 148) (v := ?_) (a' := ?_) #[true, true, true, true, true, true, true, true, true, true, true, true, true, true, true, true, true, true, false, false, false, false, false, false, false, false, false, false, false, false] rfl rfl (any_of HT_.out (by kernel_rfl)) (fun _ _ _ h => h) (Or.inl ⟨by rfl, ?_⟩) ?_ ?_
                  rotate_left
                  ·intro w'
                   go_simp
                   with_reducible rfl
                  rotate_left
                  ·simp only [Act.put, List.setIfInBounds_toArray, List.set_cons_zero, List.set_cons_succ, i64_w, i32_w]
                   rfl
                  refine one_ (i := 18) (N := some 149) #[true, true, true, true, true, true, true, true, true, true, true, true, true, true, true, true, true, true, true, false, false, false, false, false, false, false, false, false, false, false] rfl rfl (one_of HT_.out (by kernel_rfl)) (by decide) (fun K hK => ?_)
                  refine goes_ Tryd.func4 (by kernel_rfl) rfl #[.slice Ao217 x6_4.length co217, .slice Ao237 t368.length co237, .slice Ao237 t368.length co237, .int .u8 0, .int .u8 1] (by rfl) rfl rfl (by (try simp only [List.map_toArray, List.map_cons, List.map_nil]); first | done | rfl | (simp only [List.length_drop, List.length_take]; rfl)) ?_
                  with_reducible refine (selvedgelaw17_PairsResolve.calls k4 _ _ x6_4 _ _ t368 _ _ t368 0 1 true _ ?side1 ?side2 ?side3 ?side4 ?side5 ?side6 A227.out (by exact HT.out.below (mvB HB))).mono ?_
                  (case side1 => repeat (first | exact (Kd.R_reads' HO_6.out).2.2 | (with_reducible refine Kd.C_alloc ?_ _) | (with_reducible refine Kd.C_drewN ?_ _) | (with_reducible refine Kd.C_drew ?_)))
                  (case side2 => exact (Kd.R_reads' HO_6.out).2.1)
                  (case side3 => repeat (first | exact (Kd.R_reads' HO370.out).2.2 | (with_reducible refine Kd.C_alloc ?_ _) | (with_reducible refine Kd.C_drewN ?_ _) | (with_reducible refine Kd.C_drew ?_)))
                  (case side4 => exact (Kd.R_reads' HO370.out).2.1)
                  (case side5 => repeat (first | exact (Kd.R_reads' HO370.out).2.2 | (with_reducible refine Kd.C_alloc ?_ _) | (with_reducible refine Kd.C_drewN ?_ _) | (with_reducible refine Kd.C_drew ?_)))
                  (case side6 => exact (Kd.R_reads' HO370.out).2.1)
                  rintro e w244 ⟨rfl, hb⟩
                  refine ⟨_, rfl, ?_⟩
                  have n0_ := Aside0.mk (Kd.R_below (mvR HO_6) hb)
                  have n1_ := Aside0.mk (Kd.R_below (mvR HO370) hb)
                  have n2_ := Aside0.mk (Kd.R_below (mvR HO373) hb)
                  have n3_ := Aside0.mk (Kd.R_below (mvR HO384) hb)
                  have n4_ := Aside0.mk (Kd.C_below (by repeat (first | (with_reducible exact HR377.out) | (with_reducible refine Kd.C_alloc ?_ _) | (with_reducible refine Kd.C_drewN ?_ _) | (with_reducible refine Kd.C_drew ?_) | exact HR377.out)) hb)
                  have n5_ := Aside0.mk (Kd.C_below (by repeat (first | (with_reducible exact HR381.out) | (with_reducible refine Kd.C_alloc ?_ _) | (with_reducible refine Kd.C_drewN ?_ _) | (with_reducible refine Kd.C_drew ?_) | exact HR381.out)) hb)
                  have n6_ := Aside0.mk (below_step (mvB HB) hb)
                  clear HO_6
                  clear HO370
                  clear HO373
                  clear HO384
                  clear HR377
                  clear HR381
                  clear HB
                  have HO_6 := n0_
                  have HO370 := n1_
                  have HO373 := n2_
                  have HO384 := n3_
                  have HR377 := n4_
                  have HR381 := n5_
                  have HB := n6_
                  clear n0_ n1_ n2_ n3_ n4_ n5_ n6_
                  (try clear hb)
                  (try clear hb2)
                  (try clear hk)
                  (try clear hi)
                  have q245 : (133 : Int) ≤ ((x6_4.length : Int) : Int) := of_decide_eq_true (by first | (with_reducible assumption) | assumption)
                  obtain ⟨i0245, hi0245, _, hsz245, _⟩ := info_parts info21
                  have hroom245 : x6_4.length ≤ co217 := (Kd.R_reads' HO_6.out).2.1
                  have hC245 : Kd.C (Kd.int .i32) _ Ao217 x6_4.length x6_4 := (Kd.R_reads' HO_6.out).2.2
                  have ql245 : (7 : Int) ≤ (133 : Int) := (by omega)
                  have hcut245 := cut_mid (P := Tryd.prog) 22 21 .i64 .i64 Tryd.underlying22 hi0245 1 hsz245 Ao217 x6_4.length co217 7 133 (by omega) ql245 q245 hroom245
                  have hr245 := Kd.C_mid (lo := (7 : Int).toNat) (hi := (133 : Int).toNat) (c := co217) hC245 (by omega) (by omega) hroom245
                  obtain ⟨A245, hA245⟩ : ∃ A1, A1 = (if co217 = (7 : Int).toNat then Ao217 else (Ao217 : Option Addr).map (·.add ((7 : Int).toNat * 1))) := ⟨_, rfl⟩
                  obtain ⟨c245, hc245⟩ : ∃ c1, c1 = co217 - (7 : Int).toNat := ⟨_, rfl⟩
                  have hy245 : y386.length = (133 : Int).toNat - (7 : Int).toNat := (by rw [Ny386.out, List.length_drop, List.length_take] <;> omega)
                  rw [show ((x6_4).take (133 : Int).toNat).drop (7 : Int).toNat = y386 from Ny386.out.symm] at hr245
                  replace hr245 : Kd.C (Kd.int .i32) _ A245 y386.length y386 := (by rw [hA245]; exact hr245)
                  rw [← hy245, ← hA245, ← hc245] at hcut245
                  have HR389 := Aside0.mk hr245
                  have HC389 := Aside0.mk (show y386.length ≤ c245 from by rw [hy245, hc245]; exact Nat.sub_le_sub_right (Nat.le_trans (by omega) hroom245) _)
                  have KC245 := Aside0.mk hc245
                  clear hr245 hC245 hroom245 hi0245 hsz245 hc245
                  have KY245 := Aside0.mk hy245
                  have KA245 := Aside0.mk hA245
                  clear hy245 hA245
                  have KL245 := Aside0.mk (show 133 ≤ x6_4.length from by omega)
                  have KM245 := Aside0.mk (show 7 ≤ 133 from by omega)
                  replace q245 := eq_true q245
                  have q246 : (133 : Int) ≤ ((t368.length : Int) : Int) := of_decide_eq_true (by first | (with_reducible assumption) | assumption)
                  obtain ⟨i0246, hi0246, _, hsz246, _⟩ := info_parts info33
                  have hroom246 : t368.length ≤ co237 := (Kd.R_reads' HO370.out).2.1
                  have hC246 : Kd.C (Kd.int .u8) _ Ao237 t368.length t368 := (Kd.R_reads' HO370.out).2.2
                  have ql246 : (7 : Int) ≤ (133 : Int) := (by omega)
                  have hcut246 := cut_mid (P := Tryd.prog) 23 33 .i64 .i64 Tryd.underlying23 hi0246 1 hsz246 Ao237 t368.length co237 7 133 (by omega) ql246 q246 hroom246
                  have hr246 := Kd.C_mid (lo := (7 : Int).toNat) (hi := (133 : Int).toNat) (c := co237) hC246 (by omega) (by omega) hroom246
                  obtain ⟨A246, hA246⟩ : ∃ A1, A1 = (if co237 = (7 : Int).toNat then Ao237 else (Ao237 : Option Addr).map (·.add ((7 : Int).toNat * 1))) := ⟨_, rfl⟩
                  obtain ⟨c246, hc246⟩ : ∃ c1, c1 = co237 - (7 : Int).toNat := ⟨_, rfl⟩
                  have hy246 : y390.length = (133 : Int).toNat - (7 : Int).toNat := (by rw [Ny390.out, List.length_drop, List.length_take] <;> omega)
                  rw [show ((t368).take (133 : Int).toNat).drop (7 : Int).toNat = y390 from Ny390.out.symm] at hr246
                  replace hr246 : Kd.C (Kd.int .u8) _ A246 y390.length y390 := (by rw [hA246]; exact hr246)
                  rw [← hy246, ← hA246, ← hc246] at hcut246
                  have HR393 := Aside0.mk hr246
                  have HC393 := Aside0.mk (show y390.length ≤ c246 from by rw [hy246, hc246]; exact Nat.sub_le_sub_right (Nat.le_trans (by omega) hroom246) _)
                  have KC246 := Aside0.mk hc246
                  clear hr246 hC246 hroom246 hi0246 hsz246 hc246
                  have KY246 := Aside0.mk hy246
                  have KA246 := Aside0.mk hA246
                  clear hy246 hA246
                  have KL246 := Aside0.mk (show 133 ≤ t368.length from by omega)
                  have KM246 := Aside0.mk (show 7 ≤ 133 from by omega)
                  replace q246 := eq_true q246
                  have q247 : (133 : Int) ≤ ((t368.length : Int) : Int) := of_decide_eq_true (by first | (with_reducible assumption) | assumption)
                  obtain ⟨i0247, hi0247, _, hsz247, _⟩ := info_parts info33
                  have hroom247 : t368.length ≤ co237 := (Kd.R_reads' HO370.out).2.1
                  have hC247 : Kd.C (Kd.int .u8) _ Ao237 t368.length t368 := (Kd.R_reads' HO370.out).2.2
                  have ql247 : (7 : Int) ≤ (133 : Int) := (by omega)
                  have hcut247 := cut_mid (P := Tryd.prog) 23 33 .i64 .i64 Tryd.underlying23 hi0247 1 hsz247 Ao237 t368.length co237 7 133 (by omega) ql247 q247 hroom247
                  have hr247 := Kd.C_mid (lo := (7 : Int).toNat) (hi := (133 : Int).toNat) (c := co237) hC247 (by omega) (by omega) hroom247
                  obtain ⟨A247, hA247⟩ : ∃ A1, A1 = (if co237 = (7 : Int).toNat then Ao237 else (Ao237 : Option Addr).map (·.add ((7 : Int).toNat * 1))) := ⟨_, rfl⟩
                  obtain ⟨c247, hc247⟩ : ∃ c1, c1 = co237 - (7 : Int).toNat := ⟨_, rfl⟩
                  have hy247 : y394.length = (133 : Int).toNat - (7 : Int).toNat := (by rw [Ny394.out, List.length_drop, List.length_take] <;> omega)
                  rw [show ((t368).take (133 : Int).toNat).drop (7 : Int).toNat = y394 from Ny394.out.symm] at hr247
                  replace hr247 : Kd.C (Kd.int .u8) _ A247 y394.length y394 := (by rw [hA247]; exact hr247)
                  rw [← hy247, ← hA247, ← hc247] at hcut247
                  have HR397 := Aside0.mk hr247
                  have HC397 := Aside0.mk (show y394.length ≤ c247 from by rw [hy247, hc247]; exact Nat.sub_le_sub_right (Nat.le_trans (by omega) hroom247) _)
                  have KC247 := Aside0.mk hc247
                  clear hr247 hC247 hroom247 hi0247 hsz247 hc247
                  have KY247 := Aside0.mk hy247
                  have KA247 := Aside0.mk hA247
                  clear hy247 hA247
                  have KL247 := Aside0.mk (show 133 ≤ t368.length from by omega)
                  have KM247 := Aside0.mk (show 7 ≤ 133 from by omega)
                  replace q247 := eq_true q247
                  refine hK.out _ _ trivial (fun hHeld => ?_)
                  clear hK K
                  refine norm_ (a' := ?_) ?_ ?_
                  rotate_left
                  ·show Act.put _ (some 149) _ = _
                   simp only [Act.put, List.setIfInBounds_toArray, List.set_cons_zero, List.set_cons_succ, i64_w, i32_w]
                   rfl
                  refine pure_ (i := 19) (N := some 150) (v := ?_) (a' := ?_) #[true, true, true, true, true, true, true, true, true, true, true, true, true, true, true, true, true, true, true, true, false, false, false, false, false, false, false, false, false, false] rfl rfl (any_of HT_.out (by kernel_rfl)) (fun _ _ _ h => h) (Or.inl ⟨by rfl, ?_⟩) ?_ ?_
                  rotate_left
                  ·intro w'
                   go_simp
                   with_reducible rfl
                  rotate_left
                  ·simp only [Act.put, List.setIfInBounds_toArray, List.set_cons_zero, List.set_cons_succ, i64_w, i32_w]
                   rfl
                  refine pure_ (i := 20) (N := some 151) (v := ?_) (a' := ?_) #[true, true, true, true, true, true, true, true, true, true, true, true, true, true, true, true, true, true, true, true, true, false, false, false, false, false, false, false, false, false] rfl rfl (any_of HT_.out (by kernel_rfl)) (fun _ _ _ h => h) (Or.inl ⟨by rfl, ?_⟩) ?_ ?_
                  rotate_left
                  ·intro w'
                   go_simp
                   with_reducible rfl
                  rotate_left
                  ·simp only [Act.put, List.setIfInBounds_toArray, List.set_cons_zero, List.set_cons_succ, i64_w, i32_w]
                   rfl
                  refine pure_ (i := 21) (N := some 152) (v := ?_) (a' := ?_) #[true, true, true, true, true, true, true, true, true, true, true, true, true, true, true, true, true, true, true, true, true, true, false, false, false, false, false, false, false, false] rfl rfl (any_of HT_.out (by kernel_rfl)) (fun _ _ _ h => h) (Or.inl ⟨by rfl, ?_⟩) ?_ ?_
                  rotate_left
                  ·intro w'
                   go_simp
                   with_reducible rfl
                  rotate_left
                  ·simp only [Act.put, List.setIfInBounds_toArray, List.set_cons_zero, List.set_cons_succ, i64_w, i32_w]
                   rfl
                  refine pure_ (i := 22) (N := some 153) (v := ?_) (a' := ?_) #[true, true, true, true, true, true, true, true, true, true, true, true, true, true, true, true, true, true, true, true, true, true, true, false, false, false, false, false, false, false] rfl rfl (any_of HT_.out (by kernel_rfl)) (fun _ _ _ h => h) (Or.inl ⟨by rfl, ?_⟩) ?_ ?_
                  rotate_left
                  ·intro w'
                   go_simp
                   with_reducible rfl
                  rotate_left
                  ·simp only [Act.put, List.setIfInBounds_toArray, List.set_cons_zero, List.set_cons_succ, i64_w, i32_w]
                   rfl
                  refine pure_ (i := 23) (N := some 154) (v := ?_) (a' := ?_) #[true, true, true, true, true, true, true, true, true, true, true, true, true, true, true, true, true, true, true, true, true, true, true, true, false, false, false, false, false, false] rfl rfl (any_of HT_.out (by kernel_rfl)) (fun _ _ _ h => h) (Or.inl ⟨by rfl, ?_⟩) ?_ ?_
                  rotate_left
                  ·intro w'
                   go_simp
                   with_reducible rfl
                  rotate_left
                  ·simp only [Act.put, List.setIfInBounds_toArray, List.set_cons_zero, List.set_cons_succ, i64_w, i32_w]
                   rfl
                  refine pure_ (i := 24) (N := some 155) (v := ?_) (a' := ?_) #[true, true, true, true, true, true, true, true, true, true, true, true, true, true, true, true, true, true, true, true, true, true, true, true, true, false, false, false, false, false] rfl rfl (any_of HT_.out (by kernel_rfl)) (fun _ _ _ h => h) (Or.inl ⟨by rfl, ?_⟩) ?_ ?_
                  rotate_left
                  ·intro w'
                   go_simp
                   with_reducible rfl
                  rotate_left
                  ·simp only [Act.put, List.setIfInBounds_toArray, List.set_cons_zero, List.set_cons_succ, i64_w, i32_w]
                   rfl
                  refine pure_ (i := 25) (N := some 156) (v := ?_) (a' := ?_) #[true, true, true, true, true, true, true, true, true, true, true, true, true, true, true, true, true, true, true, true, true, true, true, true, true, true, false, false, false, false] rfl rfl (any_of HT_.out (by kernel_rfl)) (fun _ _ _ h => h) (Or.inl ⟨by rfl, ?_⟩) ?_ ?_
                  rotate_left
                  ·intro w'
                   go_simp
                   with_reducible rfl
                  rotate_left
                  ·simp only [Act.put, List.setIfInBounds_toArray, List.set_cons_zero, List.set_cons_succ, i64_w, i32_w]
                   rfl
                  refine pure_ (i := 26) (N := some 157) (v := ?_) (a' := ?_) #[true, true, true, true, true, true, true, true, true, true, true, true, true, true, true, true, true, true, true, true, true, true, true, true, true, true, true, false, false, false] rfl rfl (any_of HT_.out (by kernel_rfl)) (fun _ _ _ h => h) (Or.inl ⟨by rfl, ?_⟩) ?_ ?_
                  rotate_left
                  ·intro w'
                   go_simp
                   with_reducible rfl
                  rotate_left
                  ·simp only [Act.put, List.setIfInBounds_toArray, List.set_cons_zero, List.set_cons_succ, i64_w, i32_w]
                   rfl
                  refine one_ (i := 27) (N := some 158) #[true, true, true, true, true, true, true, true, true, true, true, true, true, true, true, true, true, true, true, true, true, true, true, true, true, true, true, true, false, false] rfl rfl (one_of HT_.out (by kernel_rfl)) (by decide) (fun K hK => ?_)
                  have eA245 : A245 = A240 := KA245.out.trans KA240.out.symm
                  have ey245 : y386 = y374 := Ny386.out.trans Ny374.out.symm
                  have ec245 : c245 = c240 := KC245.out.trans KC240.out.symm
                  have eA246 : A246 = A241 := KA246.out.trans KA241.out.symm
                  have ey246 : y390 = y378 := Ny390.out.trans Ny378.out.symm
                  have ec246 : c246 = c241 := KC246.out.trans KC241.out.symm
                  have eA247 : A247 = A241 := KA247.out.trans KA241.out.symm
                  have ey247 : y394 = y378 := Ny394.out.trans Ny378.out.symm
                  have ec247 : c247 = c241 := KC247.out.trans KC241.out.symm
                  refine goes_ Tryd.func5 (by kernel_rfl) rfl #[.slice A245 y386.length c245, .slice A246 y390.length c246, .slice A247 y394.length c247, .int .u8 1, .int .u8 1] (by rfl) rfl rfl (by rw [eA245, eA246, eA247, ec245, ec246, ec247, ey245, ey246, ey247]; (try simp only [List.map_toArray, List.map_cons, List.map_nil]); first | done | rfl | (simp only [List.length_drop, List.length_take]; rfl)) ?_
                  with_reducible refine (selvedgelaw17_PairsNest.calls k4 _ _ y386 _ _ y390 _ _ y394 1 1 t398 _ ?side1 ?side2 ?side3 ?side4 ?side5 ?side6 A235.out (by exact HT.out.below (mvB HB))).mono ?_
                  (case side1 => repeat (first | exact (by repeat (first | (with_reducible exact HR389.out) | (with_reducible refine Kd.C_alloc ?_ _) | (with_reducible refine Kd.C_drewN ?_ _) | (with_reducible refine Kd.C_drew ?_) | exact HR389.out)) | (with_reducible refine Kd.C_alloc ?_ _) | (with_reducible refine Kd.C_drewN ?_ _) | (with_reducible refine Kd.C_drew ?_)))
                  (case side2 => exact HC389.out)
                  (case side3 => repeat (first | exact (by repeat (first | (with_reducible exact HR393.out) | (with_reducible refine Kd.C_alloc ?_ _) | (with_reducible refine Kd.C_drewN ?_ _) | (with_reducible refine Kd.C_drew ?_) | exact HR393.out)) | (with_reducible refine Kd.C_alloc ?_ _) | (with_reducible refine Kd.C_drewN ?_ _) | (with_reducible refine Kd.C_drew ?_)))
                  (case side4 => exact HC393.out)
                  (case side5 => repeat (first | exact (by repeat (first | (with_reducible exact HR397.out) | (with_reducible refine Kd.C_alloc ?_ _) | (with_reducible refine Kd.C_drewN ?_ _) | (with_reducible refine Kd.C_drew ?_) | exact HR397.out)) | (with_reducible refine Kd.C_alloc ?_ _) | (with_reducible refine Kd.C_drewN ?_ _) | (with_reducible refine Kd.C_drew ?_)))
                  (case side6 => exact HC397.out)
                  rintro e w248 ⟨rfl, hb⟩
                  refine ⟨_, rfl, ?_⟩
                  have n0_ := Aside0.mk (Kd.R_below (mvR HO_6) hb)
                  have n1_ := Aside0.mk (Kd.R_below (mvR HO370) hb)
                  have n2_ := Aside0.mk (Kd.R_below (mvR HO373) hb)
                  have n3_ := Aside0.mk (Kd.R_below (mvR HO384) hb)
                  have n4_ := Aside0.mk (Kd.C_below (by repeat (first | (with_reducible exact HR377.out) | (with_reducible refine Kd.C_alloc ?_ _) | (with_reducible refine Kd.C_drewN ?_ _) | (with_reducible refine Kd.C_drew ?_) | exact HR377.out)) hb)
                  have n5_ := Aside0.mk (Kd.C_below (by repeat (first | (with_reducible exact HR381.out) | (with_reducible refine Kd.C_alloc ?_ _) | (with_reducible refine Kd.C_drewN ?_ _) | (with_reducible refine Kd.C_drew ?_) | exact HR381.out)) hb)
                  have n6_ := Aside0.mk (Kd.C_below (by repeat (first | (with_reducible exact HR389.out) | (with_reducible refine Kd.C_alloc ?_ _) | (with_reducible refine Kd.C_drewN ?_ _) | (with_reducible refine Kd.C_drew ?_) | exact HR389.out)) hb)
                  have n7_ := Aside0.mk (Kd.C_below (by repeat (first | (with_reducible exact HR393.out) | (with_reducible refine Kd.C_alloc ?_ _) | (with_reducible refine Kd.C_drewN ?_ _) | (with_reducible refine Kd.C_drew ?_) | exact HR393.out)) hb)
                  have n8_ := Aside0.mk (Kd.C_below (by repeat (first | (with_reducible exact HR397.out) | (with_reducible refine Kd.C_alloc ?_ _) | (with_reducible refine Kd.C_drewN ?_ _) | (with_reducible refine Kd.C_drew ?_) | exact HR397.out)) hb)
                  have n9_ := Aside0.mk (below_step (mvB HB) hb)
                  clear HO_6
                  clear HO370
                  clear HO373
                  clear HO384
                  clear HR377
                  clear HR381
                  clear HR389
                  clear HR393
                  clear HR397
                  clear HB
                  have HO_6 := n0_
                  have HO370 := n1_
                  have HO373 := n2_
                  have HO384 := n3_
                  have HR377 := n4_
                  have HR381 := n5_
                  have HR389 := n6_
                  have HR393 := n7_
                  have HR397 := n8_
                  have HB := n9_
                  clear n0_ n1_ n2_ n3_ n4_ n5_ n6_ n7_ n8_ n9_
                  (try clear hb)
                  (try clear hb2)
                  (try clear hk)
                  (try clear hi)
                  refine hK.out _ _ trivial (fun hHeld => ?_)
                  clear hK K
                  refine norm_ (a' := ?_) ?_ ?_
                  rotate_left
                  ·show Act.put _ (some 158) _ = _
                   simp only [Act.put, List.setIfInBounds_toArray, List.set_cons_zero, List.set_cons_succ, i64_w, i32_w]
                   rfl
                  refine pure_ (i := 28) (N := some 159) (v := ?_) (a' := ?_) #[true, true, true, true, true, true, true, true, true, true, true, true, true, true, true, true, true, true, true, true, true, true, true, true, true, true, true, true, true, false] rfl rfl (any_of HT_.out (by kernel_rfl)) (fun _ _ _ h => h) (Or.inl ⟨by rfl, ?_⟩) ?_ ?_
                  rotate_left
                  ·intro w'
                   go_simp
                   with_reducible rfl
                  rotate_left
                  ·simp only [Act.put, List.setIfInBounds_toArray, List.set_cons_zero, List.set_cons_succ, i64_w, i32_w]
                   rfl
                  refine pure_ (i := 29) (N := some 10) (v := ?_) (a' := ?_) #[true, true, true, true, true, true, true, true, true, true, true, true, true, true, true, true, true, true, true, true, true, true, true, true, true, true, true, true, true, true] rfl rfl (any_of HT_.out (by kernel_rfl)) (fun _ _ _ h => h) (Or.inl ⟨by rfl, ?_⟩) ?_ ?_
                  rotate_left
                  ·intro w'
                   go_simp
                   with_reducible rfl
                  rotate_left
                  ·simp only [Act.put, List.setIfInBounds_toArray, List.set_cons_zero, List.set_cons_succ, i64_w, i32_w]
                   rfl
                  refine done_ (done_of HT_.out (by kernel_rfl)) ?_
                  try go_wp2
                  go_meet
                  case rel => exact ⟨_, (t398), (by first | rfl | (simp; done) | (simp [*]; done)), H', ⟨by have := HJ0.out; have := HJ160.out; have := HK3.out; have := HK4.out; first | omega | exact Nat.le_refl _⟩, ⟨mvB HB⟩⟩
                 ·rw [if_neg c228] at H
                  exact absurd H (by simp)
                ·rw [if_neg c226] at H
                 exact absurd H (by simp)
               ·rw [if_neg c224] at H
                exact absurd H (by simp)
              ·rw [if_neg c222] at H
               exact absurd H (by simp)
             ·rw [if_neg c221] at H
              exact absurd H (by simp)
            ·rw [if_neg c220] at H
             exact absurd H (by simp)
           case rest =>
            clear HC216
            try clear c1
            try clear c2
            try clear p2
            try clear q2
            try clear c9
            try clear c22
            try clear c26
            try clear q26
            try clear c220
            try clear c220b0
            try clear c220b1
            try clear c220b2
            try clear c221
            try clear c222
            try clear c224
            try clear c226
            try clear c226b0
            try clear c226b1
            try clear c262
            try clear q262
            try clear c263
            try clear q263
            try clear q262
            try clear q263
            obtain ⟨kq, x10_215, rfl, HA, HJ215, HB⟩ := hcut
            cases kq with
            | zero => exact absurd HA.out (by simp [selvedgelaw17_PairsKnown.j4])
            | succ kj215 =>
             have H := HA.out
             clear HA
             simp only [selvedgelaw17_PairsKnown.j4] at H
             obtain ⟨y399, hy399⟩ : ∃ y_ : List Int, y_ = (([40, 120, 41, 40, 40, 121, 41, 41] : List Int)) := ⟨_, rfl⟩
             replace H : ((selvedgelaw17_classes.f kj215 y399).bind fun t402 => ((some (([14, 1, 14, 9, 9, 14, 9, 10] : List Int) : List Int)).bind fun y405 => (if 65537 ≤ 70368744177664 then (if 65537 ≤ 281474976710656 then ((pairs_Resolve.f (List.replicate 65537 0) (List.replicate 65537 0) (List.replicate 65537 0) 0 1).bind fun bt417 => (if 1 ≤ (t402.length : Int) then ((pairs_Resolve.f y399 (t402.drop 1) t402 0 1).bind fun bt425 => ((pairs_Resolve.f y399 t402 ([] : List Int) 0 1).bind fun bt429 => ((selvedgelaw17_PairsResolve.f kj215 y399 y405 t402 0 1).bind fun t433 => (if t433 = true then ((selvedgelaw17_PairsResolve.f kj215 y399 y405 y405 1 1).bind fun t434 => (if t434 = true then ((selvedgelaw17_PairsNest.f kj215 y399 y405 t402 0 2).bind fun t435 => (if t435 = true then (if bt417.2 = 3 then (if bt425.2 = 2 then (if x4_0 = true then (if x5_160 = true then (if x10_215 = true then (if bt429.2 = 2 then ((selvedgelaw17_works.f kj215).bind fun t436 => (some t436)) else (none)) else (none)) else (none)) else (none)) else (none)) else (none)) else (none))) else (none))) else (none))))) else (none))) else (none)) else (none)))) = some r := by first | (rw [hy399]; with_reducible exact H) | (have H2_ := (Option.bind_some _ _).symm.trans H; rw [hy399]; with_reducible exact H2_) | (have H2_ := (Option.bind_some _ _).symm.trans H; with_reducible exact H2_) | with_reducible exact H | (rw [hy399]; exact H) | exact H
             have Ny399 := Aside0.mk hy399
             clear hy399
             replace H := Option.bind_eq_some_iff.mp H
             obtain ⟨t402, A2700, H⟩ := H
             replace H : ((some (([14, 1, 14, 9, 9, 14, 9, 10] : List Int) : List Int)).bind fun y405 => (if 65537 ≤ 70368744177664 then (if 65537 ≤ 281474976710656 then ((pairs_Resolve.f (List.replicate 65537 0) (List.replicate 65537 0) (List.replicate 65537 0) 0 1).bind fun bt417 => (if 1 ≤ (t402.length : Int) then ((pairs_Resolve.f y399 (t402.drop 1) t402 0 1).bind fun bt425 => ((pairs_Resolve.f y399 t402 ([] : List Int) 0 1).bind fun bt429 => ((selvedgelaw17_PairsResolve.f kj215 y399 y405 t402 0 1).bind fun t433 => (if t433 = true then ((selvedgelaw17_PairsResolve.f kj215 y399 y405 y405 1 1).bind fun t434 => (if t434 = true then ((selvedgelaw17_PairsNest.f kj215 y399 y405 t402 0 2).bind fun t435 => (if t435 = true then (if bt417.2 = 3 then (if bt425.2 = 2 then (if x4_0 = true then (if x5_160 = true then (if x10_215 = true then (if bt429.2 = 2 then ((selvedgelaw17_works.f kj215).bind fun t436 => (some t436)) else (none)) else (none)) else (none)) else (none)) else (none)) else (none)) else (none))) else (none))) else (none))))) else (none))) else (none)) else (none))) = some r := H
             have A270 := Aside0.mk A2700
             clear A2700
             obtain ⟨y405, hy405⟩ : ∃ y_ : List Int, y_ = (([14, 1, 14, 9, 9, 14, 9, 10] : List Int)) := ⟨_, rfl⟩
             replace H : (if 65537 ≤ 70368744177664 then (if 65537 ≤ 281474976710656 then ((pairs_Resolve.f (List.replicate 65537 0) (List.replicate 65537 0) (List.replicate 65537 0) 0 1).bind fun bt417 => (if 1 ≤ (t402.length : Int) then ((pairs_Resolve.f y399 (t402.drop 1) t402 0 1).bind fun bt425 => ((pairs_Resolve.f y399 t402 ([] : List Int) 0 1).bind fun bt429 => ((selvedgelaw17_PairsResolve.f kj215 y399 y405 t402 0 1).bind fun t433 => (if t433 = true then ((selvedgelaw17_PairsResolve.f kj215 y399 y405 y405 1 1).bind fun t434 => (if t434 = true then ((selvedgelaw17_PairsNest.f kj215 y399 y405 t402 0 2).bind fun t435 => (if t435 = true then (if bt417.2 = 3 then (if bt425.2 = 2 then (if x4_0 = true then (if x5_160 = true then (if x10_215 = true then (if bt429.2 = 2 then ((selvedgelaw17_works.f kj215).bind fun t436 => (some t436)) else (none)) else (none)) else (none)) else (none)) else (none)) else (none)) else (none))) else (none))) else (none))))) else (none))) else (none)) else (none)) = some r := by first | (rw [hy405]; with_reducible exact H) | (have H2_ := (Option.bind_some _ _).symm.trans H; rw [hy405]; with_reducible exact H2_) | (have H2_ := (Option.bind_some _ _).symm.trans H; with_reducible exact H2_) | with_reducible exact H | (rw [hy405]; exact H) | exact H
             have Ny405 := Aside0.mk hy405
             clear hy405
             by_cases c271 : 65537 ≤ 70368744177664
             ·rw [if_pos c271] at H
              have c271b0 := eq_true c271
              have c271b1 : decide (65537 ≤ 70368744177664) = true := decide_eq_true c271
              clear c271
              obtain ⟨y408, hy408⟩ : ∃ y_ : List Int, y_ = (List.replicate 65537 0) := ⟨_, rfl⟩
              replace H : (if 65537 ≤ 281474976710656 then ((pairs_Resolve.f y408 (List.replicate 65537 0) (List.replicate 65537 0) 0 1).bind fun bt417 => (if 1 ≤ (t402.length : Int) then ((pairs_Resolve.f y399 (t402.drop 1) t402 0 1).bind fun bt425 => ((pairs_Resolve.f y399 t402 ([] : List Int) 0 1).bind fun bt429 => ((selvedgelaw17_PairsResolve.f kj215 y399 y405 t402 0 1).bind fun t433 => (if t433 = true then ((selvedgelaw17_PairsResolve.f kj215 y399 y405 y405 1 1).bind fun t434 => (if t434 = true then ((selvedgelaw17_PairsNest.f kj215 y399 y405 t402 0 2).bind fun t435 => (if t435 = true then (if bt417.2 = 3 then (if bt425.2 = 2 then (if x4_0 = true then (if x5_160 = true then (if x10_215 = true then (if bt429.2 = 2 then ((selvedgelaw17_works.f kj215).bind fun t436 => (some t436)) else (none)) else (none)) else (none)) else (none)) else (none)) else (none)) else (none))) else (none))) else (none))))) else (none))) else (none)) = some r := by first | (rw [hy408]; with_reducible exact H) | (have H2_ := (Option.bind_some _ _).symm.trans H; rw [hy408]; with_reducible exact H2_) | (have H2_ := (Option.bind_some _ _).symm.trans H; with_reducible exact H2_) | with_reducible exact H | (rw [hy408]; exact H) | exact H
              have Ny408 := Aside0.mk hy408
              clear hy408
              by_cases c272 : 65537 ≤ 281474976710656
              ·rw [if_pos c272] at H
               have c272b0 := eq_true c272
               have c272b1 : decide (65537 ≤ 281474976710656) = true := decide_eq_true c272
               clear c272
               obtain ⟨y411, hy411⟩ : ∃ y_ : List Int, y_ = (List.replicate 65537 0) := ⟨_, rfl⟩
               replace H : ((pairs_Resolve.f y408 y411 (List.replicate 65537 0) 0 1).bind fun bt417 => (if 1 ≤ (t402.length : Int) then ((pairs_Resolve.f y399 (t402.drop 1) t402 0 1).bind fun bt425 => ((pairs_Resolve.f y399 t402 ([] : List Int) 0 1).bind fun bt429 => ((selvedgelaw17_PairsResolve.f kj215 y399 y405 t402 0 1).bind fun t433 => (if t433 = true then ((selvedgelaw17_PairsResolve.f kj215 y399 y405 y405 1 1).bind fun t434 => (if t434 = true then ((selvedgelaw17_PairsNest.f kj215 y399 y405 t402 0 2).bind fun t435 => (if t435 = true then (if bt417.2 = 3 then (if bt425.2 = 2 then (if x4_0 = true then (if x5_160 = true then (if x10_215 = true then (if bt429.2 = 2 then ((selvedgelaw17_works.f kj215).bind fun t436 => (some t436)) else (none)) else (none)) else (none)) else (none)) else (none)) else (none)) else (none))) else (none))) else (none))))) else (none))) = some r := by first | (rw [hy411]; with_reducible exact H) | (have H2_ := (Option.bind_some _ _).symm.trans H; rw [hy411]; with_reducible exact H2_) | (have H2_ := (Option.bind_some _ _).symm.trans H; with_reducible exact H2_) | with_reducible exact H | (rw [hy411]; exact H) | exact H
               have Ny411 := Aside0.mk hy411
               clear hy411
               obtain ⟨y414, hy414⟩ : ∃ y_ : List Int, y_ = (List.replicate 65537 0) := ⟨_, rfl⟩
               replace H : ((pairs_Resolve.f y408 y411 y414 0 1).bind fun bt417 => (if 1 ≤ (t402.length : Int) then ((pairs_Resolve.f y399 (t402.drop 1) t402 0 1).bind fun bt425 => ((pairs_Resolve.f y399 t402 ([] : List Int) 0 1).bind fun bt429 => ((selvedgelaw17_PairsResolve.f kj215 y399 y405 t402 0 1).bind fun t433 => (if t433 = true then ((selvedgelaw17_PairsResolve.f kj215 y399 y405 y405 1 1).bind fun t434 => (if t434 = true then ((selvedgelaw17_PairsNest.f kj215 y399 y405 t402 0 2).bind fun t435 => (if t435 = true then (if bt417.2 = 3 then (if bt425.2 = 2 then (if x4_0 = true then (if x5_160 = true then (if x10_215 = true then (if bt429.2 = 2 then ((selvedgelaw17_works.f kj215).bind fun t436 => (some t436)) else (none)) else (none)) else (none)) else (none)) else (none)) else (none)) else (none))) else (none))) else (none))))) else (none))) = some r := by first | (rw [hy414]; with_reducible exact H) | (have H2_ := (Option.bind_some _ _).symm.trans H; rw [hy414]; with_reducible exact H2_) | (have H2_ := (Option.bind_some _ _).symm.trans H; with_reducible exact H2_) | with_reducible exact H | (rw [hy414]; exact H) | exact H
               have Ny414 := Aside0.mk hy414
               clear hy414
               replace H := Option.bind_eq_some_iff.mp H
               obtain ⟨⟨t417, t418⟩, A2730, H⟩ := H
               replace H : (if 1 ≤ (t402.length : Int) then ((pairs_Resolve.f y399 (t402.drop 1) t402 0 1).bind fun bt425 => ((pairs_Resolve.f y399 t402 ([] : List Int) 0 1).bind fun bt429 => ((selvedgelaw17_PairsResolve.f kj215 y399 y405 t402 0 1).bind fun t433 => (if t433 = true then ((selvedgelaw17_PairsResolve.f kj215 y399 y405 y405 1 1).bind fun t434 => (if t434 = true then ((selvedgelaw17_PairsNest.f kj215 y399 y405 t402 0 2).bind fun t435 => (if t435 = true then (if t418 = 3 then (if bt425.2 = 2 then (if x4_0 = true then (if x5_160 = true then (if x10_215 = true then (if bt429.2 = 2 then ((selvedgelaw17_works.f kj215).bind fun t436 => (some t436)) else (none)) else (none)) else (none)) else (none)) else (none)) else (none)) else (none))) else (none))) else (none))))) else (none)) = some r := H
               have A273 := Aside0.mk A2730
               clear A2730
               by_cases c274 : 1 ≤ (t402.length : Int)
               ·rw [if_pos c274] at H
                have c274b0 := eq_true c274
                have c274b1 : decide (1 ≤ (t402.length : Int)) = true := decide_eq_true c274
                clear c274
                obtain ⟨y421, hy421⟩ : ∃ y_ : List Int, y_ = (t402.drop 1) := ⟨_, rfl⟩
                replace H : ((pairs_Resolve.f y399 y421 t402 0 1).bind fun bt425 => ((pairs_Resolve.f y399 t402 ([] : List Int) 0 1).bind fun bt429 => ((selvedgelaw17_PairsResolve.f kj215 y399 y405 t402 0 1).bind fun t433 => (if t433 = true then ((selvedgelaw17_PairsResolve.f kj215 y399 y405 y405 1 1).bind fun t434 => (if t434 = true then ((selvedgelaw17_PairsNest.f kj215 y399 y405 t402 0 2).bind fun t435 => (if t435 = true then (if t418 = 3 then (if bt425.2 = 2 then (if x4_0 = true then (if x5_160 = true then (if x10_215 = true then (if bt429.2 = 2 then ((selvedgelaw17_works.f kj215).bind fun t436 => (some t436)) else (none)) else (none)) else (none)) else (none)) else (none)) else (none)) else (none))) else (none))) else (none))))) = some r := by first | (rw [hy421]; with_reducible exact H) | (have H2_ := (Option.bind_some _ _).symm.trans H; rw [hy421]; with_reducible exact H2_) | (have H2_ := (Option.bind_some _ _).symm.trans H; with_reducible exact H2_) | with_reducible exact H | (rw [hy421]; exact H) | exact H
                have Ny421 := Aside0.mk hy421
                clear hy421
                replace H := Option.bind_eq_some_iff.mp H
                obtain ⟨⟨t425, t426⟩, A2750, H⟩ := H
                replace H : ((pairs_Resolve.f y399 t402 ([] : List Int) 0 1).bind fun bt429 => ((selvedgelaw17_PairsResolve.f kj215 y399 y405 t402 0 1).bind fun t433 => (if t433 = true then ((selvedgelaw17_PairsResolve.f kj215 y399 y405 y405 1 1).bind fun t434 => (if t434 = true then ((selvedgelaw17_PairsNest.f kj215 y399 y405 t402 0 2).bind fun t435 => (if t435 = true then (if t418 = 3 then (if t426 = 2 then (if x4_0 = true then (if x5_160 = true then (if x10_215 = true then (if bt429.2 = 2 then ((selvedgelaw17_works.f kj215).bind fun t436 => (some t436)) else (none)) else (none)) else (none)) else (none)) else (none)) else (none)) else (none))) else (none))) else (none)))) = some r := H
                have A275 := Aside0.mk A2750
                clear A2750
                replace H := Option.bind_eq_some_iff.mp H
                obtain ⟨⟨t429, t430⟩, A2760, H⟩ := H
                replace H : ((selvedgelaw17_PairsResolve.f kj215 y399 y405 t402 0 1).bind fun t433 => (if t433 = true then ((selvedgelaw17_PairsResolve.f kj215 y399 y405 y405 1 1).bind fun t434 => (if t434 = true then ((selvedgelaw17_PairsNest.f kj215 y399 y405 t402 0 2).bind fun t435 => (if t435 = true then (if t418 = 3 then (if t426 = 2 then (if x4_0 = true then (if x5_160 = true then (if x10_215 = true then (if t430 = 2 then ((selvedgelaw17_works.f kj215).bind fun t436 => (some t436)) else (none)) else (none)) else (none)) else (none)) else (none)) else (none)) else (none))) else (none))) else (none))) = some r := H
                have A276 := Aside0.mk A2760
                clear A2760
                replace H := Option.bind_eq_some_iff.mp H
                obtain ⟨t433, A2770, H⟩ := H
                replace H : (if t433 = true then ((selvedgelaw17_PairsResolve.f kj215 y399 y405 y405 1 1).bind fun t434 => (if t434 = true then ((selvedgelaw17_PairsNest.f kj215 y399 y405 t402 0 2).bind fun t435 => (if t435 = true then (if t418 = 3 then (if t426 = 2 then (if x4_0 = true then (if x5_160 = true then (if x10_215 = true then (if t430 = 2 then ((selvedgelaw17_works.f kj215).bind fun t436 => (some t436)) else (none)) else (none)) else (none)) else (none)) else (none)) else (none)) else (none))) else (none))) else (none)) = some r := H
                have A277 := Aside0.mk A2770
                clear A2770
                by_cases c278 : t433 = true
                ·subst c278
                 have H1 : ((selvedgelaw17_PairsResolve.f kj215 y399 y405 y405 1 1).bind fun t434 => (if t434 = true then ((selvedgelaw17_PairsNest.f kj215 y399 y405 t402 0 2).bind fun t435 => (if t435 = true then (if t418 = 3 then (if t426 = 2 then (if x4_0 = true then (if x5_160 = true then (if x10_215 = true then (if t430 = 2 then ((selvedgelaw17_works.f kj215).bind fun t436 => (some t436)) else (none)) else (none)) else (none)) else (none)) else (none)) else (none)) else (none))) else (none))) = some r := by rw [if_pos rfl] at H; exact H
                 clear H
                 have H := H1
                 clear H1
                 replace H := Option.bind_eq_some_iff.mp H
                 obtain ⟨t434, A2790, H⟩ := H
                 replace H : (if t434 = true then ((selvedgelaw17_PairsNest.f kj215 y399 y405 t402 0 2).bind fun t435 => (if t435 = true then (if t418 = 3 then (if t426 = 2 then (if x4_0 = true then (if x5_160 = true then (if x10_215 = true then (if t430 = 2 then ((selvedgelaw17_works.f kj215).bind fun t436 => (some t436)) else (none)) else (none)) else (none)) else (none)) else (none)) else (none)) else (none))) else (none)) = some r := H
                 have A279 := Aside0.mk A2790
                 clear A2790
                 by_cases c280 : t434 = true
                 ·subst c280
                  have H1 : ((selvedgelaw17_PairsNest.f kj215 y399 y405 t402 0 2).bind fun t435 => (if t435 = true then (if t418 = 3 then (if t426 = 2 then (if x4_0 = true then (if x5_160 = true then (if x10_215 = true then (if t430 = 2 then ((selvedgelaw17_works.f kj215).bind fun t436 => (some t436)) else (none)) else (none)) else (none)) else (none)) else (none)) else (none)) else (none))) = some r := by rw [if_pos rfl] at H; exact H
                  clear H
                  have H := H1
                  clear H1
                  replace H := Option.bind_eq_some_iff.mp H
                  obtain ⟨t435, A2810, H⟩ := H
                  replace H : (if t435 = true then (if t418 = 3 then (if t426 = 2 then (if x4_0 = true then (if x5_160 = true then (if x10_215 = true then (if t430 = 2 then ((selvedgelaw17_works.f kj215).bind fun t436 => (some t436)) else (none)) else (none)) else (none)) else (none)) else (none)) else (none)) else (none)) = some r := H
                  have A281 := Aside0.mk A2810
                  clear A2810
                  by_cases c282 : t435 = true
                  ·subst c282
                   have H1 : (if t418 = 3 then (if t426 = 2 then (if x4_0 = true then (if x5_160 = true then (if x10_215 = true then (if t430 = 2 then ((selvedgelaw17_works.f kj215).bind fun t436 => (some t436)) else (none)) else (none)) else (none)) else (none)) else (none)) else (none)) = some r := by rw [if_pos rfl] at H; exact H
                   clear H
                   have H := H1
                   clear H1
                   by_cases c283 : t418 = 3
                   ·rw [if_pos c283] at H
                    have c283b0 : (t418 == 3) = true := beq_iff_eq.mpr c283
                    have c283b1 : (t418 != 3) = false := bne_eq_false_iff_eq.mpr c283
                    clear c283
                    by_cases c284 : t426 = 2
                    ·rw [if_pos c284] at H
                     have c284b0 : (t426 == 2) = true := beq_iff_eq.mpr c284
                     have c284b1 : (t426 != 2) = false := bne_eq_false_iff_eq.mpr c284
                     clear c284
                     by_cases c285 : x4_0 = true
                     ·subst c285
                      have H1 : (if x5_160 = true then (if x10_215 = true then (if t430 = 2 then ((selvedgelaw17_works.f kj215).bind fun t436 => (some t436)) else (none)) else (none)) else (none)) = some r := by rw [if_pos rfl] at H; exact H
                      clear H
                      have H := H1
                      clear H1
                      by_cases c286 : x5_160 = true
                      ·subst c286
                       have H1 : (if x10_215 = true then (if t430 = 2 then ((selvedgelaw17_works.f kj215).bind fun t436 => (some t436)) else (none)) else (none)) = some r := by rw [if_pos rfl] at H; exact H
                       clear H
                       have H := H1
                       clear H1
                       by_cases c287 : x10_215 = true
                       ·subst c287
                        have H1 : (if t430 = 2 then ((selvedgelaw17_works.f kj215).bind fun t436 => (some t436)) else (none)) = some r := by rw [if_pos rfl] at H; exact H
                        clear H
                        have H := H1
                        clear H1
                        by_cases c288 : t430 = 2
                        ·rw [if_pos c288] at H
                         have c288b0 : (t430 == 2) = true := beq_iff_eq.mpr c288
                         have c288b1 : (t430 != 2) = false := bne_eq_false_iff_eq.mpr c288
                         clear c288
                         replace H := Option.bind_eq_some_iff.mp H
                         obtain ⟨t436, A2890, H⟩ := H
                         replace H : (some t436) = some r := H
                         have A289 := Aside0.mk A2890
                         clear A2890
                         obtain rfl := Option.some.inj H
                         try go_wp2_with (first | ((with_reducible refine gate_dst (N := 160) rfl ?_); (try (refine gate_guard (by rfl) ?_; dsimp only)); refine Kd.R_lit (Kd.int .i32) _ 21 ?hg (N := 160) ?hd (xs := ([40, 120, 41, 40, 40, 121, 41, 41] : List Int)) (inner := [.int .i32 40, .int .i32 120, .int .i32 41, .int .i32 40, .int .i32 40, .int .i32 121, .int .i32 41, .int .i32 41]) (ok := fun _ => True) (okp := fun _ => True) ?hr ?hp (fun _ hk => hk) trivial (Below.refl _ _) (Nat.le_refl _) (by simp) ?_; (case hd => rfl); (case hg => rfl); (case hr => first | (go_simp; done) | (go_simp; rfl)); (case hp => exact (Reps.one (show Kd.M (Kd.int .i32) _ _ _ 40 [.int .i32 40] from rfl) (Reps.one (show Kd.M (Kd.int .i32) _ _ _ 120 [.int .i32 120] from rfl) (Reps.one (show Kd.M (Kd.int .i32) _ _ _ 41 [.int .i32 41] from rfl) (Reps.one (show Kd.M (Kd.int .i32) _ _ _ 40 [.int .i32 40] from rfl) (Reps.one (show Kd.M (Kd.int .i32) _ _ _ 40 [.int .i32 40] from rfl) (Reps.one (show Kd.M (Kd.int .i32) _ _ _ 121 [.int .i32 121] from rfl) (Reps.one (show Kd.M (Kd.int .i32) _ _ _ 41 [.int .i32 41] from rfl) (Reps.one (show Kd.M (Kd.int .i32) _ _ _ 41 [.int .i32 41] from rfl) (Reps.none _ _)))))))))); intro v400 w290 ho291 hb hg_ hnew_; clear hg_ hnew_; (first | rw [← Ny399.out] at ho291 | (simp only [Int.reduceToNat] at ho291; rw [← Ny399.out] at ho291)); have n0_ := Aside0.mk (Kd.R_lower ho291 (below_size (mvB HB))); have n1_ := Aside0.mk (below_step (mvB HB) hb); clear HB; have HO401 := n0_; have HB := n1_; clear n0_ n1_; clear hb ho291; obtain ⟨Ao292, co292, eo292⟩ := Kd.R_slice HO401.out; subst eo292) | ((with_reducible refine gate_callee (f := 17) rfl ?_); refine goesL_ (some 162) rfl rfl Tryd.func17 (by kernel_rfl) rfl #[.slice Ao292 y399.length co292] rfl (by (try simp only [List.map_toArray, List.map_cons, List.map_nil]); first | done | rfl | (simp only [List.length_drop, List.length_take]; rfl)) ?_; (with_reducible refine (selvedgelaw17_classes.calls kj215 _ _ y399 t402 _ ?side1 ?side2 A270.out).mono ?_); (case side1 => repeat (first | exact (Kd.R_reads' HO401.out).2.2 | (with_reducible refine Kd.C_alloc ?_ _) | (with_reducible refine Kd.C_drewN ?_ _) | (with_reducible refine Kd.C_drew ?_))); (case side2 => exact (Kd.R_reads' HO401.out).2.1); rintro e w293 ⟨v403, rfl, ho0, hb⟩; refine ⟨_, rfl, ?_⟩; have n0_ := Aside0.mk (Kd.R_below (mvR HO401) hb); have n1_ := Aside0.mk (Kd.R_lower ho0 (below_size (mvB HB))); have n2_ := Aside0.mk (below_step (mvB HB) hb); clear HO401; clear HB; have HO401 := n0_; have HO404 := n1_; have HB := n2_; clear n0_ n1_ n2_; (try clear hb); (try clear hb2); (try clear hk); (try clear hi); (try clear ho0)) | ((with_reducible refine gate_dst (N := 167) rfl ?_); (try (refine gate_guard (by rfl) ?_; dsimp only)); refine Kd.R_lit (Kd.int .u8) _ 33 ?hg (N := 167) ?hd (xs := ([14, 1, 14, 9, 9, 14, 9, 10] : List Int)) (inner := [.int .u8 14, .int .u8 1, .int .u8 14, .int .u8 9, .int .u8 9, .int .u8 14, .int .u8 9, .int .u8 10]) (ok := fun _ => True) (okp := fun _ => True) ?hr ?hp (fun _ hk => hk) trivial (Below.refl _ _) (Nat.le_refl _) (by simp) ?_; (case hd => rfl); (case hg => rfl); (case hr => first | (go_simp; done) | (go_simp; rfl)); (case hp => exact (Reps.one (show Kd.M (Kd.int .u8) _ _ _ 14 [.int .u8 14] from rfl) (Reps.one (show Kd.M (Kd.int .u8) _ _ _ 1 [.int .u8 1] from rfl) (Reps.one (show Kd.M (Kd.int .u8) _ _ _ 14 [.int .u8 14] from rfl) (Reps.one (show Kd.M (Kd.int .u8) _ _ _ 9 [.int .u8 9] from rfl) (Reps.one (show Kd.M (Kd.int .u8) _ _ _ 9 [.int .u8 9] from rfl) (Reps.one (show Kd.M (Kd.int .u8) _ _ _ 14 [.int .u8 14] from rfl) (Reps.one (show Kd.M (Kd.int .u8) _ _ _ 9 [.int .u8 9] from rfl) (Reps.one (show Kd.M (Kd.int .u8) _ _ _ 10 [.int .u8 10] from rfl) (Reps.none _ _)))))))))); intro v406 w294 ho295 hb hg_ hnew_; clear hg_ hnew_; (first | rw [← Ny405.out] at ho295 | (simp only [Int.reduceToNat] at ho295; rw [← Ny405.out] at ho295)); have n0_ := Aside0.mk (Kd.R_below (mvR HO401) hb); have n1_ := Aside0.mk (Kd.R_elder' (mvR HO404) (Kd.R_base ho295) hb); have n2_ := Aside0.mk (Kd.R_lower (Kd.R_new' ho295 (Kd.R_lt (mvR HO404))) (below_size (mvB HB))); have n3_ := Aside0.mk (below_step (mvB HB) hb); clear HO401; clear HO404; clear HB; have HO401 := n0_; have HO404 := n1_; have HO407 := n2_; have HB := n3_; clear n0_ n1_ n2_ n3_; clear hb ho295))
                         have n0_ := Aside0.mk (Kd.R_drew HO401.out)
                         have n1_ := Aside0.mk (Kd.R_drew HO404.out)
                         have n2_ := Aside0.mk (Kd.R_drew HO407.out)
                         have n3_ := Aside0.mk (below_drew1 HB.out)
                         clear HO401
                         clear HO404
                         clear HO407
                         clear HB
                         have HO401 := n0_
                         have HO404 := n1_
                         have HO407 := n2_
                         have HB := n3_
                         clear n0_ n1_ n2_ n3_
                         refine start_ (n := 10) (S := fun w' => True) (ds := []) #[false, false, false, false, false, false, false, false, false, false] (by kernel_rfl) rfl rfl trivial (fun hHeld => ?_); refine with_tabW selvedgelaw17_PairsKnown.tab19 selvedgelaw17_PairsKnown.bits19 (fun HT_ HW_ => ?_)
                         generalize w294.drew = w296 at HO401 HO404 HO407 HB hHeld ⊢
                         refine pure_ (i := 3) (N := some 172) (v := ?_) (a' := ?_) #[false, false, false, true, false, false, false, false, false, false] rfl rfl (any_of HT_.out (by kernel_rfl)) (fun _ _ _ h => h) (Or.inl ⟨by rfl, ?_⟩) ?_ ?_
                         rotate_left
                         ·intro w'
                          go_simp
                          with_reducible rfl
                         rotate_left
                         ·simp only [Act.put, List.setIfInBounds_toArray, List.set_cons_zero, List.set_cons_succ, i64_w, i32_w]
                          rfl
                         refine join_ (σ := Value × Value × Value) 6 #[true, true, true, true, false, false, false, false, false, false] (fun s_ => [(169, s_.1), (170, s_.2.1), (171, s_.2.2)]) (fun s_ w' => (Kd.R (Kd.int .i32) 21 w' w.heap.size (fun k_ => some k_ ≠ (s_.1 : Value).ownBlock) (.slice Ao292 y399.length co292) y399) ∧ (Kd.R (Kd.int .u8) 33 w' w.heap.size (fun k_ => some k_ ≠ (v406 : Value).ownBlock ∧ some k_ ≠ (s_.2.1 : Value).ownBlock ∧ some k_ ≠ (s_.2.2 : Value).ownBlock) v403 t402) ∧ (Kd.R (Kd.int .u8) 33 w' w.heap.size (fun k_ => some k_ ≠ (v403 : Value).ownBlock ∧ some k_ ≠ (s_.2.1 : Value).ownBlock ∧ some k_ ≠ (s_.2.2 : Value).ownBlock) v406 y405) ∧ (Kd.R (Kd.int .i32) 21 w' w.heap.size (fun k_ => some k_ ≠ (.slice Ao292 y399.length co292 : Value).ownBlock) s_.1 y408) ∧ (Kd.R (Kd.int .u8) 33 w' w.heap.size (fun k_ => some k_ ≠ (v403 : Value).ownBlock ∧ some k_ ≠ (v406 : Value).ownBlock ∧ some k_ ≠ (s_.2.2 : Value).ownBlock) s_.2.1 y411) ∧ (Kd.R (Kd.int .u8) 33 w' w.heap.size (fun k_ => some k_ ≠ (v403 : Value).ownBlock ∧ some k_ ≠ (v406 : Value).ownBlock ∧ some k_ ≠ (s_.2.1 : Value).ownBlock) s_.2.2 y414) ∧ (Below w.heap.size w w')) ?_ ?_
                         rotate_left
                         ·intro hJ0_1_2
                          refine join_ (σ := Value × Value) 7 #[true, true, false, true, false, false, false, false, false, false] (fun s_ => [(169, s_.1), (170, s_.2)]) (fun s_ w' => (Kd.R (Kd.int .i32) 21 w' w.heap.size (fun k_ => some k_ ≠ (s_.1 : Value).ownBlock) (.slice Ao292 y399.length co292) y399) ∧ (Kd.R (Kd.int .u8) 33 w' w.heap.size (fun k_ => some k_ ≠ (v406 : Value).ownBlock ∧ some k_ ≠ (s_.2 : Value).ownBlock) v403 t402) ∧ (Kd.R (Kd.int .u8) 33 w' w.heap.size (fun k_ => some k_ ≠ (v403 : Value).ownBlock ∧ some k_ ≠ (s_.2 : Value).ownBlock) v406 y405) ∧ (Kd.R (Kd.int .i32) 21 w' w.heap.size (fun k_ => some k_ ≠ (.slice Ao292 y399.length co292 : Value).ownBlock) s_.1 y408) ∧ (Kd.R (Kd.int .u8) 33 w' w.heap.size (fun k_ => some k_ ≠ (v403 : Value).ownBlock ∧ some k_ ≠ (v406 : Value).ownBlock) s_.2 y411) ∧ (Below w.heap.size w w')) ?_ ?_
                          rotate_left
                          ·intro hJ0_1
                           refine join_ (σ := Value × Value) 7 #[true, false, true, true, false, false, false, false, false, false] (fun s_ => [(169, s_.1), (171, s_.2)]) (fun s_ w' => (Kd.R (Kd.int .i32) 21 w' w.heap.size (fun k_ => some k_ ≠ (s_.1 : Value).ownBlock) (.slice Ao292 y399.length co292) y399) ∧ (Kd.R (Kd.int .u8) 33 w' w.heap.size (fun k_ => some k_ ≠ (v406 : Value).ownBlock ∧ some k_ ≠ (s_.2 : Value).ownBlock) v403 t402) ∧ (Kd.R (Kd.int .u8) 33 w' w.heap.size (fun k_ => some k_ ≠ (v403 : Value).ownBlock ∧ some k_ ≠ (s_.2 : Value).ownBlock) v406 y405) ∧ (Kd.R (Kd.int .i32) 21 w' w.heap.size (fun k_ => some k_ ≠ (.slice Ao292 y399.length co292 : Value).ownBlock) s_.1 y408) ∧ (Kd.R (Kd.int .u8) 33 w' w.heap.size (fun k_ => some k_ ≠ (v403 : Value).ownBlock ∧ some k_ ≠ (v406 : Value).ownBlock) s_.2 y414) ∧ (Below w.heap.size w w')) ?_ ?_
                           rotate_left
                           ·intro hJ0_2
                            refine join_ (σ := Value × Value) 7 #[false, true, true, true, false, false, false, false, false, false] (fun s_ => [(170, s_.1), (171, s_.2)]) (fun s_ w' => (Kd.R (Kd.int .i32) 21 w' w.heap.size (fun _ => True) (.slice Ao292 y399.length co292) y399) ∧ (Kd.R (Kd.int .u8) 33 w' w.heap.size (fun k_ => some k_ ≠ (v406 : Value).ownBlock ∧ some k_ ≠ (s_.1 : Value).ownBlock ∧ some k_ ≠ (s_.2 : Value).ownBlock) v403 t402) ∧ (Kd.R (Kd.int .u8) 33 w' w.heap.size (fun k_ => some k_ ≠ (v403 : Value).ownBlock ∧ some k_ ≠ (s_.1 : Value).ownBlock ∧ some k_ ≠ (s_.2 : Value).ownBlock) v406 y405) ∧ (Kd.R (Kd.int .u8) 33 w' w.heap.size (fun k_ => some k_ ≠ (v403 : Value).ownBlock ∧ some k_ ≠ (v406 : Value).ownBlock ∧ some k_ ≠ (s_.2 : Value).ownBlock) s_.1 y411) ∧ (Kd.R (Kd.int .u8) 33 w' w.heap.size (fun k_ => some k_ ≠ (v403 : Value).ownBlock ∧ some k_ ≠ (v406 : Value).ownBlock ∧ some k_ ≠ (s_.1 : Value).ownBlock) s_.2 y414) ∧ (Below w.heap.size w w')) ?_ ?_
                            rotate_left
                            ·intro hJ1_2
                             refine join_ (σ := Value) 8 #[true, false, false, true, false, false, false, false, false, false] (fun s_ => [(169, s_)]) (fun s_ w' => (Kd.R (Kd.int .i32) 21 w' w.heap.size (fun k_ => some k_ ≠ (s_ : Value).ownBlock) (.slice Ao292 y399.length co292) y399) ∧ (Kd.R (Kd.int .u8) 33 w' w.heap.size (fun k_ => some k_ ≠ (v406 : Value).ownBlock) v403 t402) ∧ (Kd.R (Kd.int .u8) 33 w' w.heap.size (fun k_ => some k_ ≠ (v403 : Value).ownBlock) v406 y405) ∧ (Kd.R (Kd.int .i32) 21 w' w.heap.size (fun k_ => some k_ ≠ (.slice Ao292 y399.length co292 : Value).ownBlock) s_ y408) ∧ (Below w.heap.size w w')) ?_ ?_
                             rotate_left
                             ·intro hJ0
                              refine join_ (σ := Value) 8 #[false, true, false, true, false, false, false, false, false, false] (fun s_ => [(170, s_)]) (fun s_ w' => (Kd.R (Kd.int .i32) 21 w' w.heap.size (fun _ => True) (.slice Ao292 y399.length co292) y399) ∧ (Kd.R (Kd.int .u8) 33 w' w.heap.size (fun k_ => some k_ ≠ (v406 : Value).ownBlock ∧ some k_ ≠ (s_ : Value).ownBlock) v403 t402) ∧ (Kd.R (Kd.int .u8) 33 w' w.heap.size (fun k_ => some k_ ≠ (v403 : Value).ownBlock ∧ some k_ ≠ (s_ : Value).ownBlock) v406 y405) ∧ (Kd.R (Kd.int .u8) 33 w' w.heap.size (fun k_ => some k_ ≠ (v403 : Value).ownBlock ∧ some k_ ≠ (v406 : Value).ownBlock) s_ y411) ∧ (Below w.heap.size w w')) ?_ ?_
                              rotate_left
                              ·intro hJ1
                               refine join_ (σ := Value) 8 #[false, false, true, true, false, false, false, false, false, false] (fun s_ => [(171, s_)]) (fun s_ w' => (Kd.R (Kd.int .i32) 21 w' w.heap.size (fun _ => True) (.slice Ao292 y399.length co292) y399) ∧ (Kd.R (Kd.int .u8) 33 w' w.heap.size (fun k_ => some k_ ≠ (v406 : Value).ownBlock ∧ some k_ ≠ (s_ : Value).ownBlock) v403 t402) ∧ (Kd.R (Kd.int .u8) 33 w' w.heap.size (fun k_ => some k_ ≠ (v403 : Value).ownBlock ∧ some k_ ≠ (s_ : Value).ownBlock) v406 y405) ∧ (Kd.R (Kd.int .u8) 33 w' w.heap.size (fun k_ => some k_ ≠ (v403 : Value).ownBlock ∧ some k_ ≠ (v406 : Value).ownBlock) s_ y414) ∧ (Below w.heap.size w w')) ?_ ?_
                               rotate_left
                               ·intro hJ2
                                refine three_ (i := 0) (j := 1) (k := 2) (Ni := some 169) (Nj := some 170) (Nk := some 171) #[true, false, false, true, false, false, false, false, false, false] #[false, true, false, true, false, false, false, false, false, false] #[false, false, true, true, false, false, false, false, false, false] rfl rfl rfl rfl rfl rfl (three_of HT_.out (by kernel_rfl)) (by decide) (by decide) (by decide) (fun K hK => ?_) (fun K hK => ?_) (fun K hK => ?_)
                                ·skip
                                 refine Kd.R_make_step (Kd.int .i32) _ 21 (by rfl) (N := 169) rfl 22 _ _ rfl 65537 rfl rfl Tryd.underlying22 (.int .i32 0) 4 info21 rfl (by decide) (by omega) 0 (ok := fun _ => True) (okp := fun _ => True) rfl (fun _ hk => hk) trivial (by omega) (by omega) (Below.refl _ _) (Nat.le_refl _) ?_
                                 intro v409 w297 ho298 hb hg_ hnew_
                                 clear hg_ hnew_
                                 (first | rw [← Ny408.out] at ho298 | (simp only [Int.reduceToNat] at ho298; rw [← Ny408.out] at ho298))
                                 have n0_ := Aside0.mk (Kd.R_elder' (mvR HO401) (Kd.R_base ho298) hb)
                                 have n1_ := Aside0.mk (Kd.R_below (mvR HO404) hb)
                                 have n2_ := Aside0.mk (Kd.R_below (mvR HO407) hb)
                                 have n3_ := Aside0.mk (Kd.R_lower (Kd.R_new' ho298 (Kd.R_lt (mvR HO401))) (below_size (mvB HB)))
                                 have n4_ := Aside0.mk (below_step (mvB HB) hb)
                                 clear HO401
                                 clear HO404
                                 clear HO407
                                 clear HB
                                 have HO401 := n0_
                                 have HO404 := n1_
                                 have HO407 := n2_
                                 have HO410 := n3_
                                 have HB := n4_
                                 clear n0_ n1_ n2_ n3_ n4_
                                 clear hb ho298
                                 refine hK.out _ _ trivial (fun hHeld => ?_)
                                 clear hK K
                                 refine norm_ (a' := ?_) ?_ ?_
                                 rotate_left
                                 ·show Act.put _ (some 169) _ = _
                                  simp only [Act.put, List.setIfInBounds_toArray, List.set_cons_zero, List.set_cons_succ, i64_w, i32_w]
                                  rfl
                                 exact norm_ (by first | (simp only [putAll, Act.put, List.setIfInBounds_toArray, List.set_cons_zero, List.set_cons_succ]; done) | (simp only [putAll, Act.put, List.setIfInBounds_toArray, List.set_cons_zero, List.set_cons_succ]; rfl)) (hJ0 (v409) _ ⟨(by (with_reducible repeat (first | apply Kd.R_alloc | apply Kd.R_drewN | apply Kd.R_drew)); exact Kd.R_mono HO401.out (fun _ hk => hk.2)), (by (with_reducible repeat (first | apply Kd.R_alloc | apply Kd.R_drewN | apply Kd.R_drew)); exact Kd.R_mono HO404.out (fun _ hk => hk.2)), (by (with_reducible repeat (first | apply Kd.R_alloc | apply Kd.R_drewN | apply Kd.R_drew)); exact Kd.R_mono HO407.out (fun _ hk => hk.2)), (by (with_reducible repeat (first | apply Kd.R_alloc | apply Kd.R_drewN | apply Kd.R_drew)); exact Kd.R_mono HO410.out (fun _ hk => hk.2)), (mvB HB)⟩)
                                ·skip
                                 refine Kd.R_make_step (Kd.int .u8) _ 33 (by rfl) (N := 170) rfl 23 _ _ rfl 65537 rfl rfl Tryd.underlying23 (.int .u8 0) 1 info33 rfl (by decide) (by omega) 0 (ok := fun _ => True) (okp := fun _ => True) rfl (fun _ hk => hk) trivial (by omega) (by omega) (Below.refl _ _) (Nat.le_refl _) ?_
                                 intro v412 w297 ho298 hb hg_ hnew_
                                 clear hg_ hnew_
                                 (first | rw [← Ny411.out] at ho298 | (simp only [Int.reduceToNat] at ho298; rw [← Ny411.out] at ho298))
                                 have n0_ := Aside0.mk (Kd.R_below (mvR HO401) hb)
                                 have n1_ := Aside0.mk (Kd.R_elder' (mvR HO404) (Kd.R_base ho298) hb)
                                 have n2_ := Aside0.mk (Kd.R_elder' (mvR HO407) (Kd.R_base ho298) hb)
                                 have n3_ := Aside0.mk (Kd.R_lower (Kd.R_new' (Kd.R_new' ho298 (Kd.R_lt (mvR HO404))) (Kd.R_lt (mvR HO407))) (below_size (mvB HB)))
                                 have n4_ := Aside0.mk (below_step (mvB HB) hb)
                                 clear HO401
                                 clear HO404
                                 clear HO407
                                 clear HB
                                 have HO401 := n0_
                                 have HO404 := n1_
                                 have HO407 := n2_
                                 have HO413 := n3_
                                 have HB := n4_
                                 clear n0_ n1_ n2_ n3_ n4_
                                 clear hb ho298
                                 refine hK.out _ _ trivial (fun hHeld => ?_)
                                 clear hK K
                                 refine norm_ (a' := ?_) ?_ ?_
                                 rotate_left
                                 ·show Act.put _ (some 170) _ = _
                                  simp only [Act.put, List.setIfInBounds_toArray, List.set_cons_zero, List.set_cons_succ, i64_w, i32_w]
                                  rfl
                                 exact norm_ (by first | (simp only [putAll, Act.put, List.setIfInBounds_toArray, List.set_cons_zero, List.set_cons_succ]; done) | (simp only [putAll, Act.put, List.setIfInBounds_toArray, List.set_cons_zero, List.set_cons_succ]; rfl)) (hJ1 (v412) _ ⟨(mvR HO401), (by (with_reducible repeat (first | apply Kd.R_alloc | apply Kd.R_drewN | apply Kd.R_drew)); exact Kd.R_mono HO404.out (fun _ hk => ⟨hk.1.2, hk.2⟩)), (by (with_reducible repeat (first | apply Kd.R_alloc | apply Kd.R_drewN | apply Kd.R_drew)); exact Kd.R_mono HO407.out (fun _ hk => ⟨hk.1.2, hk.2⟩)), (by (with_reducible repeat (first | apply Kd.R_alloc | apply Kd.R_drewN | apply Kd.R_drew)); exact Kd.R_mono HO413.out (fun _ hk => ⟨hk.1.2, hk.2⟩)), (mvB HB)⟩)
                                ·skip
                                 refine Kd.R_make_step (Kd.int .u8) _ 33 (by rfl) (N := 171) rfl 23 _ _ rfl 65537 rfl rfl Tryd.underlying23 (.int .u8 0) 1 info33 rfl (by decide) (by omega) 0 (ok := fun _ => True) (okp := fun _ => True) rfl (fun _ hk => hk) trivial (by omega) (by omega) (Below.refl _ _) (Nat.le_refl _) ?_
                                 intro v415 w297 ho298 hb hg_ hnew_
                                 clear hg_ hnew_
                                 (first | rw [← Ny414.out] at ho298 | (simp only [Int.reduceToNat] at ho298; rw [← Ny414.out] at ho298))
                                 have n0_ := Aside0.mk (Kd.R_below (mvR HO401) hb)
                                 have n1_ := Aside0.mk (Kd.R_elder' (mvR HO404) (Kd.R_base ho298) hb)
                                 have n2_ := Aside0.mk (Kd.R_elder' (mvR HO407) (Kd.R_base ho298) hb)
                                 have n3_ := Aside0.mk (Kd.R_lower (Kd.R_new' (Kd.R_new' ho298 (Kd.R_lt (mvR HO404))) (Kd.R_lt (mvR HO407))) (below_size (mvB HB)))
                                 have n4_ := Aside0.mk (below_step (mvB HB) hb)
                                 clear HO401
                                 clear HO404
                                 clear HO407
                                 clear HB
                                 have HO401 := n0_
                                 have HO404 := n1_
                                 have HO407 := n2_
                                 have HO416 := n3_
                                 have HB := n4_
                                 clear n0_ n1_ n2_ n3_ n4_
                                 clear hb ho298
                                 refine hK.out _ _ trivial (fun hHeld => ?_)
                                 clear hK K
                                 refine norm_ (a' := ?_) ?_ ?_
                                 rotate_left
                                 ·show Act.put _ (some 171) _ = _
                                  simp only [Act.put, List.setIfInBounds_toArray, List.set_cons_zero, List.set_cons_succ, i64_w, i32_w]
                                  rfl
                                 exact norm_ (by first | (simp only [putAll, Act.put, List.setIfInBounds_toArray, List.set_cons_zero, List.set_cons_succ]; done) | (simp only [putAll, Act.put, List.setIfInBounds_toArray, List.set_cons_zero, List.set_cons_succ]; rfl)) (hJ2 (v415) _ ⟨(mvR HO401), (by (with_reducible repeat (first | apply Kd.R_alloc | apply Kd.R_drewN | apply Kd.R_drew)); exact Kd.R_mono HO404.out (fun _ hk => ⟨hk.1.2, hk.2⟩)), (by (with_reducible repeat (first | apply Kd.R_alloc | apply Kd.R_drewN | apply Kd.R_drew)); exact Kd.R_mono HO407.out (fun _ hk => ⟨hk.1.2, hk.2⟩)), (by (with_reducible repeat (first | apply Kd.R_alloc | apply Kd.R_drewN | apply Kd.R_drew)); exact Kd.R_mono HO416.out (fun _ hk => ⟨hk.1.2, hk.2⟩)), (mvB HB)⟩)
                               ·skip
                                rintro v415 w299 ⟨h0_, h1_, h2_, h3_, h4_⟩
                                have n0_ : Aside0 (Kd.R (Kd.int .i32) 21 w299 w.heap.size (fun _ => True) (.slice Ao292 y399.length co292) y399) := ⟨h0_⟩
                                have n1_ : Aside0 (Kd.R (Kd.int .u8) 33 w299 w.heap.size (fun k_ => some k_ ≠ (v406 : Value).ownBlock ∧ some k_ ≠ (v415 : Value).ownBlock) v403 t402) := ⟨h1_⟩
                                have n2_ : Aside0 (Kd.R (Kd.int .u8) 33 w299 w.heap.size (fun k_ => some k_ ≠ (v403 : Value).ownBlock ∧ some k_ ≠ (v415 : Value).ownBlock) v406 y405) := ⟨h2_⟩
                                have n3_ : Aside0 (Kd.R (Kd.int .u8) 33 w299 w.heap.size (fun k_ => some k_ ≠ (v403 : Value).ownBlock ∧ some k_ ≠ (v406 : Value).ownBlock) v415 y414) := ⟨h3_⟩
                                have n4_ : Aside0 (Below w.heap.size w w299) := ⟨h4_⟩
                                clear HO401
                                clear HO404
                                clear HO407
                                clear HB
                                clear h0_ h1_ h2_ h3_ h4_
                                have HO401 := n0_
                                have HO404 := n1_
                                have HO407 := n2_
                                have HO416 := n3_
                                have HB := n4_
                                clear n0_ n1_ n2_ n3_ n4_
                                have hHeld := trivial
                                refine norm_ (a' := ?_) ?_ ?_
                                rotate_left
                                ·simp only [putAll, Act.put, List.setIfInBounds_toArray, List.set_cons_zero, List.set_cons_succ]
                                 rfl
                                refine two_ (i := 0) (j := 1) (Ni := some 169) (Nj := some 170) #[true, false, true, true, false, false, false, false, false, false] #[false, true, true, true, false, false, false, false, false, false] rfl rfl rfl rfl (two_of HT_.out (by kernel_rfl)) (by decide) (by decide) (fun K hK => ?_) (fun K hK => ?_)
                                ·skip
                                 refine Kd.R_make_step (Kd.int .i32) _ 21 (by rfl) (N := 169) rfl 22 _ _ rfl 65537 rfl rfl Tryd.underlying22 (.int .i32 0) 4 info21 rfl (by decide) (by omega) 0 (ok := fun _ => True) (okp := fun _ => True) rfl (fun _ hk => hk) trivial (by omega) (by omega) (Below.refl _ _) (Nat.le_refl _) ?_
                                 intro v409 w300 ho301 hb hg_ hnew_
                                 clear hg_ hnew_
                                 (first | rw [← Ny408.out] at ho301 | (simp only [Int.reduceToNat] at ho301; rw [← Ny408.out] at ho301))
                                 have n0_ := Aside0.mk (Kd.R_elder' (mvR HO401) (Kd.R_base ho301) hb)
                                 have n1_ := Aside0.mk (Kd.R_below (mvR HO404) hb)
                                 have n2_ := Aside0.mk (Kd.R_below (mvR HO407) hb)
                                 have n3_ := Aside0.mk (Kd.R_below (mvR HO416) hb)
                                 have n4_ := Aside0.mk (Kd.R_lower (Kd.R_new' ho301 (Kd.R_lt (mvR HO401))) (below_size (mvB HB)))
                                 have n5_ := Aside0.mk (below_step (mvB HB) hb)
                                 clear HO401
                                 clear HO404
                                 clear HO407
                                 clear HO416
                                 clear HB
                                 have HO401 := n0_
                                 have HO404 := n1_
                                 have HO407 := n2_
                                 have HO416 := n3_
                                 have HO410 := n4_
                                 have HB := n5_
                                 clear n0_ n1_ n2_ n3_ n4_ n5_
                                 clear hb ho301
                                 refine hK.out _ _ trivial (fun hHeld => ?_)
                                 clear hK K
                                 refine norm_ (a' := ?_) ?_ ?_
                                 rotate_left
                                 ·show Act.put _ (some 169) _ = _
                                  simp only [Act.put, List.setIfInBounds_toArray, List.set_cons_zero, List.set_cons_succ, i64_w, i32_w]
                                  rfl
                                 exact norm_ (by first | (simp only [putAll, Act.put, List.setIfInBounds_toArray, List.set_cons_zero, List.set_cons_succ]; done) | (simp only [putAll, Act.put, List.setIfInBounds_toArray, List.set_cons_zero, List.set_cons_succ]; rfl)) (hJ0_2 (v409, v415) _ ⟨(by (with_reducible repeat (first | apply Kd.R_alloc | apply Kd.R_drewN | apply Kd.R_drew)); exact Kd.R_mono HO401.out (fun _ hk => hk.2)), (mvR HO404), (mvR HO407), (by (with_reducible repeat (first | apply Kd.R_alloc | apply Kd.R_drewN | apply Kd.R_drew)); exact Kd.R_mono HO410.out (fun _ hk => hk.2)), (mvR HO416), (mvB HB)⟩)
                                ·skip
                                 refine Kd.R_make_step (Kd.int .u8) _ 33 (by rfl) (N := 170) rfl 23 _ _ rfl 65537 rfl rfl Tryd.underlying23 (.int .u8 0) 1 info33 rfl (by decide) (by omega) 0 (ok := fun _ => True) (okp := fun _ => True) rfl (fun _ hk => hk) trivial (by omega) (by omega) (Below.refl _ _) (Nat.le_refl _) ?_
                                 intro v412 w300 ho301 hb hg_ hnew_
                                 clear hg_ hnew_
                                 (first | rw [← Ny411.out] at ho301 | (simp only [Int.reduceToNat] at ho301; rw [← Ny411.out] at ho301))
                                 have n0_ := Aside0.mk (Kd.R_below (mvR HO401) hb)
                                 have n1_ := Aside0.mk (Kd.R_elder' (mvR HO404) (Kd.R_base ho301) hb)
                                 have n2_ := Aside0.mk (Kd.R_elder' (mvR HO407) (Kd.R_base ho301) hb)
                                 have n3_ := Aside0.mk (Kd.R_elder' (mvR HO416) (Kd.R_base ho301) hb)
                                 have n4_ := Aside0.mk (Kd.R_lower (Kd.R_new' (Kd.R_new' (Kd.R_new' ho301 (Kd.R_lt (mvR HO404))) (Kd.R_lt (mvR HO407))) (Kd.R_lt (mvR HO416))) (below_size (mvB HB)))
                                 have n5_ := Aside0.mk (below_step (mvB HB) hb)
                                 clear HO401
                                 clear HO404
                                 clear HO407
                                 clear HO416
                                 clear HB
                                 have HO401 := n0_
                                 have HO404 := n1_
                                 have HO407 := n2_
                                 have HO416 := n3_
                                 have HO413 := n4_
                                 have HB := n5_
                                 clear n0_ n1_ n2_ n3_ n4_ n5_
                                 clear hb ho301
                                 refine hK.out _ _ trivial (fun hHeld => ?_)
                                 clear hK K
                                 refine norm_ (a' := ?_) ?_ ?_
                                 rotate_left
                                 ·show Act.put _ (some 170) _ = _
                                  simp only [Act.put, List.setIfInBounds_toArray, List.set_cons_zero, List.set_cons_succ, i64_w, i32_w]
                                  rfl
                                 exact norm_ (by first | (simp only [putAll, Act.put, List.setIfInBounds_toArray, List.set_cons_zero, List.set_cons_succ]; done) | (simp only [putAll, Act.put, List.setIfInBounds_toArray, List.set_cons_zero, List.set_cons_succ]; rfl)) (hJ1_2 (v412, v415) _ ⟨(mvR HO401), (by (with_reducible repeat (first | apply Kd.R_alloc | apply Kd.R_drewN | apply Kd.R_drew)); exact Kd.R_mono HO404.out (fun _ hk => ⟨hk.1.1, ⟨hk.2, hk.1.2⟩⟩)), (by (with_reducible repeat (first | apply Kd.R_alloc | apply Kd.R_drewN | apply Kd.R_drew)); exact Kd.R_mono HO407.out (fun _ hk => ⟨hk.1.1, ⟨hk.2, hk.1.2⟩⟩)), (by (with_reducible repeat (first | apply Kd.R_alloc | apply Kd.R_drewN | apply Kd.R_drew)); exact Kd.R_mono HO413.out (fun _ hk => ⟨hk.1.1.2, ⟨hk.1.2, hk.2⟩⟩)), (by (with_reducible repeat (first | apply Kd.R_alloc | apply Kd.R_drewN | apply Kd.R_drew)); exact Kd.R_mono HO416.out (fun _ hk => ⟨hk.1.1, ⟨hk.1.2, hk.2⟩⟩)), (mvB HB)⟩)
                              ·skip
                               rintro v412 w299 ⟨h0_, h1_, h2_, h3_, h4_⟩
                               have n0_ : Aside0 (Kd.R (Kd.int .i32) 21 w299 w.heap.size (fun _ => True) (.slice Ao292 y399.length co292) y399) := ⟨h0_⟩
                               have n1_ : Aside0 (Kd.R (Kd.int .u8) 33 w299 w.heap.size (fun k_ => some k_ ≠ (v406 : Value).ownBlock ∧ some k_ ≠ (v412 : Value).ownBlock) v403 t402) := ⟨h1_⟩
                               have n2_ : Aside0 (Kd.R (Kd.int .u8) 33 w299 w.heap.size (fun k_ => some k_ ≠ (v403 : Value).ownBlock ∧ some k_ ≠ (v412 : Value).ownBlock) v406 y405) := ⟨h2_⟩
                               have n3_ : Aside0 (Kd.R (Kd.int .u8) 33 w299 w.heap.size (fun k_ => some k_ ≠ (v403 : Value).ownBlock ∧ some k_ ≠ (v406 : Value).ownBlock) v412 y411) := ⟨h3_⟩
                               have n4_ : Aside0 (Below w.heap.size w w299) := ⟨h4_⟩
                               clear HO401
                               clear HO404
                               clear HO407
                               clear HB
                               clear h0_ h1_ h2_ h3_ h4_
                               have HO401 := n0_
                               have HO404 := n1_
                               have HO407 := n2_
                               have HO413 := n3_
                               have HB := n4_
                               clear n0_ n1_ n2_ n3_ n4_
                               have hHeld := trivial
                               refine norm_ (a' := ?_) ?_ ?_
                               rotate_left
                               ·simp only [putAll, Act.put, List.setIfInBounds_toArray, List.set_cons_zero, List.set_cons_succ]
                                rfl
                               refine two_ (i := 0) (j := 2) (Ni := some 169) (Nj := some 171) #[true, true, false, true, false, false, false, false, false, false] #[false, true, true, true, false, false, false, false, false, false] rfl rfl rfl rfl (two_of HT_.out (by kernel_rfl)) (by decide) (by decide) (fun K hK => ?_) (fun K hK => ?_)
                               ·skip
                                refine Kd.R_make_step (Kd.int .i32) _ 21 (by rfl) (N := 169) rfl 22 _ _ rfl 65537 rfl rfl Tryd.underlying22 (.int .i32 0) 4 info21 rfl (by decide) (by omega) 0 (ok := fun _ => True) (okp := fun _ => True) rfl (fun _ hk => hk) trivial (by omega) (by omega) (Below.refl _ _) (Nat.le_refl _) ?_
                                intro v409 w300 ho301 hb hg_ hnew_
                                clear hg_ hnew_
                                (first | rw [← Ny408.out] at ho301 | (simp only [Int.reduceToNat] at ho301; rw [← Ny408.out] at ho301))
                                have n0_ := Aside0.mk (Kd.R_elder' (mvR HO401) (Kd.R_base ho301) hb)
                                have n1_ := Aside0.mk (Kd.R_below (mvR HO404) hb)
                                have n2_ := Aside0.mk (Kd.R_below (mvR HO407) hb)
                                have n3_ := Aside0.mk (Kd.R_below (mvR HO413) hb)
                                have n4_ := Aside0.mk (Kd.R_lower (Kd.R_new' ho301 (Kd.R_lt (mvR HO401))) (below_size (mvB HB)))
                                have n5_ := Aside0.mk (below_step (mvB HB) hb)
                                clear HO401
                                clear HO404
                                clear HO407
                                clear HO413
                                clear HB
                                have HO401 := n0_
                                have HO404 := n1_
                                have HO407 := n2_
                                have HO413 := n3_
                                have HO410 := n4_
                                have HB := n5_
                                clear n0_ n1_ n2_ n3_ n4_ n5_
                                clear hb ho301
                                refine hK.out _ _ trivial (fun hHeld => ?_)
                                clear hK K
                                refine norm_ (a' := ?_) ?_ ?_
                                rotate_left
                                ·show Act.put _ (some 169) _ = _
                                 simp only [Act.put, List.setIfInBounds_toArray, List.set_cons_zero, List.set_cons_succ, i64_w, i32_w]
                                 rfl
                                exact norm_ (by first | (simp only [putAll, Act.put, List.setIfInBounds_toArray, List.set_cons_zero, List.set_cons_succ]; done) | (simp only [putAll, Act.put, List.setIfInBounds_toArray, List.set_cons_zero, List.set_cons_succ]; rfl)) (hJ0_1 (v409, v412) _ ⟨(by (with_reducible repeat (first | apply Kd.R_alloc | apply Kd.R_drewN | apply Kd.R_drew)); exact Kd.R_mono HO401.out (fun _ hk => hk.2)), (mvR HO404), (mvR HO407), (by (with_reducible repeat (first | apply Kd.R_alloc | apply Kd.R_drewN | apply Kd.R_drew)); exact Kd.R_mono HO410.out (fun _ hk => hk.2)), (mvR HO413), (mvB HB)⟩)
                               ·skip
                                refine Kd.R_make_step (Kd.int .u8) _ 33 (by rfl) (N := 171) rfl 23 _ _ rfl 65537 rfl rfl Tryd.underlying23 (.int .u8 0) 1 info33 rfl (by decide) (by omega) 0 (ok := fun _ => True) (okp := fun _ => True) rfl (fun _ hk => hk) trivial (by omega) (by omega) (Below.refl _ _) (Nat.le_refl _) ?_
                                intro v415 w300 ho301 hb hg_ hnew_
                                clear hg_ hnew_
                                (first | rw [← Ny414.out] at ho301 | (simp only [Int.reduceToNat] at ho301; rw [← Ny414.out] at ho301))
                                have n0_ := Aside0.mk (Kd.R_below (mvR HO401) hb)
                                have n1_ := Aside0.mk (Kd.R_elder' (mvR HO404) (Kd.R_base ho301) hb)
                                have n2_ := Aside0.mk (Kd.R_elder' (mvR HO407) (Kd.R_base ho301) hb)
                                have n3_ := Aside0.mk (Kd.R_elder' (mvR HO413) (Kd.R_base ho301) hb)
                                have n4_ := Aside0.mk (Kd.R_lower (Kd.R_new' (Kd.R_new' (Kd.R_new' ho301 (Kd.R_lt (mvR HO404))) (Kd.R_lt (mvR HO407))) (Kd.R_lt (mvR HO413))) (below_size (mvB HB)))
                                have n5_ := Aside0.mk (below_step (mvB HB) hb)
                                clear HO401
                                clear HO404
                                clear HO407
                                clear HO413
                                clear HB
                                have HO401 := n0_
                                have HO404 := n1_
                                have HO407 := n2_
                                have HO413 := n3_
                                have HO416 := n4_
                                have HB := n5_
                                clear n0_ n1_ n2_ n3_ n4_ n5_
                                clear hb ho301
                                refine hK.out _ _ trivial (fun hHeld => ?_)
                                clear hK K
                                refine norm_ (a' := ?_) ?_ ?_
                                rotate_left
                                ·show Act.put _ (some 171) _ = _
                                 simp only [Act.put, List.setIfInBounds_toArray, List.set_cons_zero, List.set_cons_succ, i64_w, i32_w]
                                 rfl
                                exact norm_ (by first | (simp only [putAll, Act.put, List.setIfInBounds_toArray, List.set_cons_zero, List.set_cons_succ]; done) | (simp only [putAll, Act.put, List.setIfInBounds_toArray, List.set_cons_zero, List.set_cons_succ]; rfl)) (hJ1_2 (v412, v415) _ ⟨(mvR HO401), (by (with_reducible repeat (first | apply Kd.R_alloc | apply Kd.R_drewN | apply Kd.R_drew)); exact Kd.R_mono HO404.out (fun _ hk => ⟨hk.1.1, ⟨hk.1.2, hk.2⟩⟩)), (by (with_reducible repeat (first | apply Kd.R_alloc | apply Kd.R_drewN | apply Kd.R_drew)); exact Kd.R_mono HO407.out (fun _ hk => ⟨hk.1.1, ⟨hk.1.2, hk.2⟩⟩)), (by (with_reducible repeat (first | apply Kd.R_alloc | apply Kd.R_drewN | apply Kd.R_drew)); exact Kd.R_mono HO413.out (fun _ hk => ⟨hk.1.1, ⟨hk.1.2, hk.2⟩⟩)), (by (with_reducible repeat (first | apply Kd.R_alloc | apply Kd.R_drewN | apply Kd.R_drew)); exact Kd.R_mono HO416.out (fun _ hk => ⟨hk.1.1.2, ⟨hk.1.2, hk.2⟩⟩)), (mvB HB)⟩)
                             ·skip
                              rintro v409 w299 ⟨h0_, h1_, h2_, h3_, h4_⟩
                              have n0_ : Aside0 (Kd.R (Kd.int .i32) 21 w299 w.heap.size (fun k_ => some k_ ≠ (v409 : Value).ownBlock) (.slice Ao292 y399.length co292) y399) := ⟨h0_⟩
                              have n1_ : Aside0 (Kd.R (Kd.int .u8) 33 w299 w.heap.size (fun k_ => some k_ ≠ (v406 : Value).ownBlock) v403 t402) := ⟨h1_⟩
                              have n2_ : Aside0 (Kd.R (Kd.int .u8) 33 w299 w.heap.size (fun k_ => some k_ ≠ (v403 : Value).ownBlock) v406 y405) := ⟨h2_⟩
                              have n3_ : Aside0 (Kd.R (Kd.int .i32) 21 w299 w.heap.size (fun k_ => some k_ ≠ (.slice Ao292 y399.length co292 : Value).ownBlock) v409 y408) := ⟨h3_⟩
                              have n4_ : Aside0 (Below w.heap.size w w299) := ⟨h4_⟩
                              clear HO401
                              clear HO404
                              clear HO407
                              clear HB
                              clear h0_ h1_ h2_ h3_ h4_
                              have HO401 := n0_
                              have HO404 := n1_
                              have HO407 := n2_
                              have HO410 := n3_
                              have HB := n4_
                              clear n0_ n1_ n2_ n3_ n4_
                              have hHeld := trivial
                              refine norm_ (a' := ?_) ?_ ?_
                              rotate_left
                              ·simp only [putAll, Act.put, List.setIfInBounds_toArray, List.set_cons_zero, List.set_cons_succ]
                               rfl
                              refine two_ (i := 1) (j := 2) (Ni := some 170) (Nj := some 171) #[true, true, false, true, false, false, false, false, false, false] #[true, false, true, true, false, false, false, false, false, false] rfl rfl rfl rfl (two_of HT_.out (by kernel_rfl)) (by decide) (by decide) (fun K hK => ?_) (fun K hK => ?_)
                              ·skip
                               refine Kd.R_make_step (Kd.int .u8) _ 33 (by rfl) (N := 170) rfl 23 _ _ rfl 65537 rfl rfl Tryd.underlying23 (.int .u8 0) 1 info33 rfl (by decide) (by omega) 0 (ok := fun _ => True) (okp := fun _ => True) rfl (fun _ hk => hk) trivial (by omega) (by omega) (Below.refl _ _) (Nat.le_refl _) ?_
                               intro v412 w300 ho301 hb hg_ hnew_
                               clear hg_ hnew_
                               (first | rw [← Ny411.out] at ho301 | (simp only [Int.reduceToNat] at ho301; rw [← Ny411.out] at ho301))
                               have n0_ := Aside0.mk (Kd.R_below (mvR HO401) hb)
                               have n1_ := Aside0.mk (Kd.R_elder' (mvR HO404) (Kd.R_base ho301) hb)
                               have n2_ := Aside0.mk (Kd.R_elder' (mvR HO407) (Kd.R_base ho301) hb)
                               have n3_ := Aside0.mk (Kd.R_below (mvR HO410) hb)
                               have n4_ := Aside0.mk (Kd.R_lower (Kd.R_new' (Kd.R_new' ho301 (Kd.R_lt (mvR HO404))) (Kd.R_lt (mvR HO407))) (below_size (mvB HB)))
                               have n5_ := Aside0.mk (below_step (mvB HB) hb)
                               clear HO401
                               clear HO404
                               clear HO407
                               clear HO410
                               clear HB
                               have HO401 := n0_
                               have HO404 := n1_
                               have HO407 := n2_
                               have HO410 := n3_
                               have HO413 := n4_
                               have HB := n5_
                               clear n0_ n1_ n2_ n3_ n4_ n5_
                               clear hb ho301
                               refine hK.out _ _ trivial (fun hHeld => ?_)
                               clear hK K
                               refine norm_ (a' := ?_) ?_ ?_
                               rotate_left
                               ·show Act.put _ (some 170) _ = _
                                simp only [Act.put, List.setIfInBounds_toArray, List.set_cons_zero, List.set_cons_succ, i64_w, i32_w]
                                rfl
                               exact norm_ (by first | (simp only [putAll, Act.put, List.setIfInBounds_toArray, List.set_cons_zero, List.set_cons_succ]; done) | (simp only [putAll, Act.put, List.setIfInBounds_toArray, List.set_cons_zero, List.set_cons_succ]; rfl)) (hJ0_1 (v409, v412) _ ⟨(mvR HO401), (mvR HO404), (mvR HO407), (mvR HO410), (by (with_reducible repeat (first | apply Kd.R_alloc | apply Kd.R_drewN | apply Kd.R_drew)); exact Kd.R_mono HO413.out (fun _ hk => ⟨hk.1.2, hk.2⟩)), (mvB HB)⟩)
                              ·skip
                               refine Kd.R_make_step (Kd.int .u8) _ 33 (by rfl) (N := 171) rfl 23 _ _ rfl 65537 rfl rfl Tryd.underlying23 (.int .u8 0) 1 info33 rfl (by decide) (by omega) 0 (ok := fun _ => True) (okp := fun _ => True) rfl (fun _ hk => hk) trivial (by omega) (by omega) (Below.refl _ _) (Nat.le_refl _) ?_
                               intro v415 w300 ho301 hb hg_ hnew_
                               clear hg_ hnew_
                               (first | rw [← Ny414.out] at ho301 | (simp only [Int.reduceToNat] at ho301; rw [← Ny414.out] at ho301))
                               have n0_ := Aside0.mk (Kd.R_below (mvR HO401) hb)
                               have n1_ := Aside0.mk (Kd.R_elder' (mvR HO404) (Kd.R_base ho301) hb)
                               have n2_ := Aside0.mk (Kd.R_elder' (mvR HO407) (Kd.R_base ho301) hb)
                               have n3_ := Aside0.mk (Kd.R_below (mvR HO410) hb)
                               have n4_ := Aside0.mk (Kd.R_lower (Kd.R_new' (Kd.R_new' ho301 (Kd.R_lt (mvR HO404))) (Kd.R_lt (mvR HO407))) (below_size (mvB HB)))
                               have n5_ := Aside0.mk (below_step (mvB HB) hb)
                               clear HO401
                               clear HO404
                               clear HO407
                               clear HO410
                               clear HB
                               have HO401 := n0_
                               have HO404 := n1_
                               have HO407 := n2_
                               have HO410 := n3_
                               have HO416 := n4_
                               have HB := n5_
                               clear n0_ n1_ n2_ n3_ n4_ n5_
                               clear hb ho301
                               refine hK.out _ _ trivial (fun hHeld => ?_)
                               clear hK K
                               refine norm_ (a' := ?_) ?_ ?_
                               rotate_left
                               ·show Act.put _ (some 171) _ = _
                                simp only [Act.put, List.setIfInBounds_toArray, List.set_cons_zero, List.set_cons_succ, i64_w, i32_w]
                                rfl
                               exact norm_ (by first | (simp only [putAll, Act.put, List.setIfInBounds_toArray, List.set_cons_zero, List.set_cons_succ]; done) | (simp only [putAll, Act.put, List.setIfInBounds_toArray, List.set_cons_zero, List.set_cons_succ]; rfl)) (hJ0_2 (v409, v415) _ ⟨(mvR HO401), (mvR HO404), (mvR HO407), (mvR HO410), (by (with_reducible repeat (first | apply Kd.R_alloc | apply Kd.R_drewN | apply Kd.R_drew)); exact Kd.R_mono HO416.out (fun _ hk => ⟨hk.1.2, hk.2⟩)), (mvB HB)⟩)
                            ·skip
                             rintro ⟨v412, v415⟩ w301 ⟨h0_, h1_, h2_, h3_, h4_, h5_⟩
                             have n0_ : Aside0 (Kd.R (Kd.int .i32) 21 w301 w.heap.size (fun _ => True) (.slice Ao292 y399.length co292) y399) := ⟨h0_⟩
                             have n1_ : Aside0 (Kd.R (Kd.int .u8) 33 w301 w.heap.size (fun k_ => some k_ ≠ (v406 : Value).ownBlock ∧ some k_ ≠ (v412 : Value).ownBlock ∧ some k_ ≠ (v415 : Value).ownBlock) v403 t402) := ⟨h1_⟩
                             have n2_ : Aside0 (Kd.R (Kd.int .u8) 33 w301 w.heap.size (fun k_ => some k_ ≠ (v403 : Value).ownBlock ∧ some k_ ≠ (v412 : Value).ownBlock ∧ some k_ ≠ (v415 : Value).ownBlock) v406 y405) := ⟨h2_⟩
                             have n3_ : Aside0 (Kd.R (Kd.int .u8) 33 w301 w.heap.size (fun k_ => some k_ ≠ (v403 : Value).ownBlock ∧ some k_ ≠ (v406 : Value).ownBlock ∧ some k_ ≠ (v415 : Value).ownBlock) v412 y411) := ⟨h3_⟩
                             have n4_ : Aside0 (Kd.R (Kd.int .u8) 33 w301 w.heap.size (fun k_ => some k_ ≠ (v403 : Value).ownBlock ∧ some k_ ≠ (v406 : Value).ownBlock ∧ some k_ ≠ (v412 : Value).ownBlock) v415 y414) := ⟨h4_⟩
                             have n5_ : Aside0 (Below w.heap.size w w301) := ⟨h5_⟩
                             clear HO401
                             clear HO404
                             clear HO407
                             clear HB
                             clear h0_ h1_ h2_ h3_ h4_ h5_
                             have HO401 := n0_
                             have HO404 := n1_
                             have HO407 := n2_
                             have HO413 := n3_
                             have HO416 := n4_
                             have HB := n5_
                             clear n0_ n1_ n2_ n3_ n4_ n5_
                             have hHeld := trivial
                             refine norm_ (a' := ?_) ?_ ?_
                             rotate_left
                             ·simp only [putAll, Act.put, List.setIfInBounds_toArray, List.set_cons_zero, List.set_cons_succ]
                              rfl
                             refine one_ (i := 0) (N := some 169) #[true, true, true, true, false, false, false, false, false, false] rfl rfl (one_of HT_.out (by kernel_rfl)) (by decide) (fun K hK => ?_)
                             refine Kd.R_make_step (Kd.int .i32) _ 21 (by rfl) (N := 169) rfl 22 _ _ rfl 65537 rfl rfl Tryd.underlying22 (.int .i32 0) 4 info21 rfl (by decide) (by omega) 0 (ok := fun _ => True) (okp := fun _ => True) rfl (fun _ hk => hk) trivial (by omega) (by omega) (Below.refl _ _) (Nat.le_refl _) ?_
                             intro v409 w302 ho303 hb hg_ hnew_
                             clear hg_ hnew_
                             (first | rw [← Ny408.out] at ho303 | (simp only [Int.reduceToNat] at ho303; rw [← Ny408.out] at ho303))
                             have n0_ := Aside0.mk (Kd.R_elder' (mvR HO401) (Kd.R_base ho303) hb)
                             have n1_ := Aside0.mk (Kd.R_below (mvR HO404) hb)
                             have n2_ := Aside0.mk (Kd.R_below (mvR HO407) hb)
                             have n3_ := Aside0.mk (Kd.R_below (mvR HO413) hb)
                             have n4_ := Aside0.mk (Kd.R_below (mvR HO416) hb)
                             have n5_ := Aside0.mk (Kd.R_lower (Kd.R_new' ho303 (Kd.R_lt (mvR HO401))) (below_size (mvB HB)))
                             have n6_ := Aside0.mk (below_step (mvB HB) hb)
                             clear HO401
                             clear HO404
                             clear HO407
                             clear HO413
                             clear HO416
                             clear HB
                             have HO401 := n0_
                             have HO404 := n1_
                             have HO407 := n2_
                             have HO413 := n3_
                             have HO416 := n4_
                             have HO410 := n5_
                             have HB := n6_
                             clear n0_ n1_ n2_ n3_ n4_ n5_ n6_
                             clear hb ho303
                             refine hK.out _ _ trivial (fun hHeld => ?_)
                             clear hK K
                             refine norm_ (a' := ?_) ?_ ?_
                             rotate_left
                             ·show Act.put _ (some 169) _ = _
                              simp only [Act.put, List.setIfInBounds_toArray, List.set_cons_zero, List.set_cons_succ, i64_w, i32_w]
                              rfl
                             exact norm_ (by first | (simp only [putAll, Act.put, List.setIfInBounds_toArray, List.set_cons_zero, List.set_cons_succ]; done) | (simp only [putAll, Act.put, List.setIfInBounds_toArray, List.set_cons_zero, List.set_cons_succ]; rfl)) (hJ0_1_2 (v409, v412, v415) _ ⟨(by (with_reducible repeat (first | apply Kd.R_alloc | apply Kd.R_drewN | apply Kd.R_drew)); exact Kd.R_mono HO401.out (fun _ hk => hk.2)), (mvR HO404), (mvR HO407), (by (with_reducible repeat (first | apply Kd.R_alloc | apply Kd.R_drewN | apply Kd.R_drew)); exact Kd.R_mono HO410.out (fun _ hk => hk.2)), (mvR HO413), (mvR HO416), (mvB HB)⟩)
                           ·skip
                            rintro ⟨v409, v415⟩ w301 ⟨h0_, h1_, h2_, h3_, h4_, h5_⟩
                            have n0_ : Aside0 (Kd.R (Kd.int .i32) 21 w301 w.heap.size (fun k_ => some k_ ≠ (v409 : Value).ownBlock) (.slice Ao292 y399.length co292) y399) := ⟨h0_⟩
                            have n1_ : Aside0 (Kd.R (Kd.int .u8) 33 w301 w.heap.size (fun k_ => some k_ ≠ (v406 : Value).ownBlock ∧ some k_ ≠ (v415 : Value).ownBlock) v403 t402) := ⟨h1_⟩
                            have n2_ : Aside0 (Kd.R (Kd.int .u8) 33 w301 w.heap.size (fun k_ => some k_ ≠ (v403 : Value).ownBlock ∧ some k_ ≠ (v415 : Value).ownBlock) v406 y405) := ⟨h2_⟩
                            have n3_ : Aside0 (Kd.R (Kd.int .i32) 21 w301 w.heap.size (fun k_ => some k_ ≠ (.slice Ao292 y399.length co292 : Value).ownBlock) v409 y408) := ⟨h3_⟩
                            have n4_ : Aside0 (Kd.R (Kd.int .u8) 33 w301 w.heap.size (fun k_ => some k_ ≠ (v403 : Value).ownBlock ∧ some k_ ≠ (v406 : Value).ownBlock) v415 y414) := ⟨h4_⟩
                            have n5_ : Aside0 (Below w.heap.size w w301) := ⟨h5_⟩
                            clear HO401
                            clear HO404
                            clear HO407
                            clear HB
                            clear h0_ h1_ h2_ h3_ h4_ h5_
                            have HO401 := n0_
                            have HO404 := n1_
                            have HO407 := n2_
                            have HO410 := n3_
                            have HO416 := n4_
                            have HB := n5_
                            clear n0_ n1_ n2_ n3_ n4_ n5_
                            have hHeld := trivial
                            refine norm_ (a' := ?_) ?_ ?_
                            rotate_left
                            ·simp only [putAll, Act.put, List.setIfInBounds_toArray, List.set_cons_zero, List.set_cons_succ]
                             rfl
                            refine one_ (i := 1) (N := some 170) #[true, true, true, true, false, false, false, false, false, false] rfl rfl (one_of HT_.out (by kernel_rfl)) (by decide) (fun K hK => ?_)
                            refine Kd.R_make_step (Kd.int .u8) _ 33 (by rfl) (N := 170) rfl 23 _ _ rfl 65537 rfl rfl Tryd.underlying23 (.int .u8 0) 1 info33 rfl (by decide) (by omega) 0 (ok := fun _ => True) (okp := fun _ => True) rfl (fun _ hk => hk) trivial (by omega) (by omega) (Below.refl _ _) (Nat.le_refl _) ?_
                            intro v412 w302 ho303 hb hg_ hnew_
                            clear hg_ hnew_
                            (first | rw [← Ny411.out] at ho303 | (simp only [Int.reduceToNat] at ho303; rw [← Ny411.out] at ho303))
                            have n0_ := Aside0.mk (Kd.R_below (mvR HO401) hb)
                            have n1_ := Aside0.mk (Kd.R_elder' (mvR HO404) (Kd.R_base ho303) hb)
                            have n2_ := Aside0.mk (Kd.R_elder' (mvR HO407) (Kd.R_base ho303) hb)
                            have n3_ := Aside0.mk (Kd.R_below (mvR HO410) hb)
                            have n4_ := Aside0.mk (Kd.R_elder' (mvR HO416) (Kd.R_base ho303) hb)
                            have n5_ := Aside0.mk (Kd.R_lower (Kd.R_new' (Kd.R_new' (Kd.R_new' ho303 (Kd.R_lt (mvR HO404))) (Kd.R_lt (mvR HO407))) (Kd.R_lt (mvR HO416))) (below_size (mvB HB)))
                            have n6_ := Aside0.mk (below_step (mvB HB) hb)
                            clear HO401
                            clear HO404
                            clear HO407
                            clear HO410
                            clear HO416
                            clear HB
                            have HO401 := n0_
                            have HO404 := n1_
                            have HO407 := n2_
                            have HO410 := n3_
                            have HO416 := n4_
                            have HO413 := n5_
                            have HB := n6_
                            clear n0_ n1_ n2_ n3_ n4_ n5_ n6_
                            clear hb ho303
                            refine hK.out _ _ trivial (fun hHeld => ?_)
                            clear hK K
                            refine norm_ (a' := ?_) ?_ ?_
                            rotate_left
                            ·show Act.put _ (some 170) _ = _
                             simp only [Act.put, List.setIfInBounds_toArray, List.set_cons_zero, List.set_cons_succ, i64_w, i32_w]
                             rfl
                            exact norm_ (by first | (simp only [putAll, Act.put, List.setIfInBounds_toArray, List.set_cons_zero, List.set_cons_succ]; done) | (simp only [putAll, Act.put, List.setIfInBounds_toArray, List.set_cons_zero, List.set_cons_succ]; rfl)) (hJ0_1_2 (v409, v412, v415) _ ⟨(mvR HO401), (by (with_reducible repeat (first | apply Kd.R_alloc | apply Kd.R_drewN | apply Kd.R_drew)); exact Kd.R_mono HO404.out (fun _ hk => ⟨hk.1.1, ⟨hk.2, hk.1.2⟩⟩)), (by (with_reducible repeat (first | apply Kd.R_alloc | apply Kd.R_drewN | apply Kd.R_drew)); exact Kd.R_mono HO407.out (fun _ hk => ⟨hk.1.1, ⟨hk.2, hk.1.2⟩⟩)), (mvR HO410), (by (with_reducible repeat (first | apply Kd.R_alloc | apply Kd.R_drewN | apply Kd.R_drew)); exact Kd.R_mono HO413.out (fun _ hk => ⟨hk.1.1.2, ⟨hk.1.2, hk.2⟩⟩)), (by (with_reducible repeat (first | apply Kd.R_alloc | apply Kd.R_drewN | apply Kd.R_drew)); exact Kd.R_mono HO416.out (fun _ hk => ⟨hk.1.1, ⟨hk.1.2, hk.2⟩⟩)), (mvB HB)⟩)
                          ·skip
                           rintro ⟨v409, v412⟩ w301 ⟨h0_, h1_, h2_, h3_, h4_, h5_⟩
                           have n0_ : Aside0 (Kd.R (Kd.int .i32) 21 w301 w.heap.size (fun k_ => some k_ ≠ (v409 : Value).ownBlock) (.slice Ao292 y399.length co292) y399) := ⟨h0_⟩
                           have n1_ : Aside0 (Kd.R (Kd.int .u8) 33 w301 w.heap.size (fun k_ => some k_ ≠ (v406 : Value).ownBlock ∧ some k_ ≠ (v412 : Value).ownBlock) v403 t402) := ⟨h1_⟩
                           have n2_ : Aside0 (Kd.R (Kd.int .u8) 33 w301 w.heap.size (fun k_ => some k_ ≠ (v403 : Value).ownBlock ∧ some k_ ≠ (v412 : Value).ownBlock) v406 y405) := ⟨h2_⟩
                           have n3_ : Aside0 (Kd.R (Kd.int .i32) 21 w301 w.heap.size (fun k_ => some k_ ≠ (.slice Ao292 y399.length co292 : Value).ownBlock) v409 y408) := ⟨h3_⟩
                           have n4_ : Aside0 (Kd.R (Kd.int .u8) 33 w301 w.heap.size (fun k_ => some k_ ≠ (v403 : Value).ownBlock ∧ some k_ ≠ (v406 : Value).ownBlock) v412 y411) := ⟨h4_⟩
                           have n5_ : Aside0 (Below w.heap.size w w301) := ⟨h5_⟩
                           clear HO401
                           clear HO404
                           clear HO407
                           clear HB
                           clear h0_ h1_ h2_ h3_ h4_ h5_
                           have HO401 := n0_
                           have HO404 := n1_
                           have HO407 := n2_
                           have HO410 := n3_
                           have HO413 := n4_
                           have HB := n5_
                           clear n0_ n1_ n2_ n3_ n4_ n5_
                           have hHeld := trivial
                           refine norm_ (a' := ?_) ?_ ?_
                           rotate_left
                           ·simp only [putAll, Act.put, List.setIfInBounds_toArray, List.set_cons_zero, List.set_cons_succ]
                            rfl
                           refine one_ (i := 2) (N := some 171) #[true, true, true, true, false, false, false, false, false, false] rfl rfl (one_of HT_.out (by kernel_rfl)) (by decide) (fun K hK => ?_)
                           refine Kd.R_make_step (Kd.int .u8) _ 33 (by rfl) (N := 171) rfl 23 _ _ rfl 65537 rfl rfl Tryd.underlying23 (.int .u8 0) 1 info33 rfl (by decide) (by omega) 0 (ok := fun _ => True) (okp := fun _ => True) rfl (fun _ hk => hk) trivial (by omega) (by omega) (Below.refl _ _) (Nat.le_refl _) ?_
                           intro v415 w302 ho303 hb hg_ hnew_
                           clear hg_ hnew_
                           (first | rw [← Ny414.out] at ho303 | (simp only [Int.reduceToNat] at ho303; rw [← Ny414.out] at ho303))
                           have n0_ := Aside0.mk (Kd.R_below (mvR HO401) hb)
                           have n1_ := Aside0.mk (Kd.R_elder' (mvR HO404) (Kd.R_base ho303) hb)
                           have n2_ := Aside0.mk (Kd.R_elder' (mvR HO407) (Kd.R_base ho303) hb)
                           have n3_ := Aside0.mk (Kd.R_below (mvR HO410) hb)
                           have n4_ := Aside0.mk (Kd.R_elder' (mvR HO413) (Kd.R_base ho303) hb)
                           have n5_ := Aside0.mk (Kd.R_lower (Kd.R_new' (Kd.R_new' (Kd.R_new' ho303 (Kd.R_lt (mvR HO404))) (Kd.R_lt (mvR HO407))) (Kd.R_lt (mvR HO413))) (below_size (mvB HB)))
                           have n6_ := Aside0.mk (below_step (mvB HB) hb)
                           clear HO401
                           clear HO404
                           clear HO407
                           clear HO410
                           clear HO413
                           clear HB
                           have HO401 := n0_
                           have HO404 := n1_
                           have HO407 := n2_
                           have HO410 := n3_
                           have HO413 := n4_
                           have HO416 := n5_
                           have HB := n6_
                           clear n0_ n1_ n2_ n3_ n4_ n5_ n6_
                           clear hb ho303
                           refine hK.out _ _ trivial (fun hHeld => ?_)
                           clear hK K
                           refine norm_ (a' := ?_) ?_ ?_
                           rotate_left
                           ·show Act.put _ (some 171) _ = _
                            simp only [Act.put, List.setIfInBounds_toArray, List.set_cons_zero, List.set_cons_succ, i64_w, i32_w]
                            rfl
                           exact norm_ (by first | (simp only [putAll, Act.put, List.setIfInBounds_toArray, List.set_cons_zero, List.set_cons_succ]; done) | (simp only [putAll, Act.put, List.setIfInBounds_toArray, List.set_cons_zero, List.set_cons_succ]; rfl)) (hJ0_1_2 (v409, v412, v415) _ ⟨(mvR HO401), (by (with_reducible repeat (first | apply Kd.R_alloc | apply Kd.R_drewN | apply Kd.R_drew)); exact Kd.R_mono HO404.out (fun _ hk => ⟨hk.1.1, ⟨hk.1.2, hk.2⟩⟩)), (by (with_reducible repeat (first | apply Kd.R_alloc | apply Kd.R_drewN | apply Kd.R_drew)); exact Kd.R_mono HO407.out (fun _ hk => ⟨hk.1.1, ⟨hk.1.2, hk.2⟩⟩)), (mvR HO410), (by (with_reducible repeat (first | apply Kd.R_alloc | apply Kd.R_drewN | apply Kd.R_drew)); exact Kd.R_mono HO413.out (fun _ hk => ⟨hk.1.1, ⟨hk.1.2, hk.2⟩⟩)), (by (with_reducible repeat (first | apply Kd.R_alloc | apply Kd.R_drewN | apply Kd.R_drew)); exact Kd.R_mono HO416.out (fun _ hk => ⟨hk.1.1.2, ⟨hk.1.2, hk.2⟩⟩)), (mvB HB)⟩)
                         rintro ⟨v409, v412, v415⟩ w303 ⟨h0_, h1_, h2_, h3_, h4_, h5_, h6_⟩
                         have n0_ : Aside0 (Kd.R (Kd.int .i32) 21 w303 w.heap.size (fun k_ => some k_ ≠ (v409 : Value).ownBlock) (.slice Ao292 y399.length co292) y399) := ⟨h0_⟩
                         have n1_ : Aside0 (Kd.R (Kd.int .u8) 33 w303 w.heap.size (fun k_ => some k_ ≠ (v406 : Value).ownBlock ∧ some k_ ≠ (v412 : Value).ownBlock ∧ some k_ ≠ (v415 : Value).ownBlock) v403 t402) := ⟨h1_⟩
                         have n2_ : Aside0 (Kd.R (Kd.int .u8) 33 w303 w.heap.size (fun k_ => some k_ ≠ (v403 : Value).ownBlock ∧ some k_ ≠ (v412 : Value).ownBlock ∧ some k_ ≠ (v415 : Value).ownBlock) v406 y405) := ⟨h2_⟩
                         have n3_ : Aside0 (Kd.R (Kd.int .i32) 21 w303 w.heap.size (fun k_ => some k_ ≠ (.slice Ao292 y399.length co292 : Value).ownBlock) v409 y408) := ⟨h3_⟩
                         have n4_ : Aside0 (Kd.R (Kd.int .u8) 33 w303 w.heap.size (fun k_ => some k_ ≠ (v403 : Value).ownBlock ∧ some k_ ≠ (v406 : Value).ownBlock ∧ some k_ ≠ (v415 : Value).ownBlock) v412 y411) := ⟨h4_⟩
                         have n5_ : Aside0 (Kd.R (Kd.int .u8) 33 w303 w.heap.size (fun k_ => some k_ ≠ (v403 : Value).ownBlock ∧ some k_ ≠ (v406 : Value).ownBlock ∧ some k_ ≠ (v412 : Value).ownBlock) v415 y414) := ⟨h5_⟩
                         have n6_ : Aside0 (Below w.heap.size w w303) := ⟨h6_⟩
                         clear HO401
                         clear HO404
                         clear HO407
                         clear HB
                         clear h0_ h1_ h2_ h3_ h4_ h5_ h6_
                         have HO401 := n0_
                         have HO404 := n1_
                         have HO407 := n2_
                         have HO410 := n3_
                         have HO413 := n4_
                         have HO416 := n5_
                         have HB := n6_
                         clear n0_ n1_ n2_ n3_ n4_ n5_ n6_
                         have hHeld := trivial
                         obtain ⟨Ao304, co304, eo304⟩ := Kd.R_slice HO410.out
                         (first | subst eo304 | (injection eo304 with f1_ f2_ f3_; have f4_ := f1_.symm; have f5_ := f3_.symm; clear f1_ f2_ f3_; subst f4_; subst f5_))
                         obtain ⟨Ao305, co305, eo305⟩ := Kd.R_slice HO413.out
                         (first | subst eo305 | (injection eo305 with f1_ f2_ f3_; have f4_ := f1_.symm; have f5_ := f3_.symm; clear f1_ f2_ f3_; subst f4_; subst f5_))
                         obtain ⟨Ao306, co306, eo306⟩ := Kd.R_slice HO416.out
                         (first | subst eo306 | (injection eo306 with f1_ f2_ f3_; have f4_ := f1_.symm; have f5_ := f3_.symm; clear f1_ f2_ f3_; subst f4_; subst f5_))
                         refine norm_ (a' := ?_) ?_ ?_
                         rotate_left
                         ·simp only [putAll, Act.put, List.setIfInBounds_toArray, List.set_cons_zero, List.set_cons_succ]
                          rfl
                         refine one_ (i := 4) (N := some 173) #[true, true, true, true, true, false, false, false, false, false] rfl rfl (one_of HT_.out (by kernel_rfl)) (by decide) (fun K hK => ?_)
                         refine goes_ Tryd.func11 (by kernel_rfl) rfl #[.slice Ao304 y408.length co304, .slice Ao305 y411.length co305, .slice Ao306 y414.length co306, .int .u8 0, .int .u8 1] (by rfl) rfl rfl (by (try simp only [List.map_toArray, List.map_cons, List.map_nil]); first | done | rfl | (simp only [List.length_drop, List.length_take]; rfl)) ?_
                         with_reducible refine (pairs_Resolve.calls _ _ y408 _ _ y411 _ _ y414 0 1 t417 t418 _ ?side1 ?side2 ?side3 ?side4 ?side5 ?side6 A273.out (by exact HT.out.below (mvB HB))).mono ?_
                         (case side1 => repeat (first | exact (Kd.R_reads' HO410.out).2.2 | (with_reducible refine Kd.C_alloc ?_ _) | (with_reducible refine Kd.C_drewN ?_ _) | (with_reducible refine Kd.C_drew ?_)))
                         (case side2 => exact (Kd.R_reads' HO410.out).2.1)
                         (case side3 => repeat (first | exact (Kd.R_reads' HO413.out).2.2 | (with_reducible refine Kd.C_alloc ?_ _) | (with_reducible refine Kd.C_drewN ?_ _) | (with_reducible refine Kd.C_drew ?_)))
                         (case side4 => exact (Kd.R_reads' HO413.out).2.1)
                         (case side5 => repeat (first | exact (Kd.R_reads' HO416.out).2.2 | (with_reducible refine Kd.C_alloc ?_ _) | (with_reducible refine Kd.C_drewN ?_ _) | (with_reducible refine Kd.C_drew ?_)))
                         (case side6 => exact (Kd.R_reads' HO416.out).2.1)
                         rintro e w307 ⟨v419, rfl, ho0, hb⟩
                         refine ⟨_, rfl, ?_⟩
                         have n0_ := Aside0.mk (Kd.R_below (mvR HO401) hb)
                         have n1_ := Aside0.mk (Kd.R_elder' (mvR HO404) (Kd.R_base ho0) hb)
                         have n2_ := Aside0.mk (Kd.R_elder' (mvR HO407) (Kd.R_base ho0) hb)
                         have n3_ := Aside0.mk (Kd.R_below (mvR HO410) hb)
                         have n4_ := Aside0.mk (Kd.R_elder' (mvR HO413) (Kd.R_base ho0) hb)
                         have n5_ := Aside0.mk (Kd.R_elder' (mvR HO416) (Kd.R_base ho0) hb)
                         have n6_ := Aside0.mk (Kd.R_lower (Kd.R_new' (Kd.R_new' (Kd.R_new' (Kd.R_new' ho0 (Kd.R_lt (mvR HO404))) (Kd.R_lt (mvR HO407))) (Kd.R_lt (mvR HO413))) (Kd.R_lt (mvR HO416))) (below_size (mvB HB)))
                         have n7_ := Aside0.mk (below_step (mvB HB) hb)
                         clear HO401
                         clear HO404
                         clear HO407
                         clear HO410
                         clear HO413
                         clear HO416
                         clear HB
                         have HO401 := n0_
                         have HO404 := n1_
                         have HO407 := n2_
                         have HO410 := n3_
                         have HO413 := n4_
                         have HO416 := n5_
                         have HO420 := n6_
                         have HB := n7_
                         clear n0_ n1_ n2_ n3_ n4_ n5_ n6_ n7_
                         (try clear hb)
                         (try clear hb2)
                         (try clear hk)
                         (try clear hi)
                         (try clear ho0)
                         refine hK.out _ _ trivial (fun hHeld => ?_)
                         clear hK K
                         refine norm_ (a' := ?_) ?_ ?_
                         rotate_left
                         ·show Act.put _ (some 173) _ = _
                          simp only [Act.put, List.setIfInBounds_toArray, List.set_cons_zero, List.set_cons_succ, i64_w, i32_w]
                          rfl
                         refine pure_ (i := 5) (N := some 168) (v := ?_) (a' := ?_) #[true, true, true, true, true, true, false, false, false, false] rfl rfl (any_of HT_.out (by kernel_rfl)) (fun _ _ _ h => h) (Or.inl ⟨by rfl, ?_⟩) ?_ ?_
                         rotate_left
                         ·intro w'
                          go_simp
                          with_reducible rfl
                         rotate_left
                         ·simp only [Act.put, List.setIfInBounds_toArray, List.set_cons_zero, List.set_cons_succ, i64_w, i32_w]
                          rfl
                         refine pure_ (i := 6) (N := some 174) (v := ?_) (a' := ?_) #[true, true, true, true, true, true, true, false, false, false] rfl rfl (any_of HT_.out (by kernel_rfl)) (fun _ _ _ h => h) (Or.inl ⟨by rfl, ?_⟩) ?_ ?_
                         rotate_left
                         ·intro w'
                          go_simp
                          with_reducible rfl
                         rotate_left
                         ·simp only [Act.put, List.setIfInBounds_toArray, List.set_cons_zero, List.set_cons_succ, i64_w, i32_w]
                          rfl
                         refine pure_ (i := 7) (N := some 175) (v := ?_) (a' := ?_) #[true, true, true, true, true, true, true, true, false, false] rfl rfl (any_of HT_.out (by kernel_rfl)) (fun _ _ _ h => h) (Or.inl ⟨by rfl, ?_⟩) ?_ ?_
                         rotate_left
                         ·intro w'
                          go_simp
                          with_reducible rfl
                         rotate_left
                         ·simp only [Act.put, List.setIfInBounds_toArray, List.set_cons_zero, List.set_cons_succ, i64_w, i32_w]
                          rfl
                         refine pure_ (i := 8) (N := some 14) (v := ?_) (a' := ?_) #[true, true, true, true, true, true, true, true, true, false] rfl rfl (any_of HT_.out (by kernel_rfl)) (fun _ _ _ h => h) (Or.inl ⟨by rfl, ?_⟩) ?_ ?_
                         rotate_left
                         ·intro w'
                          go_simp
                          with_reducible rfl
                         rotate_left
                         ·simp only [Act.put, List.setIfInBounds_toArray, List.set_cons_zero, List.set_cons_succ, i64_w, i32_w]
                          rfl
                         refine pure_ (i := 9) (N := some 15) (v := ?_) (a' := ?_) #[true, true, true, true, true, true, true, true, true, true] rfl rfl (any_of HT_.out (by kernel_rfl)) (fun _ _ _ h => h) (Or.inl ⟨by rfl, ?_⟩) ?_ ?_
                         rotate_left
                         ·intro w'
                          go_simp
                          with_reducible rfl
                         rotate_left
                         ·simp only [Act.put, List.setIfInBounds_toArray, List.set_cons_zero, List.set_cons_succ, i64_w, i32_w]
                          rfl
                         refine done_ (done_of HT_.out (by kernel_rfl)) ?_
                         obtain ⟨Ao309, co309, eo309⟩ := Kd.R_slice HO404.out
                         subst eo309
                         have q308 : (1 : Int) ≤ ((t402.length : Int) : Int) := of_decide_eq_true (by first | (with_reducible assumption) | assumption)
                         obtain ⟨i0308, hi0308, _, hsz308, _⟩ := info_parts info33
                         have hroom308 : t402.length ≤ co309 := (Kd.R_reads' HO404.out).2.1
                         have hC308 : Kd.C (Kd.int .u8) _ Ao309 t402.length t402 := (Kd.R_reads' HO404.out).2.2
                         have hcut308 := cut_from (P := Tryd.prog) 23 33 .i64 Tryd.underlying23 hi0308 1 hsz308 Ao309 t402.length co309 1 (by omega) q308
                         have hr308 := Kd.C_drop (m := (1 : Int).toNat) (c := co309) hC308 (by omega) hroom308
                         obtain ⟨A308, hA308⟩ : ∃ A1, A1 = (if co309 = (1 : Int).toNat then Ao309 else (Ao309 : Option Addr).map (·.add ((1 : Int).toNat * 1))) := ⟨_, rfl⟩
                         obtain ⟨c308, hc308⟩ : ∃ c1, c1 = co309 - (1 : Int).toNat := ⟨_, rfl⟩
                         have hy308 : y421.length = t402.length - (1 : Int).toNat := (by rw [Ny421.out, List.length_drop] <;> omega)
                         rw [show (t402).drop (1 : Int).toNat = y421 from Ny421.out.symm] at hr308
                         replace hr308 : Kd.C (Kd.int .u8) _ A308 y421.length y421 := (by rw [hA308]; exact hr308)
                         rw [← hy308, ← hA308, ← hc308] at hcut308
                         have HR424 := Aside0.mk hr308
                         have HC424 := Aside0.mk (show y421.length ≤ c308 from by rw [hy308, hc308]; exact Nat.sub_le_sub_right hroom308 _)
                         clear hr308 hC308 hroom308 hi0308 hsz308 hc308
                         have KY308 := Aside0.mk hy308
                         have KA308 := Aside0.mk hA308
                         clear hy308 hA308
                         have KL308 := Aside0.mk (show 1 ≤ t402.length from by omega)
                         replace q308 := eq_true q308
                         try go_wp2_with (first | ((with_reducible refine gate_callee (f := 11) rfl ?_); refine goesL_ (some 182) rfl rfl Tryd.func11 (by kernel_rfl) rfl #[.slice Ao292 y399.length co292, .slice A308 y421.length c308, .slice Ao309 t402.length co309, .int .u8 0, .int .u8 1] rfl (by (try simp only [List.map_toArray, List.map_cons, List.map_nil]); first | done | rfl | (simp only [List.length_drop, List.length_take]; rfl)) ?_; (with_reducible refine (pairs_Resolve.calls _ _ y399 _ _ y421 _ _ t402 0 1 t425 t426 _ ?side1 ?side2 ?side3 ?side4 ?side5 ?side6 A275.out (by exact HT.out.below (mvB HB))).mono ?_); (case side1 => repeat (first | exact (Kd.R_reads' HO401.out).2.2 | (with_reducible refine Kd.C_alloc ?_ _) | (with_reducible refine Kd.C_drewN ?_ _) | (with_reducible refine Kd.C_drew ?_))); (case side2 => exact (Kd.R_reads' HO401.out).2.1); (case side3 => repeat (first | exact (by repeat (first | (with_reducible exact HR424.out) | (with_reducible refine Kd.C_alloc ?_ _) | (with_reducible refine Kd.C_drewN ?_ _) | (with_reducible refine Kd.C_drew ?_) | exact HR424.out)) | (with_reducible refine Kd.C_alloc ?_ _) | (with_reducible refine Kd.C_drewN ?_ _) | (with_reducible refine Kd.C_drew ?_))); (case side4 => exact HC424.out); (case side5 => repeat (first | exact (Kd.R_reads' HO404.out).2.2 | (with_reducible refine Kd.C_alloc ?_ _) | (with_reducible refine Kd.C_drewN ?_ _) | (with_reducible refine Kd.C_drew ?_))); (case side6 => exact (Kd.R_reads' HO404.out).2.1); rintro e w310 ⟨v427, rfl, ho0, hb⟩; refine ⟨_, rfl, ?_⟩; have n0_ := Aside0.mk (Kd.R_below (mvR HO401) hb); have n1_ := Aside0.mk (Kd.R_elder' (mvR HO404) (Kd.R_base ho0) hb); have n2_ := Aside0.mk (Kd.R_elder' (mvR HO407) (Kd.R_base ho0) hb); have n3_ := Aside0.mk (Kd.R_below (mvR HO410) hb); have n4_ := Aside0.mk (Kd.R_elder' (mvR HO413) (Kd.R_base ho0) hb); have n5_ := Aside0.mk (Kd.R_elder' (mvR HO416) (Kd.R_base ho0) hb); have n6_ := Aside0.mk (Kd.R_elder' (mvR HO420) (Kd.R_base ho0) hb); have n7_ := Aside0.mk (Kd.R_lower (Kd.R_new' (Kd.R_new' (Kd.R_new' (Kd.R_new' (Kd.R_new' ho0 (Kd.R_lt (mvR HO404))) (Kd.R_lt (mvR HO407))) (Kd.R_lt (mvR HO413))) (Kd.R_lt (mvR HO416))) (Kd.R_lt (mvR HO420))) (below_size (mvB HB))); have n8_ := Aside0.mk (Kd.C_below (by repeat (first | (with_reducible exact HR424.out) | (with_reducible refine Kd.C_alloc ?_ _) | (with_reducible refine Kd.C_drewN ?_ _) | (with_reducible refine Kd.C_drew ?_) | exact HR424.out)) hb); have n9_ := Aside0.mk (below_step (mvB HB) hb); clear HO401; clear HO404; clear HO407; clear HO410; clear HO413; clear HO416; clear HO420; clear HR424; clear HB; have HO401 := n0_; have HO404 := n1_; have HO407 := n2_; have HO410 := n3_; have HO413 := n4_; have HO416 := n5_; have HO420 := n6_; have HO428 := n7_; have HR424 := n8_; have HB := n9_; clear n0_ n1_ n2_ n3_ n4_ n5_ n6_ n7_ n8_ n9_; (try clear hb); (try clear hb2); (try clear hk); (try clear hi); (try clear ho0)) | ((with_reducible refine gate_callee (f := 11) rfl ?_); refine goesL_ (some 189) rfl rfl Tryd.func11 (by kernel_rfl) rfl #[.slice Ao292 y399.length co292, .slice Ao309 t402.length co309, .slice none 0 0, .int .u8 0, .int .u8 1] rfl (by (try simp only [List.map_toArray, List.map_cons, List.map_nil]); first | done | rfl | (simp only [List.length_drop, List.length_take]; rfl)) ?_; (refine (pairs_Resolve.calls _ _ y399 _ _ t402 _ _ ([] : List Int) 0 1 t429 t430 _ ?side1 ?side2 ?side3 ?side4 ?side5 ?side6 A276.out (by exact HT.out.below (mvB HB))).mono ?_); (case side1 => repeat (first | exact (Kd.R_reads' HO401.out).2.2 | (with_reducible refine Kd.C_alloc ?_ _) | (with_reducible refine Kd.C_drewN ?_ _) | (with_reducible refine Kd.C_drew ?_))); (case side2 => exact (Kd.R_reads' HO401.out).2.1); (case side3 => repeat (first | exact (Kd.R_reads' HO404.out).2.2 | (with_reducible refine Kd.C_alloc ?_ _) | (with_reducible refine Kd.C_drewN ?_ _) | (with_reducible refine Kd.C_drew ?_))); (case side4 => exact (Kd.R_reads' HO404.out).2.1); (case side5 => exact Kd.C_nil _ _); (case side6 => exact Nat.le_refl _); rintro e w311 ⟨v431, rfl, ho0, hb⟩; refine ⟨_, rfl, ?_⟩; have n0_ := Aside0.mk (Kd.R_below (mvR HO401) hb); have n1_ := Aside0.mk (Kd.R_elder' (mvR HO404) (Kd.R_base ho0) hb); have n2_ := Aside0.mk (Kd.R_elder' (mvR HO407) (Kd.R_base ho0) hb); have n3_ := Aside0.mk (Kd.R_below (mvR HO410) hb); have n4_ := Aside0.mk (Kd.R_elder' (mvR HO413) (Kd.R_base ho0) hb); have n5_ := Aside0.mk (Kd.R_elder' (mvR HO416) (Kd.R_base ho0) hb); have n6_ := Aside0.mk (Kd.R_elder' (mvR HO420) (Kd.R_base ho0) hb); have n7_ := Aside0.mk (Kd.R_elder' (mvR HO428) (Kd.R_base ho0) hb); have n8_ := Aside0.mk (Kd.R_lower (Kd.R_new' (Kd.R_new' (Kd.R_new' (Kd.R_new' (Kd.R_new' (Kd.R_new' ho0 (Kd.R_lt (mvR HO404))) (Kd.R_lt (mvR HO407))) (Kd.R_lt (mvR HO413))) (Kd.R_lt (mvR HO416))) (Kd.R_lt (mvR HO420))) (Kd.R_lt (mvR HO428))) (below_size (mvB HB))); have n9_ := Aside0.mk (Kd.C_below (by repeat (first | (with_reducible exact HR424.out) | (with_reducible refine Kd.C_alloc ?_ _) | (with_reducible refine Kd.C_drewN ?_ _) | (with_reducible refine Kd.C_drew ?_) | exact HR424.out)) hb); have n10_ := Aside0.mk (below_step (mvB HB) hb); clear HO401; clear HO404; clear HO407; clear HO410; clear HO413; clear HO416; clear HO420; clear HO428; clear HR424; clear HB; have HO401 := n0_; have HO404 := n1_; have HO407 := n2_; have HO410 := n3_; have HO413 := n4_; have HO416 := n5_; have HO420 := n6_; have HO428 := n7_; have HO432 := n8_; have HR424 := n9_; have HB := n10_; clear n0_ n1_ n2_ n3_ n4_ n5_ n6_ n7_ n8_ n9_ n10_; (try clear hb); (try clear hb2); (try clear hk); (try clear hi); (try clear ho0); obtain ⟨Ao312, co312, eo312⟩ := Kd.R_slice HO407.out; subst eo312) | ((with_reducible refine gate_callee (f := 4) rfl ?_); refine goesL_ (some 196) rfl rfl Tryd.func4 (by kernel_rfl) rfl #[.slice Ao292 y399.length co292, .slice Ao312 y405.length co312, .slice Ao309 t402.length co309, .int .u8 0, .int .u8 1] rfl (by (try simp only [List.map_toArray, List.map_cons, List.map_nil]); first | done | rfl | (simp only [List.length_drop, List.length_take]; rfl)) ?_; (with_reducible refine (selvedgelaw17_PairsResolve.calls kj215 _ _ y399 _ _ y405 _ _ t402 0 1 true _ ?side1 ?side2 ?side3 ?side4 ?side5 ?side6 A277.out (by exact HT.out.below (mvB HB))).mono ?_); (case side1 => repeat (first | exact (Kd.R_reads' HO401.out).2.2 | (with_reducible refine Kd.C_alloc ?_ _) | (with_reducible refine Kd.C_drewN ?_ _) | (with_reducible refine Kd.C_drew ?_))); (case side2 => exact (Kd.R_reads' HO401.out).2.1); (case side3 => repeat (first | exact (Kd.R_reads' HO407.out).2.2 | (with_reducible refine Kd.C_alloc ?_ _) | (with_reducible refine Kd.C_drewN ?_ _) | (with_reducible refine Kd.C_drew ?_))); (case side4 => exact (Kd.R_reads' HO407.out).2.1); (case side5 => repeat (first | exact (Kd.R_reads' HO404.out).2.2 | (with_reducible refine Kd.C_alloc ?_ _) | (with_reducible refine Kd.C_drewN ?_ _) | (with_reducible refine Kd.C_drew ?_))); (case side6 => exact (Kd.R_reads' HO404.out).2.1); rintro e w313 ⟨rfl, hb⟩; refine ⟨_, rfl, ?_⟩; have n0_ := Aside0.mk (Kd.R_below (mvR HO401) hb); have n1_ := Aside0.mk (Kd.R_below (mvR HO404) hb); have n2_ := Aside0.mk (Kd.R_below (mvR HO407) hb); have n3_ := Aside0.mk (Kd.R_below (mvR HO410) hb); have n4_ := Aside0.mk (Kd.R_below (mvR HO413) hb); have n5_ := Aside0.mk (Kd.R_below (mvR HO416) hb); have n6_ := Aside0.mk (Kd.R_below (mvR HO420) hb); have n7_ := Aside0.mk (Kd.R_below (mvR HO428) hb); have n8_ := Aside0.mk (Kd.R_below (mvR HO432) hb); have n9_ := Aside0.mk (Kd.C_below (by repeat (first | (with_reducible exact HR424.out) | (with_reducible refine Kd.C_alloc ?_ _) | (with_reducible refine Kd.C_drewN ?_ _) | (with_reducible refine Kd.C_drew ?_) | exact HR424.out)) hb); have n10_ := Aside0.mk (below_step (mvB HB) hb); clear HO401; clear HO404; clear HO407; clear HO410; clear HO413; clear HO416; clear HO420; clear HO428; clear HO432; clear HR424; clear HB; have HO401 := n0_; have HO404 := n1_; have HO407 := n2_; have HO410 := n3_; have HO413 := n4_; have HO416 := n5_; have HO420 := n6_; have HO428 := n7_; have HO432 := n8_; have HR424 := n9_; have HB := n10_; clear n0_ n1_ n2_ n3_ n4_ n5_ n6_ n7_ n8_ n9_ n10_; (try clear hb); (try clear hb2); (try clear hk); (try clear hi)) | (go_at_call 4; (with_reducible refine (selvedgelaw17_PairsResolve.calls kj215 _ _ y399 _ _ y405 _ _ y405 1 1 true _ ?side1 ?side2 ?side3 ?side4 ?side5 ?side6 A279.out (by exact HT.out.below (mvB HB))).mono ?_); (case side1 => repeat (first | exact (Kd.R_reads' HO401.out).2.2 | (with_reducible refine Kd.C_alloc ?_ _) | (with_reducible refine Kd.C_drewN ?_ _) | (with_reducible refine Kd.C_drew ?_))); (case side2 => exact (Kd.R_reads' HO401.out).2.1); (case side3 => repeat (first | exact (Kd.R_reads' HO407.out).2.2 | (with_reducible refine Kd.C_alloc ?_ _) | (with_reducible refine Kd.C_drewN ?_ _) | (with_reducible refine Kd.C_drew ?_))); (case side4 => exact (Kd.R_reads' HO407.out).2.1); (case side5 => repeat (first | exact (Kd.R_reads' HO407.out).2.2 | (with_reducible refine Kd.C_alloc ?_ _) | (with_reducible refine Kd.C_drewN ?_ _) | (with_reducible refine Kd.C_drew ?_))); (case side6 => exact (Kd.R_reads' HO407.out).2.1); rintro e w314 ⟨rfl, hb⟩; have n0_ := Aside0.mk (Kd.R_below (mvR HO401) hb); have n1_ := Aside0.mk (Kd.R_below (mvR HO404) hb); have n2_ := Aside0.mk (Kd.R_below (mvR HO407) hb); have n3_ := Aside0.mk (Kd.R_below (mvR HO410) hb); have n4_ := Aside0.mk (Kd.R_below (mvR HO413) hb); have n5_ := Aside0.mk (Kd.R_below (mvR HO416) hb); have n6_ := Aside0.mk (Kd.R_below (mvR HO420) hb); have n7_ := Aside0.mk (Kd.R_below (mvR HO428) hb); have n8_ := Aside0.mk (Kd.R_below (mvR HO432) hb); have n9_ := Aside0.mk (Kd.C_below (by repeat (first | (with_reducible exact HR424.out) | (with_reducible refine Kd.C_alloc ?_ _) | (with_reducible refine Kd.C_drewN ?_ _) | (with_reducible refine Kd.C_drew ?_) | exact HR424.out)) hb); have n10_ := Aside0.mk (below_step (mvB HB) hb); clear HO401; clear HO404; clear HO407; clear HO410; clear HO413; clear HO416; clear HO420; clear HO428; clear HO432; clear HR424; clear HB; have HO401 := n0_; have HO404 := n1_; have HO407 := n2_; have HO410 := n3_; have HO413 := n4_; have HO416 := n5_; have HO420 := n6_; have HO428 := n7_; have HO432 := n8_; have HR424 := n9_; have HB := n10_; clear n0_ n1_ n2_ n3_ n4_ n5_ n6_ n7_ n8_ n9_ n10_; (try clear hb); (try clear hb2); (try clear hk); (try clear hi)) | (go_at_call 5; (with_reducible refine (selvedgelaw17_PairsNest.calls kj215 _ _ y399 _ _ y405 _ _ t402 0 2 true _ ?side1 ?side2 ?side3 ?side4 ?side5 ?side6 A281.out (by exact HT.out.below (mvB HB))).mono ?_); (case side1 => repeat (first | exact (Kd.R_reads' HO401.out).2.2 | (with_reducible refine Kd.C_alloc ?_ _) | (with_reducible refine Kd.C_drewN ?_ _) | (with_reducible refine Kd.C_drew ?_))); (case side2 => exact (Kd.R_reads' HO401.out).2.1); (case side3 => repeat (first | exact (Kd.R_reads' HO407.out).2.2 | (with_reducible refine Kd.C_alloc ?_ _) | (with_reducible refine Kd.C_drewN ?_ _) | (with_reducible refine Kd.C_drew ?_))); (case side4 => exact (Kd.R_reads' HO407.out).2.1); (case side5 => repeat (first | exact (Kd.R_reads' HO404.out).2.2 | (with_reducible refine Kd.C_alloc ?_ _) | (with_reducible refine Kd.C_drewN ?_ _) | (with_reducible refine Kd.C_drew ?_))); (case side6 => exact (Kd.R_reads' HO404.out).2.1); rintro e w315 ⟨rfl, hb⟩; have n0_ := Aside0.mk (Kd.R_below (mvR HO401) hb); have n1_ := Aside0.mk (Kd.R_below (mvR HO404) hb); have n2_ := Aside0.mk (Kd.R_below (mvR HO407) hb); have n3_ := Aside0.mk (Kd.R_below (mvR HO410) hb); have n4_ := Aside0.mk (Kd.R_below (mvR HO413) hb); have n5_ := Aside0.mk (Kd.R_below (mvR HO416) hb); have n6_ := Aside0.mk (Kd.R_below (mvR HO420) hb); have n7_ := Aside0.mk (Kd.R_below (mvR HO428) hb); have n8_ := Aside0.mk (Kd.R_below (mvR HO432) hb); have n9_ := Aside0.mk (Kd.C_below (by repeat (first | (with_reducible exact HR424.out) | (with_reducible refine Kd.C_alloc ?_ _) | (with_reducible refine Kd.C_drewN ?_ _) | (with_reducible refine Kd.C_drew ?_) | exact HR424.out)) hb); have n10_ := Aside0.mk (below_step (mvB HB) hb); clear HO401; clear HO404; clear HO407; clear HO410; clear HO413; clear HO416; clear HO420; clear HO428; clear HO432; clear HR424; clear HB; have HO401 := n0_; have HO404 := n1_; have HO407 := n2_; have HO410 := n3_; have HO413 := n4_; have HO416 := n5_; have HO420 := n6_; have HO428 := n7_; have HO432 := n8_; have HR424 := n9_; have HB := n10_; clear n0_ n1_ n2_ n3_ n4_ n5_ n6_ n7_ n8_ n9_ n10_; (try clear hb); (try clear hb2); (try clear hk); (try clear hi)) | (go_at_call 8; (with_reducible refine (selvedgelaw17_works.calls kj215  t436 _ A289.out (by exact HT.out.below (mvB HB))).mono ?_); rintro e w316 ⟨rfl, hb⟩; have n0_ := Aside0.mk (Kd.R_below (mvR HO401) hb); have n1_ := Aside0.mk (Kd.R_below (mvR HO404) hb); have n2_ := Aside0.mk (Kd.R_below (mvR HO407) hb); have n3_ := Aside0.mk (Kd.R_below (mvR HO410) hb); have n4_ := Aside0.mk (Kd.R_below (mvR HO413) hb); have n5_ := Aside0.mk (Kd.R_below (mvR HO416) hb); have n6_ := Aside0.mk (Kd.R_below (mvR HO420) hb); have n7_ := Aside0.mk (Kd.R_below (mvR HO428) hb); have n8_ := Aside0.mk (Kd.R_below (mvR HO432) hb); have n9_ := Aside0.mk (Kd.C_below (by repeat (first | (with_reducible exact HR424.out) | (with_reducible refine Kd.C_alloc ?_ _) | (with_reducible refine Kd.C_drewN ?_ _) | (with_reducible refine Kd.C_drew ?_) | exact HR424.out)) hb); have n10_ := Aside0.mk (below_step (mvB HB) hb); clear HO401; clear HO404; clear HO407; clear HO410; clear HO413; clear HO416; clear HO420; clear HO428; clear HO432; clear HR424; clear HB; have HO401 := n0_; have HO404 := n1_; have HO407 := n2_; have HO410 := n3_; have HO413 := n4_; have HO416 := n5_; have HO420 := n6_; have HO428 := n7_; have HO432 := n8_; have HR424 := n9_; have HB := n10_; clear n0_ n1_ n2_ n3_ n4_ n5_ n6_ n7_ n8_ n9_ n10_; (try clear hb); (try clear hb2); (try clear hk); (try clear hi)))
                         go_ret
                         exact ⟨by first | rfl | (simp [errW_none, errW_some] <;> rfl) | (simp [*, errW_none, errW_some] <;> rfl), mvB HB⟩
                        ·rw [if_neg c288] at H
                         exact absurd H (by simp)
                       ·rw [if_neg c287] at H
                        exact absurd H (by simp)
                      ·rw [if_neg c286] at H
                       exact absurd H (by simp)
                     ·rw [if_neg c285] at H
                      exact absurd H (by simp)
                    ·rw [if_neg c284] at H
                     exact absurd H (by simp)
                   ·rw [if_neg c283] at H
                    exact absurd H (by simp)
                  ·rw [if_neg c282] at H
                   exact absurd H (by simp)
                 ·rw [if_neg c280] at H
                  exact absurd H (by simp)
                ·rw [if_neg c278] at H
                 exact absurd H (by simp)
               ·rw [if_neg c274] at H
                exact absurd H (by simp)
              ·rw [if_neg c272] at H
               exact absurd H (by simp)
             ·rw [if_neg c271] at H
              exact absurd H (by simp)
/-- THE ONE PURE STATEMENT of selvedgelaw17_PairsKnown: yours. -/
def selvedgelaw17_PairsKnown.Pure : Prop := ∃ k, selvedgelaw17_PairsKnown.f k  = some true
theorem selvedgelaw17_PairsKnown.walk (P : selvedgelaw17_PairsKnown.Pure)  (w : World)  (hT : Tabs w) :
  Calls Tryd.prog 7 #[] w fun e w' => e = .returned (.bool true) ∧ Below w.heap.size w w' := by
 obtain ⟨k, h⟩ := P  
 refine (selvedgelaw17_PairsKnown.calls k  true w h hT).mono ?_
 rintro e w' ⟨rfl, hd⟩
 exact ⟨rfl, hd⟩

end Go.Proofs.YtiogpnefnapfeaaDoor.X
