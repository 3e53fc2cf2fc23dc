-- by xprint.py: the kit's printer over texts of this session
import Derived.Test.YtdkbkecnhebanaaX0
import Derived.Test.YtdkbkecnhebanaaX1
import Derived.Test.YtdkbkecnhebanaaX5
import Derived.Test.YtdkbkecnhebanaaT21
namespace Go.Proofs.Ytdkbkecnhebanaa.X
open Go.RowKit Go.Proofs.YtdkbkecnhebanaaW.PrintWords Go.Proofs.YtdkbkecnhebanaaW.PrintLast Go.Proofs.YtdkbkecnhebanaaW.PrintMore
attribute [local go_sem] max2_int min2_int max_two min_two max_three min_three max_four min_four   -- for this text's walks alone
set_option linter.unusedVariables false
set_option linter.unusedSimpArgs false

/-! ### selvedgelaw14_ExplicitKnown: function 9 -/
mutual
def selvedgelaw14_ExplicitKnown.j0 : Nat → Bool → Option (Bool)
 | 0, _ => none
 | k + 1, x13 => (some (([61, 62, 63, 64, 124, 125, 126, 127, 130] : List Int) : List Int)).bind fun y373 => (selvedgelaw14_ExplicitKnown.l0 k x13 y373 (y373.length : Int) 0)
def selvedgelaw14_ExplicitKnown.l0 : Nat → Bool → List Int → Int → Int → Option (Bool)
 | 0, _, _, _, _ => none
 | k + 1, x13, x95, x96, x97 => if x97 < x96 then (if 0 ≤ x97 then (if x97 < (x95.length : Int) then ((some (([16, 15, 21, 20, 17, 22] : List Int) : List Int)).bind fun y377 => (selvedgelaw14_ExplicitKnown.l1 k x13 (rd x95 x97) x95 x96 x97 y377 (y377.length : Int) 0)) else (none)) else (none)) else ((selvedgelaw14_deep.f k 70 16).bind fun t395 => ((explicit_Levels.f t395 0).bind fun bt398 => ((selvedgelaw14_deep.f k 200 21).bind fun t406 => ((explicit_Levels.f t406 1).bind fun bt409 => ((explicit_Levels.f (([0] : List Int)) 0).bind fun bt420 => ((explicit_Levels.f (([24] : List Int)) 0).bind fun bt431 => ((explicit_Levels.f ([] : List Int) 3).bind fun bt439 => ((explicit_Levels.f ([] : List Int) 2).bind fun bt447 => ((selvedgelaw14_deep.f k 65536 1).bind fun t455 => ((explicit_Levels.f t455 0).bind fun bt458 => ((selvedgelaw14_deep.f k 65535 1).bind fun t466 => ((explicit_Levels.f t466 0).bind fun bt469 => (if 70 < (bt398.1.length : Int) then (if (rd bt398.1 70) = 125 then (if 200 < (bt409.1.length : Int) then (if (rd bt409.1 200) = 125 then (if bt420.2.2.2 = 2 then (if bt431.2.2.2 = 2 then (if bt439.2.2.2 = 2 then (if bt447.2.2.1 = 0 then (if bt447.2.2.2 = 0 then (if bt458.2.2.2 = 3 then (selvedgelaw14_ExplicitKnown.j4 k x13 (bt469.2.2.2 == 0)) else (none)) else (none)) else (none)) else (none)) else (none)) else (none)) else (none)) else (none)) else (none)) else (none))))))))))))))
def selvedgelaw14_ExplicitKnown.l1 : Nat → Bool → Int → List Int → Int → Int → List Int → Int → Int → Option (Bool)
 | 0, _, _, _, _, _, _, _, _ => none
 | k + 1, x13, x15, x95, x96, x97, x101, x102, x103 => if x103 < x102 then (if 0 ≤ x103 then (if x103 < (x101.length : Int) then ((selvedgelaw14_deep.f k x15 (rd x101 x103)).bind fun t381 => ((selvedgelaw14_ExplicitLevels.f k t381 0).bind fun t384 => (if t384 = true then ((selvedgelaw14_ExplicitLevels.f k t381 1).bind fun t385 => (if t385 = true then ((selvedgelaw14_ExplicitBounds.f t381 0).bind fun t386 => (selvedgelaw14_ExplicitKnown.j3 k x13 x15 t381 x95 x96 x97 x101 x102 x103 (!t386))) else (none))) else (none)))) else (none)) else (none)) else (selvedgelaw14_ExplicitKnown.l0 k x13 x95 x96 (wrap64 (x97 + 1)))
def selvedgelaw14_ExplicitKnown.j3 : Nat → Bool → Int → List Int → List Int → Int → Int → List Int → Int → Int → Bool → Option (Bool)
 | 0, _, _, _, _, _, _, _, _, _, _ => none
 | k + 1, x13, x15, x18, x95, x96, x97, x101, x102, x103, x122 => if x122 = true then (none) else ((some (([21, 2, 19, 23, 19, 14, 23, 19, 1, 11, 2, 16, 14] : List Int) : List Int)).bind fun y387 => (if x18.length + y387.length < 140737488355328 then ((some (x18 ++ y387 : List Int)).bind fun y390 => ((selvedgelaw14_ExplicitLevels.f k y390 0).bind fun t393 => (if t393 = true then ((selvedgelaw14_ExplicitLevels.f k y390 2).bind fun t394 => (if t394 = true then (selvedgelaw14_ExplicitKnown.l1 k x13 x15 x95 x96 x97 x101 x102 (wrap64 (x103 + 1))) else (none))) else (none)))) else (none)))
def selvedgelaw14_ExplicitKnown.j4 : Nat → Bool → Bool → Option (Bool)
 | 0, _, _ => none
 | k + 1, x13, x51 => (explicit_Base.f k (([21, 2, 23, 1, 2] : List Int))).bind fun t482 => (if t482 = 0 then ((explicit_Base.f k (([21, 2, 1] : List Int))).bind fun t486 => (if t486 = 0 then ((explicit_Base.f k (([23, 3] : List Int))).bind fun t490 => (if t490 = 1 then ((explicit_Base.f k (([14, 11, 2] : List Int))).bind fun t494 => (if t494 = 0 then ((explicit_Base.f k (([16, 4, 9, 2] : List Int))).bind fun t498 => (if t498 = 1 then ((explicit_Base.f k (([20, 11, 2] : List Int))).bind fun t502 => (if x13 = true then (if x51 = true then (if t502 = 0 then ((selvedgelaw14_works.f k).bind fun t503 => (some t503)) else (none)) else (none)) else (none))) else (none))) else (none))) else (none))) else (none))) else (none))
end
def selvedgelaw14_ExplicitKnown.f (k : Nat)  : Option (Bool) := (explicit_Levels.f (([1, 16, 1, 19, 1] : List Int)) 0).bind fun bt343 => ((explicit_Levels.f (([2, 22, 3, 23, 1] : List Int)) 2).bind fun bt354 => ((explicit_Levels.f (([23, 21, 11, 16, 1] : List Int)) 2).bind fun bt365 => (if (strOfNums bt343.1).toList = ([0, 0, 1, 1, 0] : List UInt8) then (if (strOfNums bt354.1).toList = ([1, 1, 3, 1, 1] : List UInt8) then (if bt354.2.2.1 = 1 then (if (strOfNums bt365.1).toList = ([0, 0, 0, 0, 1] : List UInt8) then (selvedgelaw14_ExplicitKnown.j0 k (bt365.2.2.1 == 0)) else (none)) else (none)) else (none)) else (none))))
theorem selvedgelaw14_ExplicitKnown.mono_l : ∀ k, (∀ y0, LeO (selvedgelaw14_ExplicitKnown.j0 k y0) (selvedgelaw14_ExplicitKnown.j0 (k + 1) y0)) ∧ (∀ y0 y1 y2 y3, LeO (selvedgelaw14_ExplicitKnown.l0 k y0 y1 y2 y3) (selvedgelaw14_ExplicitKnown.l0 (k + 1) y0 y1 y2 y3)) ∧ (∀ y0 y1 y2 y3 y4 y5 y6 y7, LeO (selvedgelaw14_ExplicitKnown.l1 k y0 y1 y2 y3 y4 y5 y6 y7) (selvedgelaw14_ExplicitKnown.l1 (k + 1) y0 y1 y2 y3 y4 y5 y6 y7)) ∧ (∀ y0 y1 y2 y3 y4 y5 y6 y7 y8 y9, LeO (selvedgelaw14_ExplicitKnown.j3 k y0 y1 y2 y3 y4 y5 y6 y7 y8 y9) (selvedgelaw14_ExplicitKnown.j3 (k + 1) y0 y1 y2 y3 y4 y5 y6 y7 y8 y9)) ∧ (∀ y0 y1, LeO (selvedgelaw14_ExplicitKnown.j4 k y0 y1) (selvedgelaw14_ExplicitKnown.j4 (k + 1) y0 y1))
 | 0 => ⟨fun _ r h => by simp [selvedgelaw14_ExplicitKnown.j0] at h, fun _ _ _ _ r h => by simp [selvedgelaw14_ExplicitKnown.l0] at h, fun _ _ _ _ _ _ _ _ r h => by simp [selvedgelaw14_ExplicitKnown.l1] at h, fun _ _ _ _ _ _ _ _ _ _ r h => by simp [selvedgelaw14_ExplicitKnown.j3] at h, fun _ _ r h => by simp [selvedgelaw14_ExplicitKnown.j4] at h⟩
 | k + 1 => by
  obtain ⟨ih0, ih1, ih2, ih3, ih4⟩ := selvedgelaw14_ExplicitKnown.mono_l k
  refine ⟨?_, ?_, ?_, ?_, ?_⟩
  ·intro y0
   unfold selvedgelaw14_ExplicitKnown.j0
   repeat' first
   | (with_reducible exact ih0 _)
   | (with_reducible exact ih1 _ _ _ _)
   | (with_reducible exact ih2 _ _ _ _ _ _ _ _)
   | (with_reducible exact ih3 _ _ _ _ _ _ _ _ _ _)
   | (with_reducible exact ih4 _ _)
   | (with_reducible exact explicit_Base.mono _ _)
   | (with_reducible exact selvedgelaw14_ExplicitLevels.mono _ _ _)
   | (with_reducible exact selvedgelaw14_deep.mono _ _ _)
   | (with_reducible exact selvedgelaw14_works.mono _)
   | (with_reducible exact LeO.refl _)
   | (with_reducible exact LeO.none _)
   | (with_reducible refine LeO.ite ?_ ?_)
   | (with_reducible refine LeO.bind ?_ (fun _ => ?_))
   | exact ih0 _
   | exact ih1 _ _ _ _
   | exact ih2 _ _ _ _ _ _ _ _
   | exact ih3 _ _ _ _ _ _ _ _ _ _
   | exact ih4 _ _
   | exact explicit_Base.mono _ _
   | exact selvedgelaw14_ExplicitLevels.mono _ _ _
   | exact selvedgelaw14_deep.mono _ _ _
   | exact selvedgelaw14_works.mono _
   | exact LeO.none _
   | refine LeO.ite ?_ ?_
   | refine LeO.bind ?_ (fun _ => ?_)
  ·intro y0 y1 y2 y3
   unfold selvedgelaw14_ExplicitKnown.l0
   repeat' first
   | (with_reducible exact ih0 _)
   | (with_reducible exact ih1 _ _ _ _)
   | (with_reducible exact ih2 _ _ _ _ _ _ _ _)
   | (with_reducible exact ih3 _ _ _ _ _ _ _ _ _ _)
   | (with_reducible exact ih4 _ _)
   | (with_reducible exact explicit_Base.mono _ _)
   | (with_reducible exact selvedgelaw14_ExplicitLevels.mono _ _ _)
   | (with_reducible exact selvedgelaw14_deep.mono _ _ _)
   | (with_reducible exact selvedgelaw14_works.mono _)
   | (with_reducible exact LeO.refl _)
   | (with_reducible exact LeO.none _)
   | (with_reducible refine LeO.ite ?_ ?_)
   | (with_reducible refine LeO.bind ?_ (fun _ => ?_))
   | exact ih0 _
   | exact ih1 _ _ _ _
   | exact ih2 _ _ _ _ _ _ _ _
   | exact ih3 _ _ _ _ _ _ _ _ _ _
   | exact ih4 _ _
   | exact explicit_Base.mono _ _
   | exact selvedgelaw14_ExplicitLevels.mono _ _ _
   | exact selvedgelaw14_deep.mono _ _ _
   | exact selvedgelaw14_works.mono _
   | exact LeO.none _
   | refine LeO.ite ?_ ?_
   | refine LeO.bind ?_ (fun _ => ?_)
  ·intro y0 y1 y2 y3 y4 y5 y6 y7
   unfold selvedgelaw14_ExplicitKnown.l1
   repeat' first
   | (with_reducible exact ih0 _)
   | (with_reducible exact ih1 _ _ _ _)
   | (with_reducible exact ih2 _ _ _ _ _ _ _ _)
   | (with_reducible exact ih3 _ _ _ _ _ _ _ _ _ _)
   | (with_reducible exact ih4 _ _)
   | (with_reducible exact explicit_Base.mono _ _)
   | (with_reducible exact selvedgelaw14_ExplicitLevels.mono _ _ _)
   | (with_reducible exact selvedgelaw14_deep.mono _ _ _)
   | (with_reducible exact selvedgelaw14_works.mono _)
   | (with_reducible exact LeO.refl _)
   | (with_reducible exact LeO.none _)
   | (with_reducible refine LeO.ite ?_ ?_)
   | (with_reducible refine LeO.bind ?_ (fun _ => ?_))
   | exact ih0 _
   | exact ih1 _ _ _ _
   | exact ih2 _ _ _ _ _ _ _ _
   | exact ih3 _ _ _ _ _ _ _ _ _ _
   | exact ih4 _ _
   | exact explicit_Base.mono _ _
   | exact selvedgelaw14_ExplicitLevels.mono _ _ _
   | exact selvedgelaw14_deep.mono _ _ _
   | exact selvedgelaw14_works.mono _
   | exact LeO.none _
   | refine LeO.ite ?_ ?_
   | refine LeO.bind ?_ (fun _ => ?_)
  ·intro y0 y1 y2 y3 y4 y5 y6 y7 y8 y9
   unfold selvedgelaw14_ExplicitKnown.j3
   repeat' first
   | (with_reducible exact ih0 _)
   | (with_reducible exact ih1 _ _ _ _)
   | (with_reducible exact ih2 _ _ _ _ _ _ _ _)
   | (with_reducible exact ih3 _ _ _ _ _ _ _ _ _ _)
   | (with_reducible exact ih4 _ _)
   | (with_reducible exact explicit_Base.mono _ _)
   | (with_reducible exact selvedgelaw14_ExplicitLevels.mono _ _ _)
   | (with_reducible exact selvedgelaw14_deep.mono _ _ _)
   | (with_reducible exact selvedgelaw14_works.mono _)
   | (with_reducible exact LeO.refl _)
   | (with_reducible exact LeO.none _)
   | (with_reducible refine LeO.ite ?_ ?_)
   | (with_reducible refine LeO.bind ?_ (fun _ => ?_))
   | exact ih0 _
   | exact ih1 _ _ _ _
   | exact ih2 _ _ _ _ _ _ _ _
   | exact ih3 _ _ _ _ _ _ _ _ _ _
   | exact ih4 _ _
   | exact explicit_Base.mono _ _
   | exact selvedgelaw14_ExplicitLevels.mono _ _ _
   | exact selvedgelaw14_deep.mono _ _ _
   | exact selvedgelaw14_works.mono _
   | exact LeO.none _
   | refine LeO.ite ?_ ?_
   | refine LeO.bind ?_ (fun _ => ?_)
  ·intro y0 y1
   unfold selvedgelaw14_ExplicitKnown.j4
   repeat' first
   | (with_reducible exact ih0 _)
   | (with_reducible exact ih1 _ _ _ _)
   | (with_reducible exact ih2 _ _ _ _ _ _ _ _)
   | (with_reducible exact ih3 _ _ _ _ _ _ _ _ _ _)
   | (with_reducible exact ih4 _ _)
   | (with_reducible exact explicit_Base.mono _ _)
   | (with_reducible exact selvedgelaw14_ExplicitLevels.mono _ _ _)
   | (with_reducible exact selvedgelaw14_deep.mono _ _ _)
   | (with_reducible exact selvedgelaw14_works.mono _)
   | (with_reducible exact LeO.refl _)
   | (with_reducible exact LeO.none _)
   | (with_reducible refine LeO.ite ?_ ?_)
   | (with_reducible refine LeO.bind ?_ (fun _ => ?_))
   | exact ih0 _
   | exact ih1 _ _ _ _
   | exact ih2 _ _ _ _ _ _ _ _
   | exact ih3 _ _ _ _ _ _ _ _ _ _
   | exact ih4 _ _
   | exact explicit_Base.mono _ _
   | exact selvedgelaw14_ExplicitLevels.mono _ _ _
   | exact selvedgelaw14_deep.mono _ _ _
   | exact selvedgelaw14_works.mono _
   | exact LeO.none _
   | refine LeO.ite ?_ ?_
   | refine LeO.bind ?_ (fun _ => ?_)
theorem selvedgelaw14_ExplicitKnown.mono : ∀ k, LeO (selvedgelaw14_ExplicitKnown.f k ) (selvedgelaw14_ExplicitKnown.f (k + 1) ) := by
 intro  k
 obtain ⟨ih0, ih1, ih2, ih3, ih4⟩ := selvedgelaw14_ExplicitKnown.mono_l k
 unfold selvedgelaw14_ExplicitKnown.f
 repeat' first
   | (with_reducible exact ih0 _)
   | (with_reducible exact ih1 _ _ _ _)
   | (with_reducible exact ih2 _ _ _ _ _ _ _ _)
   | (with_reducible exact ih3 _ _ _ _ _ _ _ _ _ _)
   | (with_reducible exact ih4 _ _)
   | (with_reducible exact explicit_Base.mono _ _)
   | (with_reducible exact selvedgelaw14_ExplicitLevels.mono _ _ _)
   | (with_reducible exact selvedgelaw14_deep.mono _ _ _)
   | (with_reducible exact selvedgelaw14_works.mono _)
   | (with_reducible exact LeO.refl _)
   | (with_reducible exact LeO.none _)
   | (with_reducible refine LeO.ite ?_ ?_)
   | (with_reducible refine LeO.bind ?_ (fun _ => ?_))
   | exact ih0 _
   | exact ih1 _ _ _ _
   | exact ih2 _ _ _ _ _ _ _ _
   | exact ih3 _ _ _ _ _ _ _ _ _ _
   | exact ih4 _ _
   | exact explicit_Base.mono _ _
   | exact selvedgelaw14_ExplicitLevels.mono _ _ _
   | exact selvedgelaw14_deep.mono _ _ _
   | exact selvedgelaw14_works.mono _
   | exact LeO.none _
   | refine LeO.ite ?_ ?_
   | refine LeO.bind ?_ (fun _ => ?_)
set_option maxHeartbeats 8000000 in
set_option maxRecDepth 100000 in
theorem selvedgelaw14_ExplicitKnown.calls (k : Nat)  (r : Bool) (w : World) (h : selvedgelaw14_ExplicitKnown.f k  = some r) :
  Calls Try.prog 9 #[] w fun e w' => e = .returned (.bool r) ∧ Below w.heap.size w w' := by
 have HB := Aside0.mk (Below.refl w.heap.size w)
 have H : ((explicit_Levels.f (([1, 16, 1, 19, 1] : List Int)) 0).bind fun bt343 => ((explicit_Levels.f (([2, 22, 3, 23, 1] : List Int)) 2).bind fun bt354 => ((explicit_Levels.f (([23, 21, 11, 16, 1] : List Int)) 2).bind fun bt365 => (if (strOfNums bt343.1).toList = ([0, 0, 1, 1, 0] : List UInt8) then (if (strOfNums bt354.1).toList = ([1, 1, 3, 1, 1] : List UInt8) then (if bt354.2.2.1 = 1 then (if (strOfNums bt365.1).toList = ([0, 0, 0, 0, 1] : List UInt8) then (selvedgelaw14_ExplicitKnown.j0 k (bt365.2.2.1 == 0)) else (none)) else (none)) else (none)) else (none))))) = some r := h
 clear h
 obtain ⟨y340, hy340⟩ : ∃ y_ : List Int, y_ = (([1, 16, 1, 19, 1] : List Int)) := ⟨_, rfl⟩
 replace H : ((explicit_Levels.f y340 0).bind fun bt343 => ((explicit_Levels.f (([2, 22, 3, 23, 1] : List Int)) 2).bind fun bt354 => ((explicit_Levels.f (([23, 21, 11, 16, 1] : List Int)) 2).bind fun bt365 => (if (strOfNums bt343.1).toList = ([0, 0, 1, 1, 0] : List UInt8) then (if (strOfNums bt354.1).toList = ([1, 1, 3, 1, 1] : List UInt8) then (if bt354.2.2.1 = 1 then (if (strOfNums bt365.1).toList = ([0, 0, 0, 0, 1] : List UInt8) then (selvedgelaw14_ExplicitKnown.j0 k (bt365.2.2.1 == 0)) else (none)) else (none)) else (none)) else (none))))) = some r := by first | (rw [hy340]; with_reducible exact H) | (have H2_ := (Option.bind_some _ _).symm.trans H; rw [hy340]; with_reducible exact H2_) | (have H2_ := (Option.bind_some _ _).symm.trans H; with_reducible exact H2_) | with_reducible exact H | (rw [hy340]; exact H) | exact H
 have Ny340 := Aside0.mk hy340
 clear hy340
 replace H := Option.bind_eq_some_iff.mp H
 obtain ⟨⟨t343, t344, t345, t346⟩, A10, H⟩ := H
 replace H : ((explicit_Levels.f (([2, 22, 3, 23, 1] : List Int)) 2).bind fun bt354 => ((explicit_Levels.f (([23, 21, 11, 16, 1] : List Int)) 2).bind fun bt365 => (if (strOfNums t343).toList = ([0, 0, 1, 1, 0] : List UInt8) then (if (strOfNums bt354.1).toList = ([1, 1, 3, 1, 1] : List UInt8) then (if bt354.2.2.1 = 1 then (if (strOfNums bt365.1).toList = ([0, 0, 0, 0, 1] : List UInt8) then (selvedgelaw14_ExplicitKnown.j0 k (bt365.2.2.1 == 0)) else (none)) else (none)) else (none)) else (none)))) = some r := H
 have A1 := Aside0.mk A10
 clear A10
 obtain ⟨y351, hy351⟩ : ∃ y_ : List Int, y_ = (([2, 22, 3, 23, 1] : List Int)) := ⟨_, rfl⟩
 replace H : ((explicit_Levels.f y351 2).bind fun bt354 => ((explicit_Levels.f (([23, 21, 11, 16, 1] : List Int)) 2).bind fun bt365 => (if (strOfNums t343).toList = ([0, 0, 1, 1, 0] : List UInt8) then (if (strOfNums bt354.1).toList = ([1, 1, 3, 1, 1] : List UInt8) then (if bt354.2.2.1 = 1 then (if (strOfNums bt365.1).toList = ([0, 0, 0, 0, 1] : List UInt8) then (selvedgelaw14_ExplicitKnown.j0 k (bt365.2.2.1 == 0)) else (none)) else (none)) else (none)) else (none)))) = some r := by first | (rw [hy351]; with_reducible exact H) | (have H2_ := (Option.bind_some _ _).symm.trans H; rw [hy351]; with_reducible exact H2_) | (have H2_ := (Option.bind_some _ _).symm.trans H; with_reducible exact H2_) | with_reducible exact H | (rw [hy351]; exact H) | exact H
 have Ny351 := Aside0.mk hy351
 clear hy351
 replace H := Option.bind_eq_some_iff.mp H
 obtain ⟨⟨t354, t355, t356, t357⟩, A20, H⟩ := H
 replace H : ((explicit_Levels.f (([23, 21, 11, 16, 1] : List Int)) 2).bind fun bt365 => (if (strOfNums t343).toList = ([0, 0, 1, 1, 0] : List UInt8) then (if (strOfNums t354).toList = ([1, 1, 3, 1, 1] : List UInt8) then (if t356 = 1 then (if (strOfNums bt365.1).toList = ([0, 0, 0, 0, 1] : List UInt8) then (selvedgelaw14_ExplicitKnown.j0 k (bt365.2.2.1 == 0)) else (none)) else (none)) else (none)) else (none))) = some r := H
 have A2 := Aside0.mk A20
 clear A20
 obtain ⟨y362, hy362⟩ : ∃ y_ : List Int, y_ = (([23, 21, 11, 16, 1] : List Int)) := ⟨_, rfl⟩
 replace H : ((explicit_Levels.f y362 2).bind fun bt365 => (if (strOfNums t343).toList = ([0, 0, 1, 1, 0] : List UInt8) then (if (strOfNums t354).toList = ([1, 1, 3, 1, 1] : List UInt8) then (if t356 = 1 then (if (strOfNums bt365.1).toList = ([0, 0, 0, 0, 1] : List UInt8) then (selvedgelaw14_ExplicitKnown.j0 k (bt365.2.2.1 == 0)) else (none)) else (none)) else (none)) else (none))) = some r := by first | (rw [hy362]; with_reducible exact H) | (have H2_ := (Option.bind_some _ _).symm.trans H; rw [hy362]; with_reducible exact H2_) | (have H2_ := (Option.bind_some _ _).symm.trans H; with_reducible exact H2_) | with_reducible exact H | (rw [hy362]; exact H) | exact H
 have Ny362 := Aside0.mk hy362
 clear hy362
 replace H := Option.bind_eq_some_iff.mp H
 obtain ⟨⟨t365, t366, t367, t368⟩, A30, H⟩ := H
 replace H : (if (strOfNums t343).toList = ([0, 0, 1, 1, 0] : List UInt8) then (if (strOfNums t354).toList = ([1, 1, 3, 1, 1] : List UInt8) then (if t356 = 1 then (if (strOfNums t365).toList = ([0, 0, 0, 0, 1] : List UInt8) then (selvedgelaw14_ExplicitKnown.j0 k (t367 == 0)) else (none)) else (none)) else (none)) else (none)) = some r := H
 have A3 := Aside0.mk A30
 clear A30
 have HC4 := Aside0.mk H
 clear H
 go_enter Try.func9, Try.ntmps9
 go_upto_region 4 with (first | ((with_reducible refine gate_dst (N := 54) rfl ?_); (try (refine gate_guard (by rfl) ?_; dsimp only)); refine Kd.R_lit (Kd.int .u8) _ 26 ?hg (N := 54) ?hd (xs := ([1, 16, 1, 19, 1] : List Int)) (inner := [.int .u8 1, .int .u8 16, .int .u8 1, .int .u8 19, .int .u8 1]) (ok := fun _ => True) (okp := fun _ => True) ?hr ?hp (fun _ hk => hk) trivial (Below.refl _ _) (Nat.le_refl _) (by simp) ?_; (case hd => rfl); (case hg => rfl); (case hr => first | (go_simp; done) | (go_simp; rfl)); (case hp => exact (Reps.one (show Kd.M (Kd.int .u8) _ _ _ 1 [.int .u8 1] from rfl) (Reps.one (show Kd.M (Kd.int .u8) _ _ _ 16 [.int .u8 16] from rfl) (Reps.one (show Kd.M (Kd.int .u8) _ _ _ 1 [.int .u8 1] from rfl) (Reps.one (show Kd.M (Kd.int .u8) _ _ _ 19 [.int .u8 19] from rfl) (Reps.one (show Kd.M (Kd.int .u8) _ _ _ 1 [.int .u8 1] from rfl) (Reps.none _ _))))))); intro v341 w5 ho6 hb hg_ hnew_; clear hg_ hnew_; (first | rw [← Ny340.out] at ho6 | (simp only [Int.reduceToNat] at ho6; rw [← Ny340.out] at ho6)); have n0_ := Aside0.mk (Kd.R_lower ho6 (below_size (mvB HB))); have n1_ := Aside0.mk (below_step (mvB HB) hb); clear HB; have HO342 := n0_; have HB := n1_; clear n0_ n1_; clear hb ho6; obtain ⟨Ao7, co7, eo7⟩ := Kd.R_slice HO342.out; subst eo7) | ((with_reducible refine gate_callee (f := 15) rfl ?_); refine goesL_ (some 55) rfl rfl Try.func15 (by kernel_rfl) rfl #[.slice Ao7 y340.length co7, .int .u8 0] rfl (by (try simp only [List.map_toArray, List.map_cons, List.map_nil]); first | done | rfl | (simp only [List.length_drop, List.length_take]; rfl)) ?_; (with_reducible refine (explicit_Levels.calls _ _ y340 0 t343 t344 t345 t346 _ ?side1 ?side2 A1.out).mono ?_); (case side1 => repeat (first | exact (Kd.R_reads' HO342.out).2.2 | (with_reducible refine Kd.C_alloc ?_ _) | (with_reducible refine Kd.C_drewN ?_ _) | (with_reducible refine Kd.C_drew ?_))); (case side2 => exact (Kd.R_reads' HO342.out).2.1); rintro e w8 ⟨v347, v349, rfl, ho0, ho1, hb⟩; refine ⟨_, rfl, ?_⟩; have n0_ := Aside0.mk (Kd.R_elder' (mvR HO342) (Kd.R_base ho1) hb); have n1_ := Aside0.mk (Kd.R_lower ho0 (below_size (mvB HB))); have n2_ := Aside0.mk (Kd.R_lower (Kd.R_new' ho1 (Kd.R_lt (mvR HO342))) (below_size (mvB HB))); have n3_ := Aside0.mk (below_step (mvB HB) hb); clear HO342; clear HB; have HO342 := n0_; have HO348 := n1_; have HO350 := n2_; have HB := n3_; clear n0_ n1_ n2_ n3_; (try clear hb); (try clear hb2); (try clear hk); (try clear hi); (try clear ho0); (try clear ho1)) | ((with_reducible refine gate_dst (N := 61) rfl ?_); (try (refine gate_guard (by rfl) ?_; dsimp only)); refine Kd.R_lit (Kd.int .u8) _ 26 ?hg (N := 61) ?hd (xs := ([2, 22, 3, 23, 1] : List Int)) (inner := [.int .u8 2, .int .u8 22, .int .u8 3, .int .u8 23, .int .u8 1]) (ok := fun _ => True) (okp := fun _ => True) ?hr ?hp (fun _ hk => hk) trivial (Below.refl _ _) (Nat.le_refl _) (by simp) ?_; (case hd => rfl); (case hg => rfl); (case hr => first | (go_simp; done) | (go_simp; rfl)); (case hp => exact (Reps.one (show Kd.M (Kd.int .u8) _ _ _ 2 [.int .u8 2] from rfl) (Reps.one (show Kd.M (Kd.int .u8) _ _ _ 22 [.int .u8 22] from rfl) (Reps.one (show Kd.M (Kd.int .u8) _ _ _ 3 [.int .u8 3] from rfl) (Reps.one (show Kd.M (Kd.int .u8) _ _ _ 23 [.int .u8 23] from rfl) (Reps.one (show Kd.M (Kd.int .u8) _ _ _ 1 [.int .u8 1] from rfl) (Reps.none _ _))))))); intro v352 w9 ho10 hb hg_ hnew_; clear hg_ hnew_; (first | rw [← Ny351.out] at ho10 | (simp only [Int.reduceToNat] at ho10; rw [← Ny351.out] at ho10)); have n0_ := Aside0.mk (Kd.R_elder' (mvR HO342) (Kd.R_base ho10) hb); have n1_ := Aside0.mk (Kd.R_below (mvR HO348) hb); have n2_ := Aside0.mk (Kd.R_elder' (mvR HO350) (Kd.R_base ho10) hb); have n3_ := Aside0.mk (Kd.R_lower (Kd.R_new' (Kd.R_new' ho10 (Kd.R_lt (mvR HO342))) (Kd.R_lt (mvR HO350))) (below_size (mvB HB))); have n4_ := Aside0.mk (below_step (mvB HB) hb); clear HO342; clear HO348; clear HO350; clear HB; have HO342 := n0_; have HO348 := n1_; have HO350 := n2_; have HO353 := n3_; have HB := n4_; clear n0_ n1_ n2_ n3_ n4_; clear hb ho10; obtain ⟨Ao11, co11, eo11⟩ := Kd.R_slice HO353.out; subst eo11) | ((with_reducible refine gate_callee (f := 15) rfl ?_); refine goesL_ (some 62) rfl rfl Try.func15 (by kernel_rfl) rfl #[.slice Ao11 y351.length co11, .int .u8 2] rfl (by (try simp only [List.map_toArray, List.map_cons, List.map_nil]); first | done | rfl | (simp only [List.length_drop, List.length_take]; rfl)) ?_; (with_reducible refine (explicit_Levels.calls _ _ y351 2 t354 t355 t356 t357 _ ?side1 ?side2 A2.out).mono ?_); (case side1 => repeat (first | exact (Kd.R_reads' HO353.out).2.2 | (with_reducible refine Kd.C_alloc ?_ _) | (with_reducible refine Kd.C_drewN ?_ _) | (with_reducible refine Kd.C_drew ?_))); (case side2 => exact (Kd.R_reads' HO353.out).2.1); rintro e w12 ⟨v358, v360, rfl, ho0, ho1, hb⟩; refine ⟨_, rfl, ?_⟩; have n0_ := Aside0.mk (Kd.R_elder' (mvR HO342) (Kd.R_base ho1) hb); have n1_ := Aside0.mk (Kd.R_elder' (mvR HO348) (Kd.R_base ho0) hb); have n2_ := Aside0.mk (Kd.R_elder' (mvR HO350) (Kd.R_base ho1) hb); have n3_ := Aside0.mk (Kd.R_elder' (mvR HO353) (Kd.R_base ho1) hb); have n4_ := Aside0.mk (Kd.R_lower (Kd.R_new' ho0 (Kd.R_lt (mvR HO348))) (below_size (mvB HB))); have n5_ := Aside0.mk (Kd.R_lower (Kd.R_new' (Kd.R_new' (Kd.R_new' ho1 (Kd.R_lt (mvR HO342))) (Kd.R_lt (mvR HO350))) (Kd.R_lt (mvR HO353))) (below_size (mvB HB))); have n6_ := Aside0.mk (below_step (mvB HB) hb); clear HO342; clear HO348; clear HO350; clear HO353; clear HB; have HO342 := n0_; have HO348 := n1_; have HO350 := n2_; have HO353 := n3_; have HO359 := n4_; have HO361 := n5_; have HB := n6_; clear n0_ n1_ n2_ n3_ n4_ n5_ n6_; (try clear hb); (try clear hb2); (try clear hk); (try clear hi); (try clear ho0); (try clear ho1)) | ((with_reducible refine gate_dst (N := 68) rfl ?_); (try (refine gate_guard (by rfl) ?_; dsimp only)); refine Kd.R_lit (Kd.int .u8) _ 26 ?hg (N := 68) ?hd (xs := ([23, 21, 11, 16, 1] : List Int)) (inner := [.int .u8 23, .int .u8 21, .int .u8 11, .int .u8 16, .int .u8 1]) (ok := fun _ => True) (okp := fun _ => True) ?hr ?hp (fun _ hk => hk) trivial (Below.refl _ _) (Nat.le_refl _) (by simp) ?_; (case hd => rfl); (case hg => rfl); (case hr => first | (go_simp; done) | (go_simp; rfl)); (case hp => exact (Reps.one (show Kd.M (Kd.int .u8) _ _ _ 23 [.int .u8 23] from rfl) (Reps.one (show Kd.M (Kd.int .u8) _ _ _ 21 [.int .u8 21] from rfl) (Reps.one (show Kd.M (Kd.int .u8) _ _ _ 11 [.int .u8 11] from rfl) (Reps.one (show Kd.M (Kd.int .u8) _ _ _ 16 [.int .u8 16] from rfl) (Reps.one (show Kd.M (Kd.int .u8) _ _ _ 1 [.int .u8 1] from rfl) (Reps.none _ _))))))); intro v363 w13 ho14 hb hg_ hnew_; clear hg_ hnew_; (first | rw [← Ny362.out] at ho14 | (simp only [Int.reduceToNat] at ho14; rw [← Ny362.out] at ho14)); have n0_ := Aside0.mk (Kd.R_elder' (mvR HO342) (Kd.R_base ho14) hb); have n1_ := Aside0.mk (Kd.R_below (mvR HO348) hb); have n2_ := Aside0.mk (Kd.R_elder' (mvR HO350) (Kd.R_base ho14) hb); have n3_ := Aside0.mk (Kd.R_elder' (mvR HO353) (Kd.R_base ho14) hb); have n4_ := Aside0.mk (Kd.R_below (mvR HO359) hb); have n5_ := Aside0.mk (Kd.R_elder' (mvR HO361) (Kd.R_base ho14) hb); have n6_ := Aside0.mk (Kd.R_lower (Kd.R_new' (Kd.R_new' (Kd.R_new' (Kd.R_new' ho14 (Kd.R_lt (mvR HO342))) (Kd.R_lt (mvR HO350))) (Kd.R_lt (mvR HO353))) (Kd.R_lt (mvR HO361))) (below_size (mvB HB))); have n7_ := Aside0.mk (below_step (mvB HB) hb); clear HO342; clear HO348; clear HO350; clear HO353; clear HO359; clear HO361; clear HB; have HO342 := n0_; have HO348 := n1_; have HO350 := n2_; have HO353 := n3_; have HO359 := n4_; have HO361 := n5_; have HO364 := n6_; have HB := n7_; clear n0_ n1_ n2_ n3_ n4_ n5_ n6_ n7_; clear hb ho14; obtain ⟨Ao15, co15, eo15⟩ := Kd.R_slice HO364.out; subst eo15) | ((with_reducible refine gate_callee (f := 15) rfl ?_); refine goesL_ (some 69) rfl rfl Try.func15 (by kernel_rfl) rfl #[.slice Ao15 y362.length co15, .int .u8 2] rfl (by (try simp only [List.map_toArray, List.map_cons, List.map_nil]); first | done | rfl | (simp only [List.length_drop, List.length_take]; rfl)) ?_; (with_reducible refine (explicit_Levels.calls _ _ y362 2 t365 t366 t367 t368 _ ?side1 ?side2 A3.out).mono ?_); (case side1 => repeat (first | exact (Kd.R_reads' HO364.out).2.2 | (with_reducible refine Kd.C_alloc ?_ _) | (with_reducible refine Kd.C_drewN ?_ _) | (with_reducible refine Kd.C_drew ?_))); (case side2 => exact (Kd.R_reads' HO364.out).2.1); rintro e w16 ⟨v369, v371, rfl, ho0, ho1, hb⟩; refine ⟨_, rfl, ?_⟩; have n0_ := Aside0.mk (Kd.R_elder' (mvR HO342) (Kd.R_base ho1) hb); have n1_ := Aside0.mk (Kd.R_elder' (mvR HO348) (Kd.R_base ho0) hb); have n2_ := Aside0.mk (Kd.R_elder' (mvR HO350) (Kd.R_base ho1) hb); have n3_ := Aside0.mk (Kd.R_elder' (mvR HO353) (Kd.R_base ho1) hb); have n4_ := Aside0.mk (Kd.R_elder' (mvR HO359) (Kd.R_base ho0) hb); have n5_ := Aside0.mk (Kd.R_elder' (mvR HO361) (Kd.R_base ho1) hb); have n6_ := Aside0.mk (Kd.R_elder' (mvR HO364) (Kd.R_base ho1) hb); have n7_ := Aside0.mk (Kd.R_lower (Kd.R_new' (Kd.R_new' ho0 (Kd.R_lt (mvR HO348))) (Kd.R_lt (mvR HO359))) (below_size (mvB HB))); have n8_ := Aside0.mk (Kd.R_lower (Kd.R_new' (Kd.R_new' (Kd.R_new' (Kd.R_new' (Kd.R_new' ho1 (Kd.R_lt (mvR HO342))) (Kd.R_lt (mvR HO350))) (Kd.R_lt (mvR HO353))) (Kd.R_lt (mvR HO361))) (Kd.R_lt (mvR HO364))) (below_size (mvB HB))); have n9_ := Aside0.mk (below_step (mvB HB) hb); clear HO342; clear HO348; clear HO350; clear HO353; clear HO359; clear HO361; clear HO364; clear HB; have HO342 := n0_; have HO348 := n1_; have HO350 := n2_; have HO353 := n3_; have HO359 := n4_; have HO361 := n5_; have HO364 := n6_; have HO370 := n7_; have HO372 := n8_; have HB := n9_; clear n0_ n1_ n2_ n3_ n4_ n5_ n6_ n7_ n8_ n9_; (try clear hb); (try clear hb2); (try clear hk); (try clear hi); (try clear ho0); (try clear ho1)))
 (try simp only [Act.put, List.setIfInBounds_toArray, List.set_cons_zero, List.set_cons_succ])
 go_cut [13] (fun v13 wc => ∃ (kq : Nat) (x13_3 : Bool), v13 = .bool x13_3 ∧ Aside0 (selvedgelaw14_ExplicitKnown.j0 kq x13_3 = some r) ∧ Aside0 (kq ≤ k) ∧ Aside0 (Below w.heap.size w wc))
 case first =>
  have H := HC4.out
  clear HC4
  by_cases c17 : (strOfNums t343).toList = ([0, 0, 1, 1, 0] : List UInt8)
  ·rw [if_pos c17] at H
   have c17b0 : ((strOfNums t343).toList == ([0, 0, 1, 1, 0] : List UInt8)) = true := beq_iff_eq.mpr c17
   have c17b1 : ((strOfNums t343).toList != ([0, 0, 1, 1, 0] : List UInt8)) = false := bne_eq_false_iff_eq.mpr c17
   clear c17
   (first | rw [c17b0] | (simp only [i64_w, i32_w]; rw [c17b0]) | skip)
   by_cases c18 : (strOfNums t354).toList = ([1, 1, 3, 1, 1] : List UInt8)
   ·rw [if_pos c18] at H
    have c18b0 : ((strOfNums t354).toList == ([1, 1, 3, 1, 1] : List UInt8)) = true := beq_iff_eq.mpr c18
    have c18b1 : ((strOfNums t354).toList != ([1, 1, 3, 1, 1] : List UInt8)) = false := bne_eq_false_iff_eq.mpr c18
    clear c18
    by_cases c19 : t356 = 1
    ·rw [if_pos c19] at H
     have c19b0 : (t356 == 1) = true := beq_iff_eq.mpr c19
     have c19b1 : (t356 != 1) = false := bne_eq_false_iff_eq.mpr c19
     clear c19
     by_cases c20 : (strOfNums t365).toList = ([0, 0, 0, 0, 1] : List UInt8)
     ·rw [if_pos c20] at H
      have c20b0 : ((strOfNums t365).toList == ([0, 0, 0, 0, 1] : List UInt8)) = true := beq_iff_eq.mpr c20
      have c20b1 : ((strOfNums t365).toList != ([0, 0, 0, 0, 1] : List UInt8)) = false := bne_eq_false_iff_eq.mpr c20
      clear c20
      have H' := Aside0.mk H
      clear H
      have hcv21 := own_string (P := Try.prog) Try.underlying29 Try.underlying5 Try.underlying9 (Kd.own_of_R HO348.out)
      have hcv22 := own_string (P := Try.prog) Try.underlying29 Try.underlying5 Try.underlying9 (Kd.own_of_R HO359.out)
      have hcv23 := own_string (P := Try.prog) Try.underlying29 Try.underlying5 Try.underlying9 (Kd.own_of_R HO370.out)
      go_wp2
      go_meet
      case rel => exact ⟨_, ((t367 == 0)), (by first | rfl | (simp; done) | (simp [*]; done)), H', ⟨by first | omega | exact Nat.le_refl _⟩, ⟨mvB HB⟩⟩
     ·rw [if_neg c20] at H
      exact absurd H (by simp)
    ·rw [if_neg c19] at H
     exact absurd H (by simp)
   ·rw [if_neg c18] at H
    exact absurd H (by simp)
  ·rw [if_neg c17] at H
   exact absurd H (by simp)
 case rest =>
  clear HC4
  try clear c1
  try clear c2
  try clear p2
  try clear hcv2
  try clear hcv3
  try clear c9
  try clear c15
  try clear c17
  try clear c17b0
  try clear c17b1
  try clear c18
  try clear c18b0
  try clear c18b1
  try clear c19
  try clear c19b0
  try clear c19b1
  try clear c20
  try clear c20b0
  try clear c20b1
  try clear hcv21
  try clear hcv22
  try clear hcv23
  try clear hcv24
  try clear hcv25
  try clear hcv26
  try clear hcv27
  try clear hcv28
  try clear hcv29
  try clear hcv30
  try clear hcv31
  obtain ⟨kq, x13_3, rfl, HA, HJ3, HB⟩ := hcut
  cases kq with
  | zero => exact absurd HA.out (by simp [selvedgelaw14_ExplicitKnown.j0])
  | succ kj3 =>
   have H := HA.out
   clear HA
   simp only [selvedgelaw14_ExplicitKnown.j0] at H
   obtain ⟨y373, hy373⟩ : ∃ y_ : List Int, y_ = (([61, 62, 63, 64, 124, 125, 126, 127, 130] : List Int)) := ⟨_, rfl⟩
   replace H : (selvedgelaw14_ExplicitKnown.l0 kj3 x13_3 y373 (y373.length : Int) 0) = some r := by first | (rw [hy373]; with_reducible exact H) | (have H2_ := (Option.bind_some _ _).symm.trans H; rw [hy373]; with_reducible exact H2_) | (have H2_ := (Option.bind_some _ _).symm.trans H; with_reducible exact H2_) | with_reducible exact H | (rw [hy373]; exact H) | exact H
   have Ny373 := Aside0.mk hy373
   clear hy373
   have H' := Aside0.mk H
   clear H
   go_wp2_with (first | ((with_reducible refine gate_dst (N := 95) rfl ?_); (try (refine gate_guard (by rfl) ?_; dsimp only)); refine Kd.R_lit (Kd.int .i64) _ 3 ?hg (N := 95) ?hd (xs := ([61, 62, 63, 64, 124, 125, 126, 127, 130] : List Int)) (inner := [.int .i64 61, .int .i64 62, .int .i64 63, .int .i64 64, .int .i64 124, .int .i64 125, .int .i64 126, .int .i64 127, .int .i64 130]) (ok := fun _ => True) (okp := fun _ => True) ?hr ?hp (fun _ hk => hk) trivial (Below.refl _ _) (Nat.le_refl _) (by simp) ?_; (case hd => rfl); (case hg => rfl); (case hr => first | (go_simp; done) | (go_simp; rfl)); (case hp => exact (Reps.one (show Kd.M (Kd.int .i64) _ _ _ 61 [.int .i64 61] from rfl) (Reps.one (show Kd.M (Kd.int .i64) _ _ _ 62 [.int .i64 62] from rfl) (Reps.one (show Kd.M (Kd.int .i64) _ _ _ 63 [.int .i64 63] from rfl) (Reps.one (show Kd.M (Kd.int .i64) _ _ _ 64 [.int .i64 64] from rfl) (Reps.one (show Kd.M (Kd.int .i64) _ _ _ 124 [.int .i64 124] from rfl) (Reps.one (show Kd.M (Kd.int .i64) _ _ _ 125 [.int .i64 125] from rfl) (Reps.one (show Kd.M (Kd.int .i64) _ _ _ 126 [.int .i64 126] from rfl) (Reps.one (show Kd.M (Kd.int .i64) _ _ _ 127 [.int .i64 127] from rfl) (Reps.one (show Kd.M (Kd.int .i64) _ _ _ 130 [.int .i64 130] from rfl) (Reps.none _ _))))))))))); intro v374 w32 ho33 hb hg_ hnew_; clear hg_ hnew_; (first | rw [← Ny373.out] at ho33 | (simp only [Int.reduceToNat] at ho33; rw [← Ny373.out] at ho33)); have n0_ := Aside0.mk (Kd.R_lower ho33 (below_size (mvB HB))); have n1_ := Aside0.mk (below_step (mvB HB) hb); clear HB; have HO375 := n0_; have HB := n1_; clear n0_ n1_; clear hb ho33; obtain ⟨Ao34, co34, eo34⟩ := Kd.R_slice HO375.out; subst eo34))
   go_loopg [97] kj3 (fun kq v97 w' => ∃ (x97_2 : Int), v97 = .int .i64 x97_2 ∧ Aside0 (selvedgelaw14_ExplicitKnown.l0 kq x13_3 y373 (y373.length : Int) x97_2 = some r) ∧ Aside0 (kq ≤ kj3) ∧ Aside0 (Kd.R (Kd.int .i64) 3 w' w.heap.size (fun _ => True) (.slice Ao34 y373.length co34) y373) ∧ Aside0 (Below w.heap.size w w'))
   case atStart => exact ⟨(0), (by first | rfl | (simp; done) | (simp [*]; done)), H', ⟨Nat.le_refl _⟩, ⟨mvR HO375⟩, ⟨mvB HB⟩⟩
   case round =>
    clear H'
    try clear c1
    try clear c2
    try clear p2
    try clear hcv2
    try clear hcv3
    try clear c9
    try clear c15
    try clear c17
    try clear c17b0
    try clear c17b1
    try clear c18
    try clear c18b0
    try clear c18b1
    try clear c19
    try clear c19b0
    try clear c19b1
    try clear c20
    try clear c20b0
    try clear c20b1
    try clear hcv21
    try clear hcv22
    try clear hcv23
    try clear hcv24
    try clear hcv25
    try clear hcv26
    try clear hcv27
    try clear hcv28
    try clear hcv29
    try clear hcv30
    try clear hcv31
    try clear p2
    obtain ⟨x97_2, rfl, HA, HK2, HO_95, HB⟩ := hrel
    cases gk with
    | zero => exact absurd HA.out (by simp [selvedgelaw14_ExplicitKnown.l0])
    | succ k2 =>
     have H := HA.out
     clear HA
     simp only [selvedgelaw14_ExplicitKnown.l0] at H
     by_cases c35 : x97_2 < (y373.length : Int)
     ·rw [if_pos c35] at H
      have c35b0 : decide (x97_2 < (y373.length : Int)) = true := decide_eq_true c35
      clear c35
      by_cases c36 : 0 ≤ x97_2
      ·rw [if_pos c36] at H
       have c36b0 : decide (0 ≤ x97_2) = true := decide_eq_true c36
       clear c36
       by_cases c37 : x97_2 < (y373.length : Int)
       ·rw [if_pos c37] at H
        have c37b0 : decide (x97_2 < (y373.length : Int)) = true := decide_eq_true c37
        clear c37
        obtain ⟨y377, hy377⟩ : ∃ y_ : List Int, y_ = (([16, 15, 21, 20, 17, 22] : List Int)) := ⟨_, rfl⟩
        replace H : (selvedgelaw14_ExplicitKnown.l1 k2 x13_3 (rd y373 x97_2) y373 (y373.length : Int) x97_2 y377 (y377.length : Int) 0) = some r := by first | (rw [hy377]; with_reducible exact H) | (have H2_ := (Option.bind_some _ _).symm.trans H; rw [hy377]; with_reducible exact H2_) | (have H2_ := (Option.bind_some _ _).symm.trans H; with_reducible exact H2_) | with_reducible exact H | (rw [hy377]; exact H) | exact H
        have Ny377 := Aside0.mk hy377
        clear hy377
        have H' := Aside0.mk H
        clear H
        obtain ⟨ad376, e376, hx376_0, p376, q376⟩ := atI (Kd.R_reads' HO_95.out).2.2 x97_2
        cases e376
        go_wp2_with (first | ((with_reducible refine gate_dst (N := 101) rfl ?_); (try (refine gate_guard (by rfl) ?_; dsimp only)); refine Kd.R_lit (Kd.int .u8) _ 26 ?hg (N := 101) ?hd (xs := ([16, 15, 21, 20, 17, 22] : List Int)) (inner := [.int .u8 16, .int .u8 15, .int .u8 21, .int .u8 20, .int .u8 17, .int .u8 22]) (ok := fun _ => True) (okp := fun _ => True) ?hr ?hp (fun _ hk => hk) trivial (Below.refl _ _) (Nat.le_refl _) (by simp) ?_; (case hd => rfl); (case hg => rfl); (case hr => first | (go_simp; done) | (go_simp; rfl)); (case hp => exact (Reps.one (show Kd.M (Kd.int .u8) _ _ _ 16 [.int .u8 16] from rfl) (Reps.one (show Kd.M (Kd.int .u8) _ _ _ 15 [.int .u8 15] from rfl) (Reps.one (show Kd.M (Kd.int .u8) _ _ _ 21 [.int .u8 21] from rfl) (Reps.one (show Kd.M (Kd.int .u8) _ _ _ 20 [.int .u8 20] from rfl) (Reps.one (show Kd.M (Kd.int .u8) _ _ _ 17 [.int .u8 17] from rfl) (Reps.one (show Kd.M (Kd.int .u8) _ _ _ 22 [.int .u8 22] from rfl) (Reps.none _ _)))))))); intro v378 w38 ho39 hb hg_ hnew_; clear hg_ hnew_; (first | rw [← Ny377.out] at ho39 | (simp only [Int.reduceToNat] at ho39; rw [← Ny377.out] at ho39)); have n0_ := Aside0.mk (Kd.R_below (mvR HO_95) hb); have n1_ := Aside0.mk (Kd.R_lower ho39 (below_size (mvB HB))); have n2_ := Aside0.mk (below_step (mvB HB) hb); clear HO_95; clear HB; have HO_95 := n0_; have HO379 := n1_; have HB := n2_; clear n0_ n1_ n2_; clear hb ho39; obtain ⟨Ao40, co40, eo40⟩ := Kd.R_slice HO379.out; subst eo40))
        go_loopg [103] k2 (fun kq v103 w' => ∃ (x103_3 : Int), v103 = .int .i64 x103_3 ∧ Aside0 (selvedgelaw14_ExplicitKnown.l1 kq x13_3 (rd y373 x97_2) y373 (y373.length : Int) x97_2 y377 (y377.length : Int) x103_3 = some r) ∧ Aside0 (kq ≤ k2) ∧ Aside0 (Kd.R (Kd.int .i64) 3 w' w.heap.size (fun _ => True) (.slice (some ad376) y373.length co34) y373) ∧ Aside0 (Kd.R (Kd.int .u8) 26 w' w.heap.size (fun _ => True) (.slice Ao40 y377.length co40) y377) ∧ Aside0 (Below w.heap.size w w'))
        case atStart => exact ⟨(0), (by first | rfl | (simp; done) | (simp [*]; done)), H', ⟨Nat.le_refl _⟩, ⟨mvR HO_95⟩, ⟨mvR HO379⟩, ⟨mvB HB⟩⟩
        case round =>
         clear H'
         try clear c1
         try clear c2
         try clear p2
         try clear hcv2
         try clear c3
         try clear p3
         try clear q3
         try clear hx3
         try clear hcv3
         try clear c9
         try clear c15
         try clear c17
         try clear c17b0
         try clear c17b1
         try clear c18
         try clear c18b0
         try clear c18b1
         try clear c19
         try clear c19b0
         try clear c19b1
         try clear c20
         try clear c20b0
         try clear c20b1
         try clear hcv21
         try clear hcv22
         try clear hcv23
         try clear hcv24
         try clear hcv25
         try clear hcv26
         try clear hcv27
         try clear hcv28
         try clear hcv29
         try clear hcv30
         try clear hcv31
         try clear c35
         try clear c35b0
         try clear c36
         try clear c36b0
         try clear c37
         try clear c37b0
         try clear p37
         try clear q37
         try clear hx37
         try clear hx376_0
         try clear p2
         try clear p376
         try clear q376
         obtain ⟨x103_3, rfl, HA, HK3, HO_95, HO_101, HB⟩ := hrel
         cases gk with
         | zero => exact absurd HA.out (by simp [selvedgelaw14_ExplicitKnown.l1])
         | succ k3 =>
          have H := HA.out
          clear HA
          simp only [selvedgelaw14_ExplicitKnown.l1] at H
          by_cases c41 : x103_3 < (y377.length : Int)
          ·rw [if_pos c41] at H
           have c41b0 : decide (x103_3 < (y377.length : Int)) = true := decide_eq_true c41
           clear c41
           by_cases c42 : 0 ≤ x103_3
           ·rw [if_pos c42] at H
            have c42b0 : decide (0 ≤ x103_3) = true := decide_eq_true c42
            clear c42
            by_cases c43 : x103_3 < (y377.length : Int)
            ·rw [if_pos c43] at H
             have c43b0 : decide (x103_3 < (y377.length : Int)) = true := decide_eq_true c43
             clear c43
             replace H := Option.bind_eq_some_iff.mp H
             obtain ⟨t381, A440, H⟩ := H
             replace H : ((selvedgelaw14_ExplicitLevels.f k3 t381 0).bind fun t384 => (if t384 = true then ((selvedgelaw14_ExplicitLevels.f k3 t381 1).bind fun t385 => (if t385 = true then ((selvedgelaw14_ExplicitBounds.f t381 0).bind fun t386 => (selvedgelaw14_ExplicitKnown.j3 k3 x13_3 (rd y373 x97_2) t381 y373 (y373.length : Int) x97_2 y377 (y377.length : Int) x103_3 (!t386))) else (none))) else (none))) = some r := H
             have A44 := Aside0.mk A440
             clear A440
             have HC45 := Aside0.mk H
             clear H
             obtain ⟨ad380, e380, hx380_0, p380, q380⟩ := atI (Kd.R_reads' HO_101.out).2.2 x103_3
             cases e380
             go_upto_region 12 with (first | ((with_reducible refine gate_callee (f := 20) rfl ?_); refine goesL_ (some 109) rfl rfl Try.func20 (by kernel_rfl) rfl #[.int .i64 (rd y373 x97_2), .int .u8 (rd y377 x103_3)] rfl (by (try simp only [List.map_toArray, List.map_cons, List.map_nil]); first | done | rfl | (simp only [List.length_drop, List.length_take]; rfl)) ?_; (with_reducible refine (selvedgelaw14_deep.calls k3 (rd y373 x97_2) (rd y377 x103_3) t381 _ A44.out).mono ?_); rintro e w46 ⟨v382, rfl, ho0, hb⟩; refine ⟨_, rfl, ?_⟩; have n0_ := Aside0.mk (Kd.R_below (mvR HO_95) hb); have n1_ := Aside0.mk (Kd.R_elder' (mvR HO_101) (Kd.R_base ho0) hb); have n2_ := Aside0.mk (Kd.R_lower (Kd.R_new' ho0 (Kd.R_lt (mvR HO_101))) (below_size (mvB HB))); have n3_ := Aside0.mk (below_step (mvB HB) hb); clear HO_95; clear HO_101; clear HB; have HO_95 := n0_; have HO_101 := n1_; have HO383 := n2_; have HB := n3_; clear n0_ n1_ n2_ n3_; (try clear hb); (try clear hb2); (try clear hk); (try clear hi); (try clear ho0)))
             (try simp only [Act.put, List.setIfInBounds_toArray, List.set_cons_zero, List.set_cons_succ])
             go_cut [122] (fun v122 wc => ∃ (kq : Nat) (x122_44 : Bool), v122 = .bool x122_44 ∧ Aside0 (selvedgelaw14_ExplicitKnown.j3 kq x13_3 (rd y373 x97_2) t381 y373 (y373.length : Int) x97_2 y377 (y377.length : Int) x103_3 x122_44 = some r) ∧ Aside0 (kq ≤ k3) ∧ Aside0 (Kd.R (Kd.int .u8) 26 wc w.heap.size (fun k_ => some k_ ≠ ((.slice (some ad380) y377.length co40) : Value).ownBlock) v382 t381) ∧ Aside0 (Kd.R (Kd.int .i64) 3 wc w.heap.size (fun _ => True) (.slice (some ad376) y373.length co34) y373) ∧ Aside0 (Kd.R (Kd.int .u8) 26 wc w.heap.size (fun k_ => some k_ ≠ (v382 : Value).ownBlock) (.slice (some ad380) y377.length co40) y377) ∧ Aside0 (Below w.heap.size w wc))
             case first =>
              have H := HC45.out
              clear HC45
              replace H := Option.bind_eq_some_iff.mp H
              obtain ⟨t384, A470, H⟩ := H
              replace H : (if t384 = true then ((selvedgelaw14_ExplicitLevels.f k3 t381 1).bind fun t385 => (if t385 = true then ((selvedgelaw14_ExplicitBounds.f t381 0).bind fun t386 => (selvedgelaw14_ExplicitKnown.j3 k3 x13_3 (rd y373 x97_2) t381 y373 (y373.length : Int) x97_2 y377 (y377.length : Int) x103_3 (!t386))) else (none))) else (none)) = some r := H
              have A47 := Aside0.mk A470
              clear A470
              by_cases c48 : t384 = true
              ·subst c48
               have H1 : ((selvedgelaw14_ExplicitLevels.f k3 t381 1).bind fun t385 => (if t385 = true then ((selvedgelaw14_ExplicitBounds.f t381 0).bind fun t386 => (selvedgelaw14_ExplicitKnown.j3 k3 x13_3 (rd y373 x97_2) t381 y373 (y373.length : Int) x97_2 y377 (y377.length : Int) x103_3 (!t386))) else (none))) = some r := by rw [if_pos rfl] at H; exact H
               clear H
               have H := H1
               clear H1
               replace H := Option.bind_eq_some_iff.mp H
               obtain ⟨t385, A490, H⟩ := H
               replace H : (if t385 = true then ((selvedgelaw14_ExplicitBounds.f t381 0).bind fun t386 => (selvedgelaw14_ExplicitKnown.j3 k3 x13_3 (rd y373 x97_2) t381 y373 (y373.length : Int) x97_2 y377 (y377.length : Int) x103_3 (!t386))) else (none)) = some r := H
               have A49 := Aside0.mk A490
               clear A490
               by_cases c50 : t385 = true
               ·subst c50
                have H1 : ((selvedgelaw14_ExplicitBounds.f t381 0).bind fun t386 => (selvedgelaw14_ExplicitKnown.j3 k3 x13_3 (rd y373 x97_2) t381 y373 (y373.length : Int) x97_2 y377 (y377.length : Int) x103_3 (!t386))) = some r := by rw [if_pos rfl] at H; exact H
                clear H
                have H := H1
                clear H1
                replace H := Option.bind_eq_some_iff.mp H
                obtain ⟨t386, A510, H⟩ := H
                replace H : (selvedgelaw14_ExplicitKnown.j3 k3 x13_3 (rd y373 x97_2) t381 y373 (y373.length : Int) x97_2 y377 (y377.length : Int) x103_3 (!t386)) = some r := H
                have A51 := Aside0.mk A510
                clear A510
                have H' := Aside0.mk H
                clear H
                obtain ⟨Ao52, co52, eo52⟩ := Kd.R_slice HO383.out
                subst eo52
                go_wp2_with (first | ((with_reducible refine gate_callee (f := 4) rfl ?_); refine goesL_ (some 111) rfl rfl Try.func4 (by kernel_rfl) rfl #[.slice Ao52 t381.length co52, .int .u8 0] rfl (by (try simp only [List.map_toArray, List.map_cons, List.map_nil]); first | done | rfl | (simp only [List.length_drop, List.length_take]; rfl)) ?_; (with_reducible refine (selvedgelaw14_ExplicitLevels.calls k3 _ _ t381 0 true _ ?side1 ?side2 A47.out).mono ?_); (case side1 => repeat (first | exact (Kd.R_reads' HO383.out).2.2 | (with_reducible refine Kd.C_alloc ?_ _) | (with_reducible refine Kd.C_drewN ?_ _) | (with_reducible refine Kd.C_drew ?_))); (case side2 => exact (Kd.R_reads' HO383.out).2.1); rintro e w53 ⟨rfl, hb⟩; refine ⟨_, rfl, ?_⟩; have n0_ := Aside0.mk (Kd.R_below (mvR HO_95) hb); have n1_ := Aside0.mk (Kd.R_below (mvR HO_101) hb); have n2_ := Aside0.mk (Kd.R_below (mvR HO383) hb); have n3_ := Aside0.mk (below_step (mvB HB) hb); clear HO_95; clear HO_101; clear HO383; clear HB; have HO_95 := n0_; have HO_101 := n1_; have HO383 := n2_; have HB := n3_; clear n0_ n1_ n2_ n3_; (try clear hb); (try clear hb2); (try clear hk); (try clear hi)) | (go_at_call 4; (with_reducible refine (selvedgelaw14_ExplicitLevels.calls k3 _ _ t381 1 true _ ?side1 ?side2 A49.out).mono ?_); (case side1 => repeat (first | exact (Kd.R_reads' HO383.out).2.2 | (with_reducible refine Kd.C_alloc ?_ _) | (with_reducible refine Kd.C_drewN ?_ _) | (with_reducible refine Kd.C_drew ?_))); (case side2 => exact (Kd.R_reads' HO383.out).2.1); rintro e w54 ⟨rfl, hb⟩; have n0_ := Aside0.mk (Kd.R_below (mvR HO_95) hb); have n1_ := Aside0.mk (Kd.R_below (mvR HO_101) hb); have n2_ := Aside0.mk (Kd.R_below (mvR HO383) hb); have n3_ := Aside0.mk (below_step (mvB HB) hb); clear HO_95; clear HO_101; clear HO383; clear HB; have HO_95 := n0_; have HO_101 := n1_; have HO383 := n2_; have HB := n3_; clear n0_ n1_ n2_ n3_; (try clear hb); (try clear hb2); (try clear hk); (try clear hi)) | (go_at_call 6; (with_reducible refine (selvedgelaw14_ExplicitBounds.calls _ _ t381 0 t386 _ ?side1 ?side2 A51.out).mono ?_); (case side1 => repeat (first | exact (Kd.R_reads' HO383.out).2.2 | (with_reducible refine Kd.C_alloc ?_ _) | (with_reducible refine Kd.C_drewN ?_ _) | (with_reducible refine Kd.C_drew ?_))); (case side2 => exact (Kd.R_reads' HO383.out).2.1); rintro e w55 ⟨rfl, hb⟩; have n0_ := Aside0.mk (Kd.R_below (mvR HO_95) hb); have n1_ := Aside0.mk (Kd.R_below (mvR HO_101) hb); have n2_ := Aside0.mk (Kd.R_below (mvR HO383) hb); have n3_ := Aside0.mk (below_step (mvB HB) hb); clear HO_95; clear HO_101; clear HO383; clear HB; have HO_95 := n0_; have HO_101 := n1_; have HO383 := n2_; have HB := n3_; clear n0_ n1_ n2_ n3_; (try clear hb); (try clear hb2); (try clear hk); (try clear hi)))
                go_meet
                case rel => exact ⟨_, (!t386), (by first | rfl | (simp; done) | (simp [*]; done)), H', ⟨by have := HJ3.out; have := HK2.out; have := HK3.out; first | omega | exact Nat.le_refl _⟩, ⟨by (with_reducible repeat (first | apply Kd.R_alloc | apply Kd.R_drewN | apply Kd.R_drew)); exact Kd.R_mono HO383.out (fun _ hk => hk.2)⟩, ⟨mvR HO_95⟩, ⟨by (with_reducible repeat (first | apply Kd.R_alloc | apply Kd.R_drewN | apply Kd.R_drew)); exact Kd.R_mono HO_101.out (fun _ hk => hk.2)⟩, ⟨mvB HB⟩⟩
               ·rw [if_neg c50] at H
                exact absurd H (by simp)
              ·rw [if_neg c48] at H
               exact absurd H (by simp)
             case rest =>
              clear HC45
              try clear c1
              try clear c2
              try clear p2
              try clear hcv2
              try clear c3
              try clear p3
              try clear q3
              try clear hx3
              try clear hcv3
              try clear c4
              try clear c5
              try clear c9
              try clear c15
              try clear c17
              try clear c17b0
              try clear c17b1
              try clear c18
              try clear c18b0
              try clear c18b1
              try clear c19
              try clear c19b0
              try clear c19b1
              try clear c20
              try clear c20b0
              try clear c20b1
              try clear hcv21
              try clear hcv22
              try clear hcv23
              try clear hcv24
              try clear hcv25
              try clear hcv26
              try clear hcv27
              try clear hcv28
              try clear hcv29
              try clear hcv30
              try clear hcv31
              try clear c35
              try clear c35b0
              try clear c36
              try clear c36b0
              try clear c37
              try clear c37b0
              try clear p37
              try clear q37
              try clear hx37
              try clear p38
              try clear q38
              try clear hx38
              try clear c41
              try clear c41b0
              try clear c42
              try clear c42b0
              try clear c43
              try clear c43b0
              try clear c48
              try clear c50
              try clear hx376_0
              try clear hx380_0
              try clear p2
              try clear p3
              try clear p37
              try clear p376
              try clear p380
              try clear q3
              try clear q37
              try clear q376
              try clear q380
              obtain ⟨kq, x122_44, rfl, HA, HJ44, HO_18, HO_95, HO_101, HB⟩ := hcut
              cases kq with
              | zero => exact absurd HA.out (by simp [selvedgelaw14_ExplicitKnown.j3])
              | succ kj44 =>
               have H := HA.out
               clear HA
               simp only [selvedgelaw14_ExplicitKnown.j3] at H
               by_cases c61 : x122_44 = true
               ·rw [if_pos c61] at H
                exact absurd H (by simp)
               ·replace c61 := Bool.eq_false_iff.mpr c61
                subst c61
                have H1 : ((some (([21, 2, 19, 23, 19, 14, 23, 19, 1, 11, 2, 16, 14] : List Int) : List Int)).bind fun y387 => (if t381.length + y387.length < 140737488355328 then ((some (t381 ++ y387 : List Int)).bind fun y390 => ((selvedgelaw14_ExplicitLevels.f kj44 y390 0).bind fun t393 => (if t393 = true then ((selvedgelaw14_ExplicitLevels.f kj44 y390 2).bind fun t394 => (if t394 = true then (selvedgelaw14_ExplicitKnown.l1 kj44 x13_3 (rd y373 x97_2) y373 (y373.length : Int) x97_2 y377 (y377.length : Int) (wrap64 (x103_3 + 1))) else (none))) else (none)))) else (none))) = some r := by rw [if_neg (show ¬ (false = true) by decide)] at H; exact H
                clear H
                have H := H1
                clear H1
                obtain ⟨y387, hy387⟩ : ∃ y_ : List Int, y_ = (([21, 2, 19, 23, 19, 14, 23, 19, 1, 11, 2, 16, 14] : List Int)) := ⟨_, rfl⟩
                replace H : (if t381.length + y387.length < 140737488355328 then ((some (t381 ++ y387 : List Int)).bind fun y390 => ((selvedgelaw14_ExplicitLevels.f kj44 y390 0).bind fun t393 => (if t393 = true then ((selvedgelaw14_ExplicitLevels.f kj44 y390 2).bind fun t394 => (if t394 = true then (selvedgelaw14_ExplicitKnown.l1 kj44 x13_3 (rd y373 x97_2) y373 (y373.length : Int) x97_2 y377 (y377.length : Int) (wrap64 (x103_3 + 1))) else (none))) else (none)))) else (none)) = some r := by first | (rw [hy387]; with_reducible exact H) | (have H2_ := (Option.bind_some _ _).symm.trans H; rw [hy387]; with_reducible exact H2_) | (have H2_ := (Option.bind_some _ _).symm.trans H; with_reducible exact H2_) | with_reducible exact H | (rw [hy387]; exact H) | exact H
                have Ny387 := Aside0.mk hy387
                clear hy387
                by_cases c62 : t381.length + y387.length < 140737488355328
                ·rw [if_pos c62] at H
                 have LMc62 := Aside0.mk c62
                 clear c62
                 obtain ⟨y390, hy390⟩ : ∃ y_ : List Int, y_ = (t381 ++ y387) := ⟨_, rfl⟩
                 replace H : ((selvedgelaw14_ExplicitLevels.f kj44 y390 0).bind fun t393 => (if t393 = true then ((selvedgelaw14_ExplicitLevels.f kj44 y390 2).bind fun t394 => (if t394 = true then (selvedgelaw14_ExplicitKnown.l1 kj44 x13_3 (rd y373 x97_2) y373 (y373.length : Int) x97_2 y377 (y377.length : Int) (wrap64 (x103_3 + 1))) else (none))) else (none))) = some r := by first | (rw [hy390]; with_reducible exact H) | (have H2_ := (Option.bind_some _ _).symm.trans H; rw [hy390]; with_reducible exact H2_) | (have H2_ := (Option.bind_some _ _).symm.trans H; with_reducible exact H2_) | with_reducible exact H | (rw [hy390]; exact H) | exact H
                 have Ny390 := Aside0.mk hy390
                 clear hy390
                 replace H := Option.bind_eq_some_iff.mp H
                 obtain ⟨t393, A630, H⟩ := H
                 replace H : (if t393 = true then ((selvedgelaw14_ExplicitLevels.f kj44 y390 2).bind fun t394 => (if t394 = true then (selvedgelaw14_ExplicitKnown.l1 kj44 x13_3 (rd y373 x97_2) y373 (y373.length : Int) x97_2 y377 (y377.length : Int) (wrap64 (x103_3 + 1))) else (none))) else (none)) = some r := H
                 have A63 := Aside0.mk A630
                 clear A630
                 by_cases c64 : t393 = true
                 ·subst c64
                  have H1 : ((selvedgelaw14_ExplicitLevels.f kj44 y390 2).bind fun t394 => (if t394 = true then (selvedgelaw14_ExplicitKnown.l1 kj44 x13_3 (rd y373 x97_2) y373 (y373.length : Int) x97_2 y377 (y377.length : Int) (wrap64 (x103_3 + 1))) else (none))) = some r := by rw [if_pos rfl] at H; exact H
                  clear H
                  have H := H1
                  clear H1
                  replace H := Option.bind_eq_some_iff.mp H
                  obtain ⟨t394, A650, H⟩ := H
                  replace H : (if t394 = true then (selvedgelaw14_ExplicitKnown.l1 kj44 x13_3 (rd y373 x97_2) y373 (y373.length : Int) x97_2 y377 (y377.length : Int) (wrap64 (x103_3 + 1))) else (none)) = some r := H
                  have A65 := Aside0.mk A650
                  clear A650
                  by_cases c66 : t394 = true
                  ·subst c66
                   have H1 : (selvedgelaw14_ExplicitKnown.l1 kj44 x13_3 (rd y373 x97_2) y373 (y373.length : Int) x97_2 y377 (y377.length : Int) (wrap64 (x103_3 + 1))) = some r := by rw [if_pos rfl] at H; exact H
                   clear H
                   have H := H1
                   clear H1
                   have H' := Aside0.mk H
                   clear H
                   go_wp2_with (first | ((with_reducible refine gate_dst (N := 124) rfl ?_); (try (refine gate_guard (by rfl) ?_; dsimp only)); refine Kd.R_lit (Kd.int .u8) _ 26 ?hg (N := 124) ?hd (xs := ([21, 2, 19, 23, 19, 14, 23, 19, 1, 11, 2, 16, 14] : List Int)) (inner := [.int .u8 21, .int .u8 2, .int .u8 19, .int .u8 23, .int .u8 19, .int .u8 14, .int .u8 23, .int .u8 19, .int .u8 1, .int .u8 11, .int .u8 2, .int .u8 16, .int .u8 14]) (ok := fun _ => True) (okp := fun _ => True) ?hr ?hp (fun _ hk => hk) trivial (Below.refl _ _) (Nat.le_refl _) (by simp) ?_; (case hd => rfl); (case hg => rfl); (case hr => first | (go_simp; done) | (go_simp; rfl)); (case hp => exact (Reps.one (show Kd.M (Kd.int .u8) _ _ _ 21 [.int .u8 21] from rfl) (Reps.one (show Kd.M (Kd.int .u8) _ _ _ 2 [.int .u8 2] from rfl) (Reps.one (show Kd.M (Kd.int .u8) _ _ _ 19 [.int .u8 19] from rfl) (Reps.one (show Kd.M (Kd.int .u8) _ _ _ 23 [.int .u8 23] from rfl) (Reps.one (show Kd.M (Kd.int .u8) _ _ _ 19 [.int .u8 19] from rfl) (Reps.one (show Kd.M (Kd.int .u8) _ _ _ 14 [.int .u8 14] from rfl) (Reps.one (show Kd.M (Kd.int .u8) _ _ _ 23 [.int .u8 23] from rfl) (Reps.one (show Kd.M (Kd.int .u8) _ _ _ 19 [.int .u8 19] from rfl) (Reps.one (show Kd.M (Kd.int .u8) _ _ _ 1 [.int .u8 1] from rfl) (Reps.one (show Kd.M (Kd.int .u8) _ _ _ 11 [.int .u8 11] from rfl) (Reps.one (show Kd.M (Kd.int .u8) _ _ _ 2 [.int .u8 2] from rfl) (Reps.one (show Kd.M (Kd.int .u8) _ _ _ 16 [.int .u8 16] from rfl) (Reps.one (show Kd.M (Kd.int .u8) _ _ _ 14 [.int .u8 14] from rfl) (Reps.none _ _))))))))))))))); intro v388 w67 ho68 hb hg_ hnew_; clear hg_ hnew_; (first | rw [← Ny387.out] at ho68 | (simp only [Int.reduceToNat] at ho68; rw [← Ny387.out] at ho68)); have n0_ := Aside0.mk (Kd.R_elder' (mvR HO_18) (Kd.R_base ho68) hb); have n1_ := Aside0.mk (Kd.R_below (mvR HO_95) hb); have n2_ := Aside0.mk (Kd.R_elder' (mvR HO_101) (Kd.R_base ho68) hb); have n3_ := Aside0.mk (Kd.R_lower (Kd.R_new' (Kd.R_new' ho68 (Kd.R_lt (mvR HO_18))) (Kd.R_lt (mvR HO_101))) (below_size (mvB HB))); have n4_ := Aside0.mk (below_step (mvB HB) hb); clear HO_18; clear HO_95; clear HO_101; clear HB; have HO_18 := n0_; have HO_95 := n1_; have HO_101 := n2_; have HO389 := n3_; have HB := n4_; clear n0_ n1_ n2_ n3_ n4_; clear hb ho68; obtain ⟨Ao70, co70, eo70⟩ := Kd.R_slice HO389.out; subst eo70) | ((with_reducible refine gate_builtin (b := .append) (xs := #[.tmp 123, .tmp 124]) rfl ?_); (try (refine gate_guard (by rfl) ?_; dsimp only)); at_builtin; refine Kd.R_append_rows (Kd.int .u8) (w0 := w) w.heap.size rfl (.tmp 123) (.tmp 124) 22 26 (.int .u8 0) 1 rfl Try.underlying22 info26 rfl (by decide) (by omega) v382 t381 y387 _ _ _ (fun k_ => some k_ ≠ (.slice (some ad380) y377.length co40 : Value).ownBlock ∧ some k_ ≠ (.slice Ao70 y387.length co70 : Value).ownBlock) (fun _ => False) rfl rfl ?aO ?aR (fun _ _ h => h) (fun _ h => h.elim) ?aF ?aB ?aS ?aL ?_; (case aR => repeat (first | exact (Kd.R_reads' HO389.out).2.2 | (with_reducible refine Kd.C_alloc ?_ _) | (with_reducible refine Kd.C_drewN ?_ _) | (with_reducible refine Kd.C_drew ?_))); (case aB => exact (mvB HB)); (case aF => exact (fun k_ hk => ⟨Kd.fresh' (Kd.R_lt (mvR HO_101)) k_ hk, Kd.fresh' (Kd.R_lt (mvR HO389)) k_ hk⟩)); (case aO => exact (mvR HO_18)); (case aS => exact (below_size (mvB HB))); (case aL => have := LMc62.out; omega); intro v391 w69 ho hb hg hat; rw [← Ny390.out] at ho; have n0_ := Aside0.mk (Kd.R_over' (mvR HO_95) (Kd.R_typed (mvR HO_18)) (by decide) hg); have n1_ := Aside0.mk (Kd.R_after (ok := (fun k_ => some k_ ≠ (.slice Ao70 y387.length co70 : Value).ownBlock)) (by (with_reducible repeat (first | apply Kd.R_alloc | apply Kd.R_drewN | apply Kd.R_drew)); exact Kd.R_mono HO_101.out (fun _ hk => ⟨hk.2, hk.1⟩)) hg hat); have n2_ := Aside0.mk (Kd.R_after (ok := (fun k_ => some k_ ≠ (.slice (some ad380) y377.length co40 : Value).ownBlock)) (by (with_reducible repeat (first | apply Kd.R_alloc | apply Kd.R_drewN | apply Kd.R_drew)); exact Kd.R_mono HO389.out (fun _ hk => ⟨hk.2, hk.1.2⟩)) hg hat); have n3_ := Aside0.mk (hb); have n4_ := Aside0.mk (ho); clear HO_95; clear HO_101; clear HO389; clear HB; clear HO_18; have HO_95 := n0_; have HO_101 := n1_; have HO389 := n2_; have HB := n3_; have HO392 := n4_; clear n0_ n1_ n2_ n3_ n4_; clear ho hb hg hat; obtain ⟨Ao71, co71, eo71⟩ := Kd.R_slice HO392.out; subst eo71) | ((with_reducible refine gate_callee (f := 4) rfl ?_); refine goesL_ (some 127) rfl rfl Try.func4 (by kernel_rfl) rfl #[.slice Ao71 y390.length co71, .int .u8 0] rfl (by (try simp only [List.map_toArray, List.map_cons, List.map_nil]); first | done | rfl | (simp only [List.length_drop, List.length_take]; rfl)) ?_; (with_reducible refine (selvedgelaw14_ExplicitLevels.calls kj44 _ _ y390 0 true _ ?side1 ?side2 A63.out).mono ?_); (case side1 => repeat (first | exact (Kd.R_reads' HO392.out).2.2 | (with_reducible refine Kd.C_alloc ?_ _) | (with_reducible refine Kd.C_drewN ?_ _) | (with_reducible refine Kd.C_drew ?_))); (case side2 => exact (Kd.R_reads' HO392.out).2.1); rintro e w72 ⟨rfl, hb⟩; refine ⟨_, rfl, ?_⟩; have n0_ := Aside0.mk (Kd.R_below (mvR HO_95) hb); have n1_ := Aside0.mk (Kd.R_below (mvR HO_101) hb); have n2_ := Aside0.mk (Kd.R_below (mvR HO389) hb); have n3_ := Aside0.mk (Kd.R_below (mvR HO392) hb); have n4_ := Aside0.mk (below_step (mvB HB) hb); clear HO_95; clear HO_101; clear HO389; clear HO392; clear HB; have HO_95 := n0_; have HO_101 := n1_; have HO389 := n2_; have HO392 := n3_; have HB := n4_; clear n0_ n1_ n2_ n3_ n4_; (try clear hb); (try clear hb2); (try clear hk); (try clear hi)) | (go_at_call 4; (with_reducible refine (selvedgelaw14_ExplicitLevels.calls kj44 _ _ y390 2 true _ ?side1 ?side2 A65.out).mono ?_); (case side1 => repeat (first | exact (Kd.R_reads' HO392.out).2.2 | (with_reducible refine Kd.C_alloc ?_ _) | (with_reducible refine Kd.C_drewN ?_ _) | (with_reducible refine Kd.C_drew ?_))); (case side2 => exact (Kd.R_reads' HO392.out).2.1); rintro e w73 ⟨rfl, hb⟩; have n0_ := Aside0.mk (Kd.R_below (mvR HO_95) hb); have n1_ := Aside0.mk (Kd.R_below (mvR HO_101) hb); have n2_ := Aside0.mk (Kd.R_below (mvR HO389) hb); have n3_ := Aside0.mk (Kd.R_below (mvR HO392) hb); have n4_ := Aside0.mk (below_step (mvB HB) hb); clear HO_95; clear HO_101; clear HO389; clear HO392; clear HB; have HO_95 := n0_; have HO_101 := n1_; have HO389 := n2_; have HO392 := n3_; have HB := n4_; clear n0_ n1_ n2_ n3_ n4_; (try clear hb); (try clear hb2); (try clear hk); (try clear hi)))
                   go_roundg kj44
                   case measure => have := HJ3.out; have := HK2.out; have := HK3.out; have := HJ44.out; omega
                   case rel => exact ⟨(wrap64 (x103_3 + 1)), (by first | rfl | (simp; done) | (simp [*]; done)), H', ⟨by have := HJ3.out; have := HK2.out; have := HK3.out; have := HJ44.out; omega⟩, ⟨mvR HO_95⟩, ⟨by (with_reducible repeat (first | apply Kd.R_alloc | apply Kd.R_drewN | apply Kd.R_drew)); exact Kd.R_mono HO_101.out (fun _ hk => trivial)⟩, ⟨mvB HB⟩⟩
                  ·rw [if_neg c66] at H
                   exact absurd H (by simp)
                 ·rw [if_neg c64] at H
                  exact absurd H (by simp)
                ·rw [if_neg c62] at H
                 exact absurd H (by simp)
            ·rw [if_neg c43] at H
             exact absurd H (by simp)
           ·rw [if_neg c42] at H
            exact absurd H (by simp)
          ·rw [if_neg c41] at H
           have c41b0 : decide (x103_3 < (y377.length : Int)) = false := decide_eq_false c41
           clear c41
           have H' := Aside0.mk H
           clear H
           go_wp2
           go_roundg k3
           case measure => have := HJ3.out; have := HK2.out; have := HK3.out; omega
           case rel => exact ⟨(wrap64 (x97_2 + 1)), (by first | rfl | (simp; done) | (simp [*]; done)), H', ⟨by have := HJ3.out; have := HK2.out; have := HK3.out; omega⟩, ⟨mvR HO_95⟩, ⟨mvB HB⟩⟩
       ·rw [if_neg c37] at H
        exact absurd H (by simp)
      ·rw [if_neg c36] at H
       exact absurd H (by simp)
     ·rw [if_neg c35] at H
      have c35b0 : decide (x97_2 < (y373.length : Int)) = false := decide_eq_false c35
      clear c35
      replace H := Option.bind_eq_some_iff.mp H
      obtain ⟨t395, A870, H⟩ := H
      replace H : ((explicit_Levels.f t395 0).bind fun bt398 => ((selvedgelaw14_deep.f k2 200 21).bind fun t406 => ((explicit_Levels.f t406 1).bind fun bt409 => ((explicit_Levels.f (([0] : List Int)) 0).bind fun bt420 => ((explicit_Levels.f (([24] : List Int)) 0).bind fun bt431 => ((explicit_Levels.f ([] : List Int) 3).bind fun bt439 => ((explicit_Levels.f ([] : List Int) 2).bind fun bt447 => ((selvedgelaw14_deep.f k2 65536 1).bind fun t455 => ((explicit_Levels.f t455 0).bind fun bt458 => ((selvedgelaw14_deep.f k2 65535 1).bind fun t466 => ((explicit_Levels.f t466 0).bind fun bt469 => (if 70 < (bt398.1.length : Int) then (if (rd bt398.1 70) = 125 then (if 200 < (bt409.1.length : Int) then (if (rd bt409.1 200) = 125 then (if bt420.2.2.2 = 2 then (if bt431.2.2.2 = 2 then (if bt439.2.2.2 = 2 then (if bt447.2.2.1 = 0 then (if bt447.2.2.2 = 0 then (if bt458.2.2.2 = 3 then (selvedgelaw14_ExplicitKnown.j4 k2 x13_3 (bt469.2.2.2 == 0)) else (none)) else (none)) else (none)) else (none)) else (none)) else (none)) else (none)) else (none)) else (none)) else (none))))))))))))) = some r := H
      have A87 := Aside0.mk A870
      clear A870
      replace H := Option.bind_eq_some_iff.mp H
      obtain ⟨⟨t398, t399, t400, t401⟩, A880, H⟩ := H
      replace H : ((selvedgelaw14_deep.f k2 200 21).bind fun t406 => ((explicit_Levels.f t406 1).bind fun bt409 => ((explicit_Levels.f (([0] : List Int)) 0).bind fun bt420 => ((explicit_Levels.f (([24] : List Int)) 0).bind fun bt431 => ((explicit_Levels.f ([] : List Int) 3).bind fun bt439 => ((explicit_Levels.f ([] : List Int) 2).bind fun bt447 => ((selvedgelaw14_deep.f k2 65536 1).bind fun t455 => ((explicit_Levels.f t455 0).bind fun bt458 => ((selvedgelaw14_deep.f k2 65535 1).bind fun t466 => ((explicit_Levels.f t466 0).bind fun bt469 => (if 70 < (t398.length : Int) then (if (rd t398 70) = 125 then (if 200 < (bt409.1.length : Int) then (if (rd bt409.1 200) = 125 then (if bt420.2.2.2 = 2 then (if bt431.2.2.2 = 2 then (if bt439.2.2.2 = 2 then (if bt447.2.2.1 = 0 then (if bt447.2.2.2 = 0 then (if bt458.2.2.2 = 3 then (selvedgelaw14_ExplicitKnown.j4 k2 x13_3 (bt469.2.2.2 == 0)) else (none)) else (none)) else (none)) else (none)) else (none)) else (none)) else (none)) else (none)) else (none)) else (none)))))))))))) = some r := H
      have A88 := Aside0.mk A880
      clear A880
      replace H := Option.bind_eq_some_iff.mp H
      obtain ⟨t406, A890, H⟩ := H
      replace H : ((explicit_Levels.f t406 1).bind fun bt409 => ((explicit_Levels.f (([0] : List Int)) 0).bind fun bt420 => ((explicit_Levels.f (([24] : List Int)) 0).bind fun bt431 => ((explicit_Levels.f ([] : List Int) 3).bind fun bt439 => ((explicit_Levels.f ([] : List Int) 2).bind fun bt447 => ((selvedgelaw14_deep.f k2 65536 1).bind fun t455 => ((explicit_Levels.f t455 0).bind fun bt458 => ((selvedgelaw14_deep.f k2 65535 1).bind fun t466 => ((explicit_Levels.f t466 0).bind fun bt469 => (if 70 < (t398.length : Int) then (if (rd t398 70) = 125 then (if 200 < (bt409.1.length : Int) then (if (rd bt409.1 200) = 125 then (if bt420.2.2.2 = 2 then (if bt431.2.2.2 = 2 then (if bt439.2.2.2 = 2 then (if bt447.2.2.1 = 0 then (if bt447.2.2.2 = 0 then (if bt458.2.2.2 = 3 then (selvedgelaw14_ExplicitKnown.j4 k2 x13_3 (bt469.2.2.2 == 0)) else (none)) else (none)) else (none)) else (none)) else (none)) else (none)) else (none)) else (none)) else (none)) else (none))))))))))) = some r := H
      have A89 := Aside0.mk A890
      clear A890
      replace H := Option.bind_eq_some_iff.mp H
      obtain ⟨⟨t409, t410, t411, t412⟩, A900, H⟩ := H
      replace H : ((explicit_Levels.f (([0] : List Int)) 0).bind fun bt420 => ((explicit_Levels.f (([24] : List Int)) 0).bind fun bt431 => ((explicit_Levels.f ([] : List Int) 3).bind fun bt439 => ((explicit_Levels.f ([] : List Int) 2).bind fun bt447 => ((selvedgelaw14_deep.f k2 65536 1).bind fun t455 => ((explicit_Levels.f t455 0).bind fun bt458 => ((selvedgelaw14_deep.f k2 65535 1).bind fun t466 => ((explicit_Levels.f t466 0).bind fun bt469 => (if 70 < (t398.length : Int) then (if (rd t398 70) = 125 then (if 200 < (t409.length : Int) then (if (rd t409 200) = 125 then (if bt420.2.2.2 = 2 then (if bt431.2.2.2 = 2 then (if bt439.2.2.2 = 2 then (if bt447.2.2.1 = 0 then (if bt447.2.2.2 = 0 then (if bt458.2.2.2 = 3 then (selvedgelaw14_ExplicitKnown.j4 k2 x13_3 (bt469.2.2.2 == 0)) else (none)) else (none)) else (none)) else (none)) else (none)) else (none)) else (none)) else (none)) else (none)) else (none)))))))))) = some r := H
      have A90 := Aside0.mk A900
      clear A900
      obtain ⟨y417, hy417⟩ : ∃ y_ : List Int, y_ = (([0] : List Int)) := ⟨_, rfl⟩
      replace H : ((explicit_Levels.f y417 0).bind fun bt420 => ((explicit_Levels.f (([24] : List Int)) 0).bind fun bt431 => ((explicit_Levels.f ([] : List Int) 3).bind fun bt439 => ((explicit_Levels.f ([] : List Int) 2).bind fun bt447 => ((selvedgelaw14_deep.f k2 65536 1).bind fun t455 => ((explicit_Levels.f t455 0).bind fun bt458 => ((selvedgelaw14_deep.f k2 65535 1).bind fun t466 => ((explicit_Levels.f t466 0).bind fun bt469 => (if 70 < (t398.length : Int) then (if (rd t398 70) = 125 then (if 200 < (t409.length : Int) then (if (rd t409 200) = 125 then (if bt420.2.2.2 = 2 then (if bt431.2.2.2 = 2 then (if bt439.2.2.2 = 2 then (if bt447.2.2.1 = 0 then (if bt447.2.2.2 = 0 then (if bt458.2.2.2 = 3 then (selvedgelaw14_ExplicitKnown.j4 k2 x13_3 (bt469.2.2.2 == 0)) else (none)) else (none)) else (none)) else (none)) else (none)) else (none)) else (none)) else (none)) else (none)) else (none)))))))))) = some r := by first | (rw [hy417]; with_reducible exact H) | (have H2_ := (Option.bind_some _ _).symm.trans H; rw [hy417]; with_reducible exact H2_) | (have H2_ := (Option.bind_some _ _).symm.trans H; with_reducible exact H2_) | with_reducible exact H | (rw [hy417]; exact H) | exact H
      have Ny417 := Aside0.mk hy417
      clear hy417
      replace H := Option.bind_eq_some_iff.mp H
      obtain ⟨⟨t420, t421, t422, t423⟩, A910, H⟩ := H
      replace H : ((explicit_Levels.f (([24] : List Int)) 0).bind fun bt431 => ((explicit_Levels.f ([] : List Int) 3).bind fun bt439 => ((explicit_Levels.f ([] : List Int) 2).bind fun bt447 => ((selvedgelaw14_deep.f k2 65536 1).bind fun t455 => ((explicit_Levels.f t455 0).bind fun bt458 => ((selvedgelaw14_deep.f k2 65535 1).bind fun t466 => ((explicit_Levels.f t466 0).bind fun bt469 => (if 70 < (t398.length : Int) then (if (rd t398 70) = 125 then (if 200 < (t409.length : Int) then (if (rd t409 200) = 125 then (if t423 = 2 then (if bt431.2.2.2 = 2 then (if bt439.2.2.2 = 2 then (if bt447.2.2.1 = 0 then (if bt447.2.2.2 = 0 then (if bt458.2.2.2 = 3 then (selvedgelaw14_ExplicitKnown.j4 k2 x13_3 (bt469.2.2.2 == 0)) else (none)) else (none)) else (none)) else (none)) else (none)) else (none)) else (none)) else (none)) else (none)) else (none))))))))) = some r := H
      have A91 := Aside0.mk A910
      clear A910
      obtain ⟨y428, hy428⟩ : ∃ y_ : List Int, y_ = (([24] : List Int)) := ⟨_, rfl⟩
      replace H : ((explicit_Levels.f y428 0).bind fun bt431 => ((explicit_Levels.f ([] : List Int) 3).bind fun bt439 => ((explicit_Levels.f ([] : List Int) 2).bind fun bt447 => ((selvedgelaw14_deep.f k2 65536 1).bind fun t455 => ((explicit_Levels.f t455 0).bind fun bt458 => ((selvedgelaw14_deep.f k2 65535 1).bind fun t466 => ((explicit_Levels.f t466 0).bind fun bt469 => (if 70 < (t398.length : Int) then (if (rd t398 70) = 125 then (if 200 < (t409.length : Int) then (if (rd t409 200) = 125 then (if t423 = 2 then (if bt431.2.2.2 = 2 then (if bt439.2.2.2 = 2 then (if bt447.2.2.1 = 0 then (if bt447.2.2.2 = 0 then (if bt458.2.2.2 = 3 then (selvedgelaw14_ExplicitKnown.j4 k2 x13_3 (bt469.2.2.2 == 0)) else (none)) else (none)) else (none)) else (none)) else (none)) else (none)) else (none)) else (none)) else (none)) else (none))))))))) = some r := by first | (rw [hy428]; with_reducible exact H) | (have H2_ := (Option.bind_some _ _).symm.trans H; rw [hy428]; with_reducible exact H2_) | (have H2_ := (Option.bind_some _ _).symm.trans H; with_reducible exact H2_) | with_reducible exact H | (rw [hy428]; exact H) | exact H
      have Ny428 := Aside0.mk hy428
      clear hy428
      replace H := Option.bind_eq_some_iff.mp H
      obtain ⟨⟨t431, t432, t433, t434⟩, A920, H⟩ := H
      replace H : ((explicit_Levels.f ([] : List Int) 3).bind fun bt439 => ((explicit_Levels.f ([] : List Int) 2).bind fun bt447 => ((selvedgelaw14_deep.f k2 65536 1).bind fun t455 => ((explicit_Levels.f t455 0).bind fun bt458 => ((selvedgelaw14_deep.f k2 65535 1).bind fun t466 => ((explicit_Levels.f t466 0).bind fun bt469 => (if 70 < (t398.length : Int) then (if (rd t398 70) = 125 then (if 200 < (t409.length : Int) then (if (rd t409 200) = 125 then (if t423 = 2 then (if t434 = 2 then (if bt439.2.2.2 = 2 then (if bt447.2.2.1 = 0 then (if bt447.2.2.2 = 0 then (if bt458.2.2.2 = 3 then (selvedgelaw14_ExplicitKnown.j4 k2 x13_3 (bt469.2.2.2 == 0)) else (none)) else (none)) else (none)) else (none)) else (none)) else (none)) else (none)) else (none)) else (none)) else (none)))))))) = some r := H
      have A92 := Aside0.mk A920
      clear A920
      replace H := Option.bind_eq_some_iff.mp H
      obtain ⟨⟨t439, t440, t441, t442⟩, A930, H⟩ := H
      replace H : ((explicit_Levels.f ([] : List Int) 2).bind fun bt447 => ((selvedgelaw14_deep.f k2 65536 1).bind fun t455 => ((explicit_Levels.f t455 0).bind fun bt458 => ((selvedgelaw14_deep.f k2 65535 1).bind fun t466 => ((explicit_Levels.f t466 0).bind fun bt469 => (if 70 < (t398.length : Int) then (if (rd t398 70) = 125 then (if 200 < (t409.length : Int) then (if (rd t409 200) = 125 then (if t423 = 2 then (if t434 = 2 then (if t442 = 2 then (if bt447.2.2.1 = 0 then (if bt447.2.2.2 = 0 then (if bt458.2.2.2 = 3 then (selvedgelaw14_ExplicitKnown.j4 k2 x13_3 (bt469.2.2.2 == 0)) else (none)) else (none)) else (none)) else (none)) else (none)) else (none)) else (none)) else (none)) else (none)) else (none))))))) = some r := H
      have A93 := Aside0.mk A930
      clear A930
      replace H := Option.bind_eq_some_iff.mp H
      obtain ⟨⟨t447, t448, t449, t450⟩, A940, H⟩ := H
      replace H : ((selvedgelaw14_deep.f k2 65536 1).bind fun t455 => ((explicit_Levels.f t455 0).bind fun bt458 => ((selvedgelaw14_deep.f k2 65535 1).bind fun t466 => ((explicit_Levels.f t466 0).bind fun bt469 => (if 70 < (t398.length : Int) then (if (rd t398 70) = 125 then (if 200 < (t409.length : Int) then (if (rd t409 200) = 125 then (if t423 = 2 then (if t434 = 2 then (if t442 = 2 then (if t449 = 0 then (if t450 = 0 then (if bt458.2.2.2 = 3 then (selvedgelaw14_ExplicitKnown.j4 k2 x13_3 (bt469.2.2.2 == 0)) else (none)) else (none)) else (none)) else (none)) else (none)) else (none)) else (none)) else (none)) else (none)) else (none)))))) = some r := H
      have A94 := Aside0.mk A940
      clear A940
      replace H := Option.bind_eq_some_iff.mp H
      obtain ⟨t455, A950, H⟩ := H
      replace H : ((explicit_Levels.f t455 0).bind fun bt458 => ((selvedgelaw14_deep.f k2 65535 1).bind fun t466 => ((explicit_Levels.f t466 0).bind fun bt469 => (if 70 < (t398.length : Int) then (if (rd t398 70) = 125 then (if 200 < (t409.length : Int) then (if (rd t409 200) = 125 then (if t423 = 2 then (if t434 = 2 then (if t442 = 2 then (if t449 = 0 then (if t450 = 0 then (if bt458.2.2.2 = 3 then (selvedgelaw14_ExplicitKnown.j4 k2 x13_3 (bt469.2.2.2 == 0)) else (none)) else (none)) else (none)) else (none)) else (none)) else (none)) else (none)) else (none)) else (none)) else (none))))) = some r := H
      have A95 := Aside0.mk A950
      clear A950
      replace H := Option.bind_eq_some_iff.mp H
      obtain ⟨⟨t458, t459, t460, t461⟩, A960, H⟩ := H
      replace H : ((selvedgelaw14_deep.f k2 65535 1).bind fun t466 => ((explicit_Levels.f t466 0).bind fun bt469 => (if 70 < (t398.length : Int) then (if (rd t398 70) = 125 then (if 200 < (t409.length : Int) then (if (rd t409 200) = 125 then (if t423 = 2 then (if t434 = 2 then (if t442 = 2 then (if t449 = 0 then (if t450 = 0 then (if t461 = 3 then (selvedgelaw14_ExplicitKnown.j4 k2 x13_3 (bt469.2.2.2 == 0)) else (none)) else (none)) else (none)) else (none)) else (none)) else (none)) else (none)) else (none)) else (none)) else (none)))) = some r := H
      have A96 := Aside0.mk A960
      clear A960
      replace H := Option.bind_eq_some_iff.mp H
      obtain ⟨t466, A970, H⟩ := H
      replace H : ((explicit_Levels.f t466 0).bind fun bt469 => (if 70 < (t398.length : Int) then (if (rd t398 70) = 125 then (if 200 < (t409.length : Int) then (if (rd t409 200) = 125 then (if t423 = 2 then (if t434 = 2 then (if t442 = 2 then (if t449 = 0 then (if t450 = 0 then (if t461 = 3 then (selvedgelaw14_ExplicitKnown.j4 k2 x13_3 (bt469.2.2.2 == 0)) else (none)) else (none)) else (none)) else (none)) else (none)) else (none)) else (none)) else (none)) else (none)) else (none))) = some r := H
      have A97 := Aside0.mk A970
      clear A970
      replace H := Option.bind_eq_some_iff.mp H
      obtain ⟨⟨t469, t470, t471, t472⟩, A980, H⟩ := H
      replace H : (if 70 < (t398.length : Int) then (if (rd t398 70) = 125 then (if 200 < (t409.length : Int) then (if (rd t409 200) = 125 then (if t423 = 2 then (if t434 = 2 then (if t442 = 2 then (if t449 = 0 then (if t450 = 0 then (if t461 = 3 then (selvedgelaw14_ExplicitKnown.j4 k2 x13_3 (t472 == 0)) else (none)) else (none)) else (none)) else (none)) else (none)) else (none)) else (none)) else (none)) else (none)) else (none)) = some r := H
      have A98 := Aside0.mk A980
      clear A980
      have HC99 := Aside0.mk H
      clear H
      go_upto_region 27 with (first | ((with_reducible refine gate_callee (f := 20) rfl ?_); refine goesL_ (some 137) rfl rfl Try.func20 (by kernel_rfl) rfl #[.int .i64 70, .int .u8 16] rfl (by (try simp only [List.map_toArray, List.map_cons, List.map_nil]); first | done | rfl | (simp only [List.length_drop, List.length_take]; rfl)) ?_; (with_reducible refine (selvedgelaw14_deep.calls k2 70 16 t395 _ A87.out).mono ?_); rintro e w100 ⟨v396, rfl, ho0, hb⟩; refine ⟨_, rfl, ?_⟩; have n0_ := Aside0.mk (Kd.R_below (mvR HO_95) hb); have n1_ := Aside0.mk (Kd.R_lower ho0 (below_size (mvB HB))); have n2_ := Aside0.mk (below_step (mvB HB) hb); clear HO_95; clear HB; have HO_95 := n0_; have HO397 := n1_; have HB := n2_; clear n0_ n1_ n2_; (try clear hb); (try clear hb2); (try clear hk); (try clear hi); (try clear ho0); obtain ⟨Ao101, co101, eo101⟩ := Kd.R_slice HO397.out; subst eo101) | ((with_reducible refine gate_callee (f := 15) rfl ?_); refine goesL_ (some 138) rfl rfl Try.func15 (by kernel_rfl) rfl #[.slice Ao101 t395.length co101, .int .u8 0] rfl (by (try simp only [List.map_toArray, List.map_cons, List.map_nil]); first | done | rfl | (simp only [List.length_drop, List.length_take]; rfl)) ?_; (with_reducible refine (explicit_Levels.calls _ _ t395 0 t398 t399 t400 t401 _ ?side1 ?side2 A88.out).mono ?_); (case side1 => repeat (first | exact (Kd.R_reads' HO397.out).2.2 | (with_reducible refine Kd.C_alloc ?_ _) | (with_reducible refine Kd.C_drewN ?_ _) | (with_reducible refine Kd.C_drew ?_))); (case side2 => exact (Kd.R_reads' HO397.out).2.1); rintro e w102 ⟨v402, v404, rfl, ho0, ho1, hb⟩; refine ⟨_, rfl, ?_⟩; have n0_ := Aside0.mk (Kd.R_below (mvR HO_95) hb); have n1_ := Aside0.mk (Kd.R_elder' (mvR HO397) (Kd.R_base ho1) hb); have n2_ := Aside0.mk (Kd.R_lower ho0 (below_size (mvB HB))); have n3_ := Aside0.mk (Kd.R_lower (Kd.R_new' ho1 (Kd.R_lt (mvR HO397))) (below_size (mvB HB))); have n4_ := Aside0.mk (below_step (mvB HB) hb); clear HO_95; clear HO397; clear HB; have HO_95 := n0_; have HO397 := n1_; have HO403 := n2_; have HO405 := n3_; have HB := n4_; clear n0_ n1_ n2_ n3_ n4_; (try clear hb); (try clear hb2); (try clear hk); (try clear hi); (try clear ho0); (try clear ho1)) | ((with_reducible refine gate_callee (f := 20) rfl ?_); refine goesL_ (some 144) rfl rfl Try.func20 (by kernel_rfl) rfl #[.int .i64 200, .int .u8 21] rfl (by (try simp only [List.map_toArray, List.map_cons, List.map_nil]); first | done | rfl | (simp only [List.length_drop, List.length_take]; rfl)) ?_; (with_reducible refine (selvedgelaw14_deep.calls k2 200 21 t406 _ A89.out).mono ?_); rintro e w103 ⟨v407, rfl, ho0, hb⟩; refine ⟨_, rfl, ?_⟩; have n0_ := Aside0.mk (Kd.R_below (mvR HO_95) hb); have n1_ := Aside0.mk (Kd.R_elder' (mvR HO397) (Kd.R_base ho0) hb); have n2_ := Aside0.mk (Kd.R_below (mvR HO403) hb); have n3_ := Aside0.mk (Kd.R_elder' (mvR HO405) (Kd.R_base ho0) hb); have n4_ := Aside0.mk (Kd.R_lower (Kd.R_new' (Kd.R_new' ho0 (Kd.R_lt (mvR HO397))) (Kd.R_lt (mvR HO405))) (below_size (mvB HB))); have n5_ := Aside0.mk (below_step (mvB HB) hb); clear HO_95; clear HO397; clear HO403; clear HO405; clear HB; have HO_95 := n0_; have HO397 := n1_; have HO403 := n2_; have HO405 := n3_; have HO408 := n4_; have HB := n5_; clear n0_ n1_ n2_ n3_ n4_ n5_; (try clear hb); (try clear hb2); (try clear hk); (try clear hi); (try clear ho0); obtain ⟨Ao104, co104, eo104⟩ := Kd.R_slice HO408.out; subst eo104) | ((with_reducible refine gate_callee (f := 15) rfl ?_); refine goesL_ (some 145) rfl rfl Try.func15 (by kernel_rfl) rfl #[.slice Ao104 t406.length co104, .int .u8 1] rfl (by (try simp only [List.map_toArray, List.map_cons, List.map_nil]); first | done | rfl | (simp only [List.length_drop, List.length_take]; rfl)) ?_; (with_reducible refine (explicit_Levels.calls _ _ t406 1 t409 t410 t411 t412 _ ?side1 ?side2 A90.out).mono ?_); (case side1 => repeat (first | exact (Kd.R_reads' HO408.out).2.2 | (with_reducible refine Kd.C_alloc ?_ _) | (with_reducible refine Kd.C_drewN ?_ _) | (with_reducible refine Kd.C_drew ?_))); (case side2 => exact (Kd.R_reads' HO408.out).2.1); rintro e w105 ⟨v413, v415, rfl, ho0, ho1, hb⟩; refine ⟨_, rfl, ?_⟩; have n0_ := Aside0.mk (Kd.R_below (mvR HO_95) hb); have n1_ := Aside0.mk (Kd.R_elder' (mvR HO397) (Kd.R_base ho1) hb); have n2_ := Aside0.mk (Kd.R_elder' (mvR HO403) (Kd.R_base ho0) hb); have n3_ := Aside0.mk (Kd.R_elder' (mvR HO405) (Kd.R_base ho1) hb); have n4_ := Aside0.mk (Kd.R_elder' (mvR HO408) (Kd.R_base ho1) hb); have n5_ := Aside0.mk (Kd.R_lower (Kd.R_new' ho0 (Kd.R_lt (mvR HO403))) (below_size (mvB HB))); have n6_ := Aside0.mk (Kd.R_lower (Kd.R_new' (Kd.R_new' (Kd.R_new' ho1 (Kd.R_lt (mvR HO397))) (Kd.R_lt (mvR HO405))) (Kd.R_lt (mvR HO408))) (below_size (mvB HB))); have n7_ := Aside0.mk (below_step (mvB HB) hb); clear HO_95; clear HO397; clear HO403; clear HO405; clear HO408; clear HB; have HO_95 := n0_; have HO397 := n1_; have HO403 := n2_; have HO405 := n3_; have HO408 := n4_; have HO414 := n5_; have HO416 := n6_; have HB := n7_; clear n0_ n1_ n2_ n3_ n4_ n5_ n6_ n7_; (try clear hb); (try clear hb2); (try clear hk); (try clear hi); (try clear ho0); (try clear ho1)) | ((with_reducible refine gate_dst (N := 151) rfl ?_); (try (refine gate_guard (by rfl) ?_; dsimp only)); refine Kd.R_lit (Kd.int .u8) _ 26 ?hg (N := 151) ?hd (xs := ([0] : List Int)) (inner := [.int .u8 0]) (ok := fun _ => True) (okp := fun _ => True) ?hr ?hp (fun _ hk => hk) trivial (Below.refl _ _) (Nat.le_refl _) (by simp) ?_; (case hd => rfl); (case hg => rfl); (case hr => first | (go_simp; done) | (go_simp; rfl)); (case hp => exact (Reps.one (show Kd.M (Kd.int .u8) _ _ _ 0 [.int .u8 0] from rfl) (Reps.none _ _))); intro v418 w106 ho107 hb hg_ hnew_; clear hg_ hnew_; (first | rw [← Ny417.out] at ho107 | (simp only [Int.reduceToNat] at ho107; rw [← Ny417.out] at ho107)); have n0_ := Aside0.mk (Kd.R_below (mvR HO_95) hb); have n1_ := Aside0.mk (Kd.R_elder' (mvR HO397) (Kd.R_base ho107) hb); have n2_ := Aside0.mk (Kd.R_below (mvR HO403) hb); have n3_ := Aside0.mk (Kd.R_elder' (mvR HO405) (Kd.R_base ho107) hb); have n4_ := Aside0.mk (Kd.R_elder' (mvR HO408) (Kd.R_base ho107) hb); have n5_ := Aside0.mk (Kd.R_below (mvR HO414) hb); have n6_ := Aside0.mk (Kd.R_elder' (mvR HO416) (Kd.R_base ho107) hb); have n7_ := Aside0.mk (Kd.R_lower (Kd.R_new' (Kd.R_new' (Kd.R_new' (Kd.R_new' ho107 (Kd.R_lt (mvR HO397))) (Kd.R_lt (mvR HO405))) (Kd.R_lt (mvR HO408))) (Kd.R_lt (mvR HO416))) (below_size (mvB HB))); have n8_ := Aside0.mk (below_step (mvB HB) hb); clear HO_95; clear HO397; clear HO403; clear HO405; clear HO408; clear HO414; clear HO416; clear HB; have HO_95 := n0_; have HO397 := n1_; have HO403 := n2_; have HO405 := n3_; have HO408 := n4_; have HO414 := n5_; have HO416 := n6_; have HO419 := n7_; have HB := n8_; clear n0_ n1_ n2_ n3_ n4_ n5_ n6_ n7_ n8_; clear hb ho107; obtain ⟨Ao108, co108, eo108⟩ := Kd.R_slice HO419.out; subst eo108) | ((with_reducible refine gate_callee (f := 15) rfl ?_); refine goesL_ (some 152) rfl rfl Try.func15 (by kernel_rfl) rfl #[.slice Ao108 y417.length co108, .int .u8 0] rfl (by (try simp only [List.map_toArray, List.map_cons, List.map_nil]); first | done | rfl | (simp only [List.length_drop, List.length_take]; rfl)) ?_; (with_reducible refine (explicit_Levels.calls _ _ y417 0 t420 t421 t422 t423 _ ?side1 ?side2 A91.out).mono ?_); (case side1 => repeat (first | exact (Kd.R_reads' HO419.out).2.2 | (with_reducible refine Kd.C_alloc ?_ _) | (with_reducible refine Kd.C_drewN ?_ _) | (with_reducible refine Kd.C_drew ?_))); (case side2 => exact (Kd.R_reads' HO419.out).2.1); rintro e w109 ⟨v424, v426, rfl, ho0, ho1, hb⟩; refine ⟨_, rfl, ?_⟩; have n0_ := Aside0.mk (Kd.R_below (mvR HO_95) hb); have n1_ := Aside0.mk (Kd.R_elder' (mvR HO397) (Kd.R_base ho1) hb); have n2_ := Aside0.mk (Kd.R_elder' (mvR HO403) (Kd.R_base ho0) hb); have n3_ := Aside0.mk (Kd.R_elder' (mvR HO405) (Kd.R_base ho1) hb); have n4_ := Aside0.mk (Kd.R_elder' (mvR HO408) (Kd.R_base ho1) hb); have n5_ := Aside0.mk (Kd.R_elder' (mvR HO414) (Kd.R_base ho0) hb); have n6_ := Aside0.mk (Kd.R_elder' (mvR HO416) (Kd.R_base ho1) hb); have n7_ := Aside0.mk (Kd.R_elder' (mvR HO419) (Kd.R_base ho1) hb); have n8_ := Aside0.mk (Kd.R_lower (Kd.R_new' (Kd.R_new' ho0 (Kd.R_lt (mvR HO403))) (Kd.R_lt (mvR HO414))) (below_size (mvB HB))); have n9_ := Aside0.mk (Kd.R_lower (Kd.R_new' (Kd.R_new' (Kd.R_new' (Kd.R_new' (Kd.R_new' ho1 (Kd.R_lt (mvR HO397))) (Kd.R_lt (mvR HO405))) (Kd.R_lt (mvR HO408))) (Kd.R_lt (mvR HO416))) (Kd.R_lt (mvR HO419))) (below_size (mvB HB))); have n10_ := Aside0.mk (below_step (mvB HB) hb); clear HO_95; clear HO397; clear HO403; clear HO405; clear HO408; clear HO414; clear HO416; clear HO419; clear HB; have HO_95 := n0_; have HO397 := n1_; have HO403 := n2_; have HO405 := n3_; have HO408 := n4_; have HO414 := n5_; have HO416 := n6_; have HO419 := n7_; have HO425 := n8_; have HO427 := n9_; have HB := n10_; clear n0_ n1_ n2_ n3_ n4_ n5_ n6_ n7_ n8_ n9_ n10_; (try clear hb); (try clear hb2); (try clear hk); (try clear hi); (try clear ho0); (try clear ho1)) | ((with_reducible refine gate_dst (N := 158) rfl ?_); (try (refine gate_guard (by rfl) ?_; dsimp only)); refine Kd.R_lit (Kd.int .u8) _ 26 ?hg (N := 158) ?hd (xs := ([24] : List Int)) (inner := [.int .u8 24]) (ok := fun _ => True) (okp := fun _ => True) ?hr ?hp (fun _ hk => hk) trivial (Below.refl _ _) (Nat.le_refl _) (by simp) ?_; (case hd => rfl); (case hg => rfl); (case hr => first | (go_simp; done) | (go_simp; rfl)); (case hp => exact (Reps.one (show Kd.M (Kd.int .u8) _ _ _ 24 [.int .u8 24] from rfl) (Reps.none _ _))); intro v429 w110 ho111 hb hg_ hnew_; clear hg_ hnew_; (first | rw [← Ny428.out] at ho111 | (simp only [Int.reduceToNat] at ho111; rw [← Ny428.out] at ho111)); have n0_ := Aside0.mk (Kd.R_below (mvR HO_95) hb); have n1_ := Aside0.mk (Kd.R_elder' (mvR HO397) (Kd.R_base ho111) hb); have n2_ := Aside0.mk (Kd.R_below (mvR HO403) hb); have n3_ := Aside0.mk (Kd.R_elder' (mvR HO405) (Kd.R_base ho111) hb); have n4_ := Aside0.mk (Kd.R_elder' (mvR HO408) (Kd.R_base ho111) hb); have n5_ := Aside0.mk (Kd.R_below (mvR HO414) hb); have n6_ := Aside0.mk (Kd.R_elder' (mvR HO416) (Kd.R_base ho111) hb); have n7_ := Aside0.mk (Kd.R_elder' (mvR HO419) (Kd.R_base ho111) hb); have n8_ := Aside0.mk (Kd.R_below (mvR HO425) hb); have n9_ := Aside0.mk (Kd.R_elder' (mvR HO427) (Kd.R_base ho111) hb); have n10_ := Aside0.mk (Kd.R_lower (Kd.R_new' (Kd.R_new' (Kd.R_new' (Kd.R_new' (Kd.R_new' (Kd.R_new' ho111 (Kd.R_lt (mvR HO397))) (Kd.R_lt (mvR HO405))) (Kd.R_lt (mvR HO408))) (Kd.R_lt (mvR HO416))) (Kd.R_lt (mvR HO419))) (Kd.R_lt (mvR HO427))) (below_size (mvB HB))); have n11_ := Aside0.mk (below_step (mvB HB) hb); clear HO_95; clear HO397; clear HO403; clear HO405; clear HO408; clear HO414; clear HO416; clear HO419; clear HO425; clear HO427; clear HB; have HO_95 := n0_; have HO397 := n1_; have HO403 := n2_; have HO405 := n3_; have HO408 := n4_; have HO414 := n5_; have HO416 := n6_; have HO419 := n7_; have HO425 := n8_; have HO427 := n9_; have HO430 := n10_; have HB := n11_; clear n0_ n1_ n2_ n3_ n4_ n5_ n6_ n7_ n8_ n9_ n10_ n11_; clear hb ho111; obtain ⟨Ao112, co112, eo112⟩ := Kd.R_slice HO430.out; subst eo112) | ((with_reducible refine gate_callee (f := 15) rfl ?_); refine goesL_ (some 159) rfl rfl Try.func15 (by kernel_rfl) rfl #[.slice Ao112 y428.length co112, .int .u8 0] rfl (by (try simp only [List.map_toArray, List.map_cons, List.map_nil]); first | done | rfl | (simp only [List.length_drop, List.length_take]; rfl)) ?_; (with_reducible refine (explicit_Levels.calls _ _ y428 0 t431 t432 t433 t434 _ ?side1 ?side2 A92.out).mono ?_); (case side1 => repeat (first | exact (Kd.R_reads' HO430.out).2.2 | (with_reducible refine Kd.C_alloc ?_ _) | (with_reducible refine Kd.C_drewN ?_ _) | (with_reducible refine Kd.C_drew ?_))); (case side2 => exact (Kd.R_reads' HO430.out).2.1); rintro e w113 ⟨v435, v437, rfl, ho0, ho1, hb⟩; refine ⟨_, rfl, ?_⟩; have n0_ := Aside0.mk (Kd.R_below (mvR HO_95) hb); have n1_ := Aside0.mk (Kd.R_elder' (mvR HO397) (Kd.R_base ho1) hb); have n2_ := Aside0.mk (Kd.R_elder' (mvR HO403) (Kd.R_base ho0) hb); have n3_ := Aside0.mk (Kd.R_elder' (mvR HO405) (Kd.R_base ho1) hb); have n4_ := Aside0.mk (Kd.R_elder' (mvR HO408) (Kd.R_base ho1) hb); have n5_ := Aside0.mk (Kd.R_elder' (mvR HO414) (Kd.R_base ho0) hb); have n6_ := Aside0.mk (Kd.R_elder' (mvR HO416) (Kd.R_base ho1) hb); have n7_ := Aside0.mk (Kd.R_elder' (mvR HO419) (Kd.R_base ho1) hb); have n8_ := Aside0.mk (Kd.R_elder' (mvR HO425) (Kd.R_base ho0) hb); have n9_ := Aside0.mk (Kd.R_elder' (mvR HO427) (Kd.R_base ho1) hb); have n10_ := Aside0.mk (Kd.R_elder' (mvR HO430) (Kd.R_base ho1) hb); have n11_ := Aside0.mk (Kd.R_lower (Kd.R_new' (Kd.R_new' (Kd.R_new' ho0 (Kd.R_lt (mvR HO403))) (Kd.R_lt (mvR HO414))) (Kd.R_lt (mvR HO425))) (below_size (mvB HB))); have n12_ := Aside0.mk (Kd.R_lower (Kd.R_new' (Kd.R_new' (Kd.R_new' (Kd.R_new' (Kd.R_new' (Kd.R_new' (Kd.R_new' ho1 (Kd.R_lt (mvR HO397))) (Kd.R_lt (mvR HO405))) (Kd.R_lt (mvR HO408))) (Kd.R_lt (mvR HO416))) (Kd.R_lt (mvR HO419))) (Kd.R_lt (mvR HO427))) (Kd.R_lt (mvR HO430))) (below_size (mvB HB))); have n13_ := Aside0.mk (below_step (mvB HB) hb); clear HO_95; clear HO397; clear HO403; clear HO405; clear HO408; clear HO414; clear HO416; clear HO419; clear HO425; clear HO427; clear HO430; clear HB; have HO_95 := n0_; have HO397 := n1_; have HO403 := n2_; have HO405 := n3_; have HO408 := n4_; have HO414 := n5_; have HO416 := n6_; have HO419 := n7_; have HO425 := n8_; have HO427 := n9_; have HO430 := n10_; have HO436 := n11_; have HO438 := n12_; have HB := n13_; clear n0_ n1_ n2_ n3_ n4_ n5_ n6_ n7_ n8_ n9_ n10_ n11_ n12_ n13_; (try clear hb); (try clear hb2); (try clear hk); (try clear hi); (try clear ho0); (try clear ho1)) | ((with_reducible refine gate_callee (f := 15) rfl ?_); refine goesL_ (some 165) rfl rfl Try.func15 (by kernel_rfl) rfl #[.slice none 0 0, .int .u8 3] rfl (by (try simp only [List.map_toArray, List.map_cons, List.map_nil]); first | done | rfl | (simp only [List.length_drop, List.length_take]; rfl)) ?_; (refine (explicit_Levels.calls _ _ ([] : List Int) 3 t439 t440 t441 t442 _ ?side1 ?side2 A93.out).mono ?_); (case side1 => exact Kd.C_nil _ _); (case side2 => exact Nat.le_refl _); rintro e w114 ⟨v443, v445, rfl, ho0, ho1, hb⟩; refine ⟨_, rfl, ?_⟩; have n0_ := Aside0.mk (Kd.R_below (mvR HO_95) hb); have n1_ := Aside0.mk (Kd.R_elder' (mvR HO397) (Kd.R_base ho1) hb); have n2_ := Aside0.mk (Kd.R_elder' (mvR HO403) (Kd.R_base ho0) hb); have n3_ := Aside0.mk (Kd.R_elder' (mvR HO405) (Kd.R_base ho1) hb); have n4_ := Aside0.mk (Kd.R_elder' (mvR HO408) (Kd.R_base ho1) hb); have n5_ := Aside0.mk (Kd.R_elder' (mvR HO414) (Kd.R_base ho0) hb); have n6_ := Aside0.mk (Kd.R_elder' (mvR HO416) (Kd.R_base ho1) hb); have n7_ := Aside0.mk (Kd.R_elder' (mvR HO419) (Kd.R_base ho1) hb); have n8_ := Aside0.mk (Kd.R_elder' (mvR HO425) (Kd.R_base ho0) hb); have n9_ := Aside0.mk (Kd.R_elder' (mvR HO427) (Kd.R_base ho1) hb); have n10_ := Aside0.mk (Kd.R_elder' (mvR HO430) (Kd.R_base ho1) hb); have n11_ := Aside0.mk (Kd.R_elder' (mvR HO436) (Kd.R_base ho0) hb); have n12_ := Aside0.mk (Kd.R_elder' (mvR HO438) (Kd.R_base ho1) hb); have n13_ := Aside0.mk (Kd.R_lower (Kd.R_new' (Kd.R_new' (Kd.R_new' (Kd.R_new' ho0 (Kd.R_lt (mvR HO403))) (Kd.R_lt (mvR HO414))) (Kd.R_lt (mvR HO425))) (Kd.R_lt (mvR HO436))) (below_size (mvB HB))); have n14_ := Aside0.mk (Kd.R_lower (Kd.R_new' (Kd.R_new' (Kd.R_new' (Kd.R_new' (Kd.R_new' (Kd.R_new' (Kd.R_new' (Kd.R_new' ho1 (Kd.R_lt (mvR HO397))) (Kd.R_lt (mvR HO405))) (Kd.R_lt (mvR HO408))) (Kd.R_lt (mvR HO416))) (Kd.R_lt (mvR HO419))) (Kd.R_lt (mvR HO427))) (Kd.R_lt (mvR HO430))) (Kd.R_lt (mvR HO438))) (below_size (mvB HB))); have n15_ := Aside0.mk (below_step (mvB HB) hb); clear HO_95; clear HO397; clear HO403; clear HO405; clear HO408; clear HO414; clear HO416; clear HO419; clear HO425; clear HO427; clear HO430; clear HO436; clear HO438; clear HB; have HO_95 := n0_; have HO397 := n1_; have HO403 := n2_; have HO405 := n3_; have HO408 := n4_; have HO414 := n5_; have HO416 := n6_; have HO419 := n7_; have HO425 := n8_; have HO427 := n9_; have HO430 := n10_; have HO436 := n11_; have HO438 := n12_; have HO444 := n13_; have HO446 := n14_; have HB := n15_; clear n0_ n1_ n2_ n3_ n4_ n5_ n6_ n7_ n8_ n9_ n10_ n11_ n12_ n13_ n14_ n15_; (try clear hb); (try clear hb2); (try clear hk); (try clear hi); (try clear ho0); (try clear ho1)) | ((with_reducible refine gate_callee (f := 15) rfl ?_); refine goesL_ (some 171) rfl rfl Try.func15 (by kernel_rfl) rfl #[.slice none 0 0, .int .u8 2] rfl (by (try simp only [List.map_toArray, List.map_cons, List.map_nil]); first | done | rfl | (simp only [List.length_drop, List.length_take]; rfl)) ?_; (refine (explicit_Levels.calls _ _ ([] : List Int) 2 t447 t448 t449 t450 _ ?side1 ?side2 A94.out).mono ?_); (case side1 => exact Kd.C_nil _ _); (case side2 => exact Nat.le_refl _); rintro e w115 ⟨v451, v453, rfl, ho0, ho1, hb⟩; refine ⟨_, rfl, ?_⟩; have n0_ := Aside0.mk (Kd.R_below (mvR HO_95) hb); have n1_ := Aside0.mk (Kd.R_elder' (mvR HO397) (Kd.R_base ho1) hb); have n2_ := Aside0.mk (Kd.R_elder' (mvR HO403) (Kd.R_base ho0) hb); have n3_ := Aside0.mk (Kd.R_elder' (mvR HO405) (Kd.R_base ho1) hb); have n4_ := Aside0.mk (Kd.R_elder' (mvR HO408) (Kd.R_base ho1) hb); have n5_ := Aside0.mk (Kd.R_elder' (mvR HO414) (Kd.R_base ho0) hb); have n6_ := Aside0.mk (Kd.R_elder' (mvR HO416) (Kd.R_base ho1) hb); have n7_ := Aside0.mk (Kd.R_elder' (mvR HO419) (Kd.R_base ho1) hb); have n8_ := Aside0.mk (Kd.R_elder' (mvR HO425) (Kd.R_base ho0) hb); have n9_ := Aside0.mk (Kd.R_elder' (mvR HO427) (Kd.R_base ho1) hb); have n10_ := Aside0.mk (Kd.R_elder' (mvR HO430) (Kd.R_base ho1) hb); have n11_ := Aside0.mk (Kd.R_elder' (mvR HO436) (Kd.R_base ho0) hb); have n12_ := Aside0.mk (Kd.R_elder' (mvR HO438) (Kd.R_base ho1) hb); have n13_ := Aside0.mk (Kd.R_elder' (mvR HO444) (Kd.R_base ho0) hb); have n14_ := Aside0.mk (Kd.R_elder' (mvR HO446) (Kd.R_base ho1) hb); have n15_ := Aside0.mk (Kd.R_lower (Kd.R_new' (Kd.R_new' (Kd.R_new' (Kd.R_new' (Kd.R_new' ho0 (Kd.R_lt (mvR HO403))) (Kd.R_lt (mvR HO414))) (Kd.R_lt (mvR HO425))) (Kd.R_lt (mvR HO436))) (Kd.R_lt (mvR HO444))) (below_size (mvB HB))); have n16_ := Aside0.mk (Kd.R_lower (Kd.R_new' (Kd.R_new' (Kd.R_new' (Kd.R_new' (Kd.R_new' (Kd.R_new' (Kd.R_new' (Kd.R_new' (Kd.R_new' ho1 (Kd.R_lt (mvR HO397))) (Kd.R_lt (mvR HO405))) (Kd.R_lt (mvR HO408))) (Kd.R_lt (mvR HO416))) (Kd.R_lt (mvR HO419))) (Kd.R_lt (mvR HO427))) (Kd.R_lt (mvR HO430))) (Kd.R_lt (mvR HO438))) (Kd.R_lt (mvR HO446))) (below_size (mvB HB))); have n17_ := Aside0.mk (below_step (mvB HB) hb); clear HO_95; clear HO397; clear HO403; clear HO405; clear HO408; clear HO414; clear HO416; clear HO419; clear HO425; clear HO427; clear HO430; clear HO436; clear HO438; clear HO444; clear HO446; clear HB; have HO_95 := n0_; have HO397 := n1_; have HO403 := n2_; have HO405 := n3_; have HO408 := n4_; have HO414 := n5_; have HO416 := n6_; have HO419 := n7_; have HO425 := n8_; have HO427 := n9_; have HO430 := n10_; have HO436 := n11_; have HO438 := n12_; have HO444 := n13_; have HO446 := n14_; have HO452 := n15_; have HO454 := n16_; have HB := n17_; clear n0_ n1_ n2_ n3_ n4_ n5_ n6_ n7_ n8_ n9_ n10_ n11_ n12_ n13_ n14_ n15_ n16_ n17_; (try clear hb); (try clear hb2); (try clear hk); (try clear hi); (try clear ho0); (try clear ho1)) | ((with_reducible refine gate_callee (f := 20) rfl ?_); refine goesL_ (some 177) rfl rfl Try.func20 (by kernel_rfl) rfl #[.int .i64 65536, .int .u8 1] rfl (by (try simp only [List.map_toArray, List.map_cons, List.map_nil]); first | done | rfl | (simp only [List.length_drop, List.length_take]; rfl)) ?_; (with_reducible refine (selvedgelaw14_deep.calls k2 65536 1 t455 _ A95.out).mono ?_); rintro e w116 ⟨v456, rfl, ho0, hb⟩; refine ⟨_, rfl, ?_⟩; have n0_ := Aside0.mk (Kd.R_below (mvR HO_95) hb); have n1_ := Aside0.mk (Kd.R_elder' (mvR HO397) (Kd.R_base ho0) hb); have n2_ := Aside0.mk (Kd.R_below (mvR HO403) hb); have n3_ := Aside0.mk (Kd.R_elder' (mvR HO405) (Kd.R_base ho0) hb); have n4_ := Aside0.mk (Kd.R_elder' (mvR HO408) (Kd.R_base ho0) hb); have n5_ := Aside0.mk (Kd.R_below (mvR HO414) hb); have n6_ := Aside0.mk (Kd.R_elder' (mvR HO416) (Kd.R_base ho0) hb); have n7_ := Aside0.mk (Kd.R_elder' (mvR HO419) (Kd.R_base ho0) hb); have n8_ := Aside0.mk (Kd.R_below (mvR HO425) hb); have n9_ := Aside0.mk (Kd.R_elder' (mvR HO427) (Kd.R_base ho0) hb); have n10_ := Aside0.mk (Kd.R_elder' (mvR HO430) (Kd.R_base ho0) hb); have n11_ := Aside0.mk (Kd.R_below (mvR HO436) hb); have n12_ := Aside0.mk (Kd.R_elder' (mvR HO438) (Kd.R_base ho0) hb); have n13_ := Aside0.mk (Kd.R_below (mvR HO444) hb); have n14_ := Aside0.mk (Kd.R_elder' (mvR HO446) (Kd.R_base ho0) hb); have n15_ := Aside0.mk (Kd.R_below (mvR HO452) hb); have n16_ := Aside0.mk (Kd.R_elder' (mvR HO454) (Kd.R_base ho0) hb); have n17_ := Aside0.mk (Kd.R_lower (Kd.R_new' (Kd.R_new' (Kd.R_new' (Kd.R_new' (Kd.R_new' (Kd.R_new' (Kd.R_new' (Kd.R_new' (Kd.R_new' (Kd.R_new' ho0 (Kd.R_lt (mvR HO397))) (Kd.R_lt (mvR HO405))) (Kd.R_lt (mvR HO408))) (Kd.R_lt (mvR HO416))) (Kd.R_lt (mvR HO419))) (Kd.R_lt (mvR HO427))) (Kd.R_lt (mvR HO430))) (Kd.R_lt (mvR HO438))) (Kd.R_lt (mvR HO446))) (Kd.R_lt (mvR HO454))) (below_size (mvB HB))); have n18_ := Aside0.mk (below_step (mvB HB) hb); clear HO_95; clear HO397; clear HO403; clear HO405; clear HO408; clear HO414; clear HO416; clear HO419; clear HO425; clear HO427; clear HO430; clear HO436; clear HO438; clear HO444; clear HO446; clear HO452; clear HO454; clear HB; have HO_95 := n0_; have HO397 := n1_; have HO403 := n2_; have HO405 := n3_; have HO408 := n4_; have HO414 := n5_; have HO416 := n6_; have HO419 := n7_; have HO425 := n8_; have HO427 := n9_; have HO430 := n10_; have HO436 := n11_; have HO438 := n12_; have HO444 := n13_; have HO446 := n14_; have HO452 := n15_; have HO454 := n16_; have HO457 := n17_; have HB := n18_; clear n0_ n1_ n2_ n3_ n4_ n5_ n6_ n7_ n8_ n9_ n10_ n11_ n12_ n13_ n14_ n15_ n16_ n17_ n18_; (try clear hb); (try clear hb2); (try clear hk); (try clear hi); (try clear ho0); obtain ⟨Ao117, co117, eo117⟩ := Kd.R_slice HO457.out; subst eo117) | ((with_reducible refine gate_callee (f := 15) rfl ?_); refine goesL_ (some 178) rfl rfl Try.func15 (by kernel_rfl) rfl #[.slice Ao117 t455.length co117, .int .u8 0] rfl (by (try simp only [List.map_toArray, List.map_cons, List.map_nil]); first | done | rfl | (simp only [List.length_drop, List.length_take]; rfl)) ?_; (with_reducible refine (explicit_Levels.calls _ _ t455 0 t458 t459 t460 t461 _ ?side1 ?side2 A96.out).mono ?_); (case side1 => repeat (first | exact (Kd.R_reads' HO457.out).2.2 | (with_reducible refine Kd.C_alloc ?_ _) | (with_reducible refine Kd.C_drewN ?_ _) | (with_reducible refine Kd.C_drew ?_))); (case side2 => exact (Kd.R_reads' HO457.out).2.1); rintro e w118 ⟨v462, v464, rfl, ho0, ho1, hb⟩; refine ⟨_, rfl, ?_⟩; have n0_ := Aside0.mk (Kd.R_below (mvR HO_95) hb); have n1_ := Aside0.mk (Kd.R_elder' (mvR HO397) (Kd.R_base ho1) hb); have n2_ := Aside0.mk (Kd.R_elder' (mvR HO403) (Kd.R_base ho0) hb); have n3_ := Aside0.mk (Kd.R_elder' (mvR HO405) (Kd.R_base ho1) hb); have n4_ := Aside0.mk (Kd.R_elder' (mvR HO408) (Kd.R_base ho1) hb); have n5_ := Aside0.mk (Kd.R_elder' (mvR HO414) (Kd.R_base ho0) hb); have n6_ := Aside0.mk (Kd.R_elder' (mvR HO416) (Kd.R_base ho1) hb); have n7_ := Aside0.mk (Kd.R_elder' (mvR HO419) (Kd.R_base ho1) hb); have n8_ := Aside0.mk (Kd.R_elder' (mvR HO425) (Kd.R_base ho0) hb); have n9_ := Aside0.mk (Kd.R_elder' (mvR HO427) (Kd.R_base ho1) hb); have n10_ := Aside0.mk (Kd.R_elder' (mvR HO430) (Kd.R_base ho1) hb); have n11_ := Aside0.mk (Kd.R_elder' (mvR HO436) (Kd.R_base ho0) hb); have n12_ := Aside0.mk (Kd.R_elder' (mvR HO438) (Kd.R_base ho1) hb); have n13_ := Aside0.mk (Kd.R_elder' (mvR HO444) (Kd.R_base ho0) hb); have n14_ := Aside0.mk (Kd.R_elder' (mvR HO446) (Kd.R_base ho1) hb); have n15_ := Aside0.mk (Kd.R_elder' (mvR HO452) (Kd.R_base ho0) hb); have n16_ := Aside0.mk (Kd.R_elder' (mvR HO454) (Kd.R_base ho1) hb); have n17_ := Aside0.mk (Kd.R_elder' (mvR HO457) (Kd.R_base ho1) hb); have n18_ := Aside0.mk (Kd.R_lower (Kd.R_new' (Kd.R_new' (Kd.R_new' (Kd.R_new' (Kd.R_new' (Kd.R_new' ho0 (Kd.R_lt (mvR HO403))) (Kd.R_lt (mvR HO414))) (Kd.R_lt (mvR HO425))) (Kd.R_lt (mvR HO436))) (Kd.R_lt (mvR HO444))) (Kd.R_lt (mvR HO452))) (below_size (mvB HB))); have n19_ := Aside0.mk (Kd.R_lower (Kd.R_new' (Kd.R_new' (Kd.R_new' (Kd.R_new' (Kd.R_new' (Kd.R_new' (Kd.R_new' (Kd.R_new' (Kd.R_new' (Kd.R_new' (Kd.R_new' ho1 (Kd.R_lt (mvR HO397))) (Kd.R_lt (mvR HO405))) (Kd.R_lt (mvR HO408))) (Kd.R_lt (mvR HO416))) (Kd.R_lt (mvR HO419))) (Kd.R_lt (mvR HO427))) (Kd.R_lt (mvR HO430))) (Kd.R_lt (mvR HO438))) (Kd.R_lt (mvR HO446))) (Kd.R_lt (mvR HO454))) (Kd.R_lt (mvR HO457))) (below_size (mvB HB))); have n20_ := Aside0.mk (below_step (mvB HB) hb); clear HO_95; clear HO397; clear HO403; clear HO405; clear HO408; clear HO414; clear HO416; clear HO419; clear HO425; clear HO427; clear HO430; clear HO436; clear HO438; clear HO444; clear HO446; clear HO452; clear HO454; clear HO457; clear HB; have HO_95 := n0_; have HO397 := n1_; have HO403 := n2_; have HO405 := n3_; have HO408 := n4_; have HO414 := n5_; have HO416 := n6_; have HO419 := n7_; have HO425 := n8_; have HO427 := n9_; have HO430 := n10_; have HO436 := n11_; have HO438 := n12_; have HO444 := n13_; have HO446 := n14_; have HO452 := n15_; have HO454 := n16_; have HO457 := n17_; have HO463 := n18_; have HO465 := n19_; have HB := n20_; clear n0_ n1_ n2_ n3_ n4_ n5_ n6_ n7_ n8_ n9_ n10_ n11_ n12_ n13_ n14_ n15_ n16_ n17_ n18_ n19_ n20_; (try clear hb); (try clear hb2); (try clear hk); (try clear hi); (try clear ho0); (try clear ho1)) | ((with_reducible refine gate_callee (f := 20) rfl ?_); refine goesL_ (some 184) rfl rfl Try.func20 (by kernel_rfl) rfl #[.int .i64 65535, .int .u8 1] rfl (by (try simp only [List.map_toArray, List.map_cons, List.map_nil]); first | done | rfl | (simp only [List.length_drop, List.length_take]; rfl)) ?_; (with_reducible refine (selvedgelaw14_deep.calls k2 65535 1 t466 _ A97.out).mono ?_); rintro e w119 ⟨v467, rfl, ho0, hb⟩; refine ⟨_, rfl, ?_⟩; have n0_ := Aside0.mk (Kd.R_below (mvR HO_95) hb); have n1_ := Aside0.mk (Kd.R_elder' (mvR HO397) (Kd.R_base ho0) hb); have n2_ := Aside0.mk (Kd.R_below (mvR HO403) hb); have n3_ := Aside0.mk (Kd.R_elder' (mvR HO405) (Kd.R_base ho0) hb); have n4_ := Aside0.mk (Kd.R_elder' (mvR HO408) (Kd.R_base ho0) hb); have n5_ := Aside0.mk (Kd.R_below (mvR HO414) hb); have n6_ := Aside0.mk (Kd.R_elder' (mvR HO416) (Kd.R_base ho0) hb); have n7_ := Aside0.mk (Kd.R_elder' (mvR HO419) (Kd.R_base ho0) hb); have n8_ := Aside0.mk (Kd.R_below (mvR HO425) hb); have n9_ := Aside0.mk (Kd.R_elder' (mvR HO427) (Kd.R_base ho0) hb); have n10_ := Aside0.mk (Kd.R_elder' (mvR HO430) (Kd.R_base ho0) hb); have n11_ := Aside0.mk (Kd.R_below (mvR HO436) hb); have n12_ := Aside0.mk (Kd.R_elder' (mvR HO438) (Kd.R_base ho0) hb); have n13_ := Aside0.mk (Kd.R_below (mvR HO444) hb); have n14_ := Aside0.mk (Kd.R_elder' (mvR HO446) (Kd.R_base ho0) hb); have n15_ := Aside0.mk (Kd.R_below (mvR HO452) hb); have n16_ := Aside0.mk (Kd.R_elder' (mvR HO454) (Kd.R_base ho0) hb); have n17_ := Aside0.mk (Kd.R_elder' (mvR HO457) (Kd.R_base ho0) hb); have n18_ := Aside0.mk (Kd.R_below (mvR HO463) hb); have n19_ := Aside0.mk (Kd.R_elder' (mvR HO465) (Kd.R_base ho0) hb); have n20_ := Aside0.mk (Kd.R_lower (Kd.R_new' (Kd.R_new' (Kd.R_new' (Kd.R_new' (Kd.R_new' (Kd.R_new' (Kd.R_new' (Kd.R_new' (Kd.R_new' (Kd.R_new' (Kd.R_new' (Kd.R_new' ho0 (Kd.R_lt (mvR HO397))) (Kd.R_lt (mvR HO405))) (Kd.R_lt (mvR HO408))) (Kd.R_lt (mvR HO416))) (Kd.R_lt (mvR HO419))) (Kd.R_lt (mvR HO427))) (Kd.R_lt (mvR HO430))) (Kd.R_lt (mvR HO438))) (Kd.R_lt (mvR HO446))) (Kd.R_lt (mvR HO454))) (Kd.R_lt (mvR HO457))) (Kd.R_lt (mvR HO465))) (below_size (mvB HB))); have n21_ := Aside0.mk (below_step (mvB HB) hb); clear HO_95; clear HO397; clear HO403; clear HO405; clear HO408; clear HO414; clear HO416; clear HO419; clear HO425; clear HO427; clear HO430; clear HO436; clear HO438; clear HO444; clear HO446; clear HO452; clear HO454; clear HO457; clear HO463; clear HO465; clear HB; have HO_95 := n0_; have HO397 := n1_; have HO403 := n2_; have HO405 := n3_; have HO408 := n4_; have HO414 := n5_; have HO416 := n6_; have HO419 := n7_; have HO425 := n8_; have HO427 := n9_; have HO430 := n10_; have HO436 := n11_; have HO438 := n12_; have HO444 := n13_; have HO446 := n14_; have HO452 := n15_; have HO454 := n16_; have HO457 := n17_; have HO463 := n18_; have HO465 := n19_; have HO468 := n20_; have HB := n21_; clear n0_ n1_ n2_ n3_ n4_ n5_ n6_ n7_ n8_ n9_ n10_ n11_ n12_ n13_ n14_ n15_ n16_ n17_ n18_ n19_ n20_ n21_; (try clear hb); (try clear hb2); (try clear hk); (try clear hi); (try clear ho0); obtain ⟨Ao120, co120, eo120⟩ := Kd.R_slice HO468.out; subst eo120) | ((with_reducible refine gate_callee (f := 15) rfl ?_); refine goesL_ (some 185) rfl rfl Try.func15 (by kernel_rfl) rfl #[.slice Ao120 t466.length co120, .int .u8 0] rfl (by (try simp only [List.map_toArray, List.map_cons, List.map_nil]); first | done | rfl | (simp only [List.length_drop, List.length_take]; rfl)) ?_; (with_reducible refine (explicit_Levels.calls _ _ t466 0 t469 t470 t471 t472 _ ?side1 ?side2 A98.out).mono ?_); (case side1 => repeat (first | exact (Kd.R_reads' HO468.out).2.2 | (with_reducible refine Kd.C_alloc ?_ _) | (with_reducible refine Kd.C_drewN ?_ _) | (with_reducible refine Kd.C_drew ?_))); (case side2 => exact (Kd.R_reads' HO468.out).2.1); rintro e w121 ⟨v473, v475, rfl, ho0, ho1, hb⟩; refine ⟨_, rfl, ?_⟩; have n0_ := Aside0.mk (Kd.R_below (mvR HO_95) hb); have n1_ := Aside0.mk (Kd.R_elder' (mvR HO397) (Kd.R_base ho1) hb); have n2_ := Aside0.mk (Kd.R_elder' (mvR HO403) (Kd.R_base ho0) hb); have n3_ := Aside0.mk (Kd.R_elder' (mvR HO405) (Kd.R_base ho1) hb); have n4_ := Aside0.mk (Kd.R_elder' (mvR HO408) (Kd.R_base ho1) hb); have n5_ := Aside0.mk (Kd.R_elder' (mvR HO414) (Kd.R_base ho0) hb); have n6_ := Aside0.mk (Kd.R_elder' (mvR HO416) (Kd.R_base ho1) hb); have n7_ := Aside0.mk (Kd.R_elder' (mvR HO419) (Kd.R_base ho1) hb); have n8_ := Aside0.mk (Kd.R_elder' (mvR HO425) (Kd.R_base ho0) hb); have n9_ := Aside0.mk (Kd.R_elder' (mvR HO427) (Kd.R_base ho1) hb); have n10_ := Aside0.mk (Kd.R_elder' (mvR HO430) (Kd.R_base ho1) hb); have n11_ := Aside0.mk (Kd.R_elder' (mvR HO436) (Kd.R_base ho0) hb); have n12_ := Aside0.mk (Kd.R_elder' (mvR HO438) (Kd.R_base ho1) hb); have n13_ := Aside0.mk (Kd.R_elder' (mvR HO444) (Kd.R_base ho0) hb); have n14_ := Aside0.mk (Kd.R_elder' (mvR HO446) (Kd.R_base ho1) hb); have n15_ := Aside0.mk (Kd.R_elder' (mvR HO452) (Kd.R_base ho0) hb); have n16_ := Aside0.mk (Kd.R_elder' (mvR HO454) (Kd.R_base ho1) hb); have n17_ := Aside0.mk (Kd.R_elder' (mvR HO457) (Kd.R_base ho1) hb); have n18_ := Aside0.mk (Kd.R_elder' (mvR HO463) (Kd.R_base ho0) hb); have n19_ := Aside0.mk (Kd.R_elder' (mvR HO465) (Kd.R_base ho1) hb); have n20_ := Aside0.mk (Kd.R_elder' (mvR HO468) (Kd.R_base ho1) hb); have n21_ := Aside0.mk (Kd.R_lower (Kd.R_new' (Kd.R_new' (Kd.R_new' (Kd.R_new' (Kd.R_new' (Kd.R_new' (Kd.R_new' ho0 (Kd.R_lt (mvR HO403))) (Kd.R_lt (mvR HO414))) (Kd.R_lt (mvR HO425))) (Kd.R_lt (mvR HO436))) (Kd.R_lt (mvR HO444))) (Kd.R_lt (mvR HO452))) (Kd.R_lt (mvR HO463))) (below_size (mvB HB))); have n22_ := Aside0.mk (Kd.R_lower (Kd.R_new' (Kd.R_new' (Kd.R_new' (Kd.R_new' (Kd.R_new' (Kd.R_new' (Kd.R_new' (Kd.R_new' (Kd.R_new' (Kd.R_new' (Kd.R_new' (Kd.R_new' (Kd.R_new' ho1 (Kd.R_lt (mvR HO397))) (Kd.R_lt (mvR HO405))) (Kd.R_lt (mvR HO408))) (Kd.R_lt (mvR HO416))) (Kd.R_lt (mvR HO419))) (Kd.R_lt (mvR HO427))) (Kd.R_lt (mvR HO430))) (Kd.R_lt (mvR HO438))) (Kd.R_lt (mvR HO446))) (Kd.R_lt (mvR HO454))) (Kd.R_lt (mvR HO457))) (Kd.R_lt (mvR HO465))) (Kd.R_lt (mvR HO468))) (below_size (mvB HB))); have n23_ := Aside0.mk (below_step (mvB HB) hb); clear HO_95; clear HO397; clear HO403; clear HO405; clear HO408; clear HO414; clear HO416; clear HO419; clear HO425; clear HO427; clear HO430; clear HO436; clear HO438; clear HO444; clear HO446; clear HO452; clear HO454; clear HO457; clear HO463; clear HO465; clear HO468; clear HB; have HO_95 := n0_; have HO397 := n1_; have HO403 := n2_; have HO405 := n3_; have HO408 := n4_; have HO414 := n5_; have HO416 := n6_; have HO419 := n7_; have HO425 := n8_; have HO427 := n9_; have HO430 := n10_; have HO436 := n11_; have HO438 := n12_; have HO444 := n13_; have HO446 := n14_; have HO452 := n15_; have HO454 := n16_; have HO457 := n17_; have HO463 := n18_; have HO465 := n19_; have HO468 := n20_; have HO474 := n21_; have HO476 := n22_; have HB := n23_; clear n0_ n1_ n2_ n3_ n4_ n5_ n6_ n7_ n8_ n9_ n10_ n11_ n12_ n13_ n14_ n15_ n16_ n17_ n18_ n19_ n20_ n21_ n22_ n23_; (try clear hb); (try clear hb2); (try clear hk); (try clear hi); (try clear ho0); (try clear ho1)))
      (try simp only [Act.put, List.setIfInBounds_toArray, List.set_cons_zero, List.set_cons_succ])
      go_cut [51] (fun v51 wc => ∃ (kq : Nat) (x51_98 : Bool), v51 = .bool x51_98 ∧ Aside0 (selvedgelaw14_ExplicitKnown.j4 kq x13_3 x51_98 = some r) ∧ Aside0 (kq ≤ k2) ∧ Aside0 (Below w.heap.size w wc))
      case first =>
       have H := HC99.out
       clear HC99
       by_cases c122 : 70 < (t398.length : Int)
       ·rw [if_pos c122] at H
        have c122b0 : decide (70 < (t398.length : Int)) = true := decide_eq_true c122
        have c122b1 : decide (70 < t398.length) = true := decide_eq_true (by omega)
        clear c122
        (first | rw [c122b0] | (simp only [i64_w, i32_w]; rw [c122b0]) | skip)
        by_cases c123 : (rd t398 70) = 125
        ·rw [if_pos c123] at H
         have c123b0 : ((rd t398 70) == 125) = true := beq_iff_eq.mpr c123
         have c123b1 : ((rd t398 70) != 125) = false := bne_eq_false_iff_eq.mpr c123
         clear c123
         by_cases c124 : 200 < (t409.length : Int)
         ·rw [if_pos c124] at H
          have c124b0 : decide (200 < (t409.length : Int)) = true := decide_eq_true c124
          have c124b1 : decide (200 < t409.length) = true := decide_eq_true (by omega)
          clear c124
          by_cases c125 : (rd t409 200) = 125
          ·rw [if_pos c125] at H
           have c125b0 : ((rd t409 200) == 125) = true := beq_iff_eq.mpr c125
           have c125b1 : ((rd t409 200) != 125) = false := bne_eq_false_iff_eq.mpr c125
           clear c125
           by_cases c126 : t423 = 2
           ·rw [if_pos c126] at H
            have c126b0 : (t423 == 2) = true := beq_iff_eq.mpr c126
            have c126b1 : (t423 != 2) = false := bne_eq_false_iff_eq.mpr c126
            clear c126
            by_cases c127 : t434 = 2
            ·rw [if_pos c127] at H
             have c127b0 : (t434 == 2) = true := beq_iff_eq.mpr c127
             have c127b1 : (t434 != 2) = false := bne_eq_false_iff_eq.mpr c127
             clear c127
             by_cases c128 : t442 = 2
             ·rw [if_pos c128] at H
              have c128b0 : (t442 == 2) = true := beq_iff_eq.mpr c128
              have c128b1 : (t442 != 2) = false := bne_eq_false_iff_eq.mpr c128
              clear c128
              by_cases c129 : t449 = 0
              ·rw [if_pos c129] at H
               have c129b0 : (t449 == 0) = true := beq_iff_eq.mpr c129
               have c129b1 : (t449 != 0) = false := bne_eq_false_iff_eq.mpr c129
               clear c129
               by_cases c130 : t450 = 0
               ·rw [if_pos c130] at H
                have c130b0 : (t450 == 0) = true := beq_iff_eq.mpr c130
                have c130b1 : (t450 != 0) = false := bne_eq_false_iff_eq.mpr c130
                clear c130
                by_cases c131 : t461 = 3
                ·rw [if_pos c131] at H
                 have c131b0 : (t461 == 3) = true := beq_iff_eq.mpr c131
                 have c131b1 : (t461 != 3) = false := bne_eq_false_iff_eq.mpr c131
                 clear c131
                 have H' := Aside0.mk H
                 clear H
                 obtain ⟨Ao132, co132, eo132⟩ := Kd.R_slice HO403.out
                 subst eo132
                 have p477 : 0 ≤ (70 : Int) := (by omega)
                 have q477 := dT (70 < (t398.length : Int))
                 obtain ⟨ad477, e477, hx477_0⟩ := Kd.at_int (Kd.R_reads' HO403.out).2.2 70 p477 q477
                 cases e477
                 (try simp only [show (70 : Int).toNat = 70 from rfl, Nat.reduceMul, Nat.reduceEqDiff, Go.Addr.add, ↓reduceIte] at hx477_0)
                 have qi477 : (70 < t398.length) = True := eq_true (by omega)
                 (try rw [show ((70 : Int)).toNat = 70 from rfl] at hx477_0)
                 replace p477 := eq_true p477
                 replace q477 := eq_true q477
                 obtain ⟨Ao133, co133, eo133⟩ := Kd.R_slice HO414.out
                 subst eo133
                 have p478 : 0 ≤ (200 : Int) := (by omega)
                 have q478 := dT (200 < (t409.length : Int))
                 obtain ⟨ad478, e478, hx478_0⟩ := Kd.at_int (Kd.R_reads' HO414.out).2.2 200 p478 q478
                 cases e478
                 (try simp only [show (200 : Int).toNat = 200 from rfl, Nat.reduceMul, Nat.reduceEqDiff, Go.Addr.add, ↓reduceIte] at hx478_0)
                 have qi478 : (200 < t409.length) = True := eq_true (by omega)
                 (try rw [show ((200 : Int)).toNat = 200 from rfl] at hx478_0)
                 replace p478 := eq_true p478
                 replace q478 := eq_true q478
                 go_wp2
                 go_meet
                 case rel => exact ⟨_, ((t472 == 0)), (by first | rfl | (simp; done) | (simp [*]; done)), H', ⟨by have := HJ3.out; have := HK2.out; first | omega | exact Nat.le_refl _⟩, ⟨mvB HB⟩⟩
                ·rw [if_neg c131] at H
                 exact absurd H (by simp)
               ·rw [if_neg c130] at H
                exact absurd H (by simp)
              ·rw [if_neg c129] at H
               exact absurd H (by simp)
             ·rw [if_neg c128] at H
              exact absurd H (by simp)
            ·rw [if_neg c127] at H
             exact absurd H (by simp)
           ·rw [if_neg c126] at H
            exact absurd H (by simp)
          ·rw [if_neg c125] at H
           exact absurd H (by simp)
         ·rw [if_neg c124] at H
          exact absurd H (by simp)
        ·rw [if_neg c123] at H
         exact absurd H (by simp)
       ·rw [if_neg c122] at H
        exact absurd H (by simp)
      case rest =>
       clear HC99
       try clear c1
       try clear c2
       try clear p2
       try clear hcv2
       try clear c3
       try clear p3
       try clear q3
       try clear hx3
       try clear hcv3
       try clear c4
       try clear p4
       try clear q4
       try clear hx4
       try clear qi4
       try clear c5
       try clear c6
       try clear p6
       try clear c9
       try clear c12
       try clear c13
       try clear c15
       try clear c17
       try clear c17b0
       try clear c17b1
       try clear c18
       try clear c18b0
       try clear c18b1
       try clear c19
       try clear c19b0
       try clear c19b1
       try clear c20
       try clear c20b0
       try clear c20b1
       try clear hcv21
       try clear hcv22
       try clear hcv23
       try clear hcv24
       try clear hcv25
       try clear hcv26
       try clear hcv27
       try clear hcv28
       try clear hcv29
       try clear hcv30
       try clear hcv31
       try clear c35
       try clear c35b0
       try clear c36
       try clear c36b0
       try clear c37
       try clear c37b0
       try clear p37
       try clear q37
       try clear hx37
       try clear p38
       try clear q38
       try clear hx38
       try clear c41
       try clear c41b0
       try clear c42
       try clear c42b0
       try clear c43
       try clear c43b0
       try clear p47
       try clear q47
       try clear hx47
       try clear qi47
       try clear c48
       try clear c50
       try clear c61
       try clear c62
       try clear c64
       try clear p64
       try clear c66
       try clear c122
       try clear c122b0
       try clear c122b1
       try clear c123
       try clear c123b0
       try clear c123b1
       try clear c124
       try clear c124b0
       try clear c124b1
       try clear c125
       try clear c125b0
       try clear c125b1
       try clear c126
       try clear c126b0
       try clear c126b1
       try clear c127
       try clear c127b0
       try clear c127b1
       try clear c128
       try clear c128b0
       try clear c128b1
       try clear c129
       try clear c129b0
       try clear c129b1
       try clear c130
       try clear c130b0
       try clear c130b1
       try clear c131
       try clear c131b0
       try clear c131b1
       try clear hx376_0
       try clear hx380_0
       try clear hx477_0
       try clear hx478_0
       try clear p2
       try clear p3
       try clear p37
       try clear p376
       try clear p38
       try clear p380
       try clear p477
       try clear p478
       try clear q3
       try clear q37
       try clear q376
       try clear q38
       try clear q380
       try clear q477
       try clear q478
       obtain ⟨kq, x51_98, rfl, HA, HJ98, HB⟩ := hcut
       cases kq with
       | zero => exact absurd HA.out (by simp [selvedgelaw14_ExplicitKnown.j4])
       | succ kj98 =>
        have H := HA.out
        clear HA
        simp only [selvedgelaw14_ExplicitKnown.j4] at H
        obtain ⟨y479, hy479⟩ : ∃ y_ : List Int, y_ = (([21, 2, 23, 1, 2] : List Int)) := ⟨_, rfl⟩
        replace H : ((explicit_Base.f kj98 y479).bind fun t482 => (if t482 = 0 then ((explicit_Base.f kj98 (([21, 2, 1] : List Int))).bind fun t486 => (if t486 = 0 then ((explicit_Base.f kj98 (([23, 3] : List Int))).bind fun t490 => (if t490 = 1 then ((explicit_Base.f kj98 (([14, 11, 2] : List Int))).bind fun t494 => (if t494 = 0 then ((explicit_Base.f kj98 (([16, 4, 9, 2] : List Int))).bind fun t498 => (if t498 = 1 then ((explicit_Base.f kj98 (([20, 11, 2] : List Int))).bind fun t502 => (if x13_3 = true then (if x51_98 = true then (if t502 = 0 then ((selvedgelaw14_works.f kj98).bind fun t503 => (some t503)) else (none)) else (none)) else (none))) else (none))) else (none))) else (none))) else (none))) else (none))) = some r := by first | (rw [hy479]; with_reducible exact H) | (have H2_ := (Option.bind_some _ _).symm.trans H; rw [hy479]; with_reducible exact H2_) | (have H2_ := (Option.bind_some _ _).symm.trans H; with_reducible exact H2_) | with_reducible exact H | (rw [hy479]; exact H) | exact H
        have Ny479 := Aside0.mk hy479
        clear hy479
        replace H := Option.bind_eq_some_iff.mp H
        obtain ⟨t482, A1490, H⟩ := H
        replace H : (if t482 = 0 then ((explicit_Base.f kj98 (([21, 2, 1] : List Int))).bind fun t486 => (if t486 = 0 then ((explicit_Base.f kj98 (([23, 3] : List Int))).bind fun t490 => (if t490 = 1 then ((explicit_Base.f kj98 (([14, 11, 2] : List Int))).bind fun t494 => (if t494 = 0 then ((explicit_Base.f kj98 (([16, 4, 9, 2] : List Int))).bind fun t498 => (if t498 = 1 then ((explicit_Base.f kj98 (([20, 11, 2] : List Int))).bind fun t502 => (if x13_3 = true then (if x51_98 = true then (if t502 = 0 then ((selvedgelaw14_works.f kj98).bind fun t503 => (some t503)) else (none)) else (none)) else (none))) else (none))) else (none))) else (none))) else (none))) else (none)) = some r := H
        have A149 := Aside0.mk A1490
        clear A1490
        by_cases c150 : t482 = 0
        ·rw [if_pos c150] at H
         have c150b0 : (t482 == 0) = true := beq_iff_eq.mpr c150
         have c150b1 : (t482 != 0) = false := bne_eq_false_iff_eq.mpr c150
         clear c150
         obtain ⟨y483, hy483⟩ : ∃ y_ : List Int, y_ = (([21, 2, 1] : List Int)) := ⟨_, rfl⟩
         replace H : ((explicit_Base.f kj98 y483).bind fun t486 => (if t486 = 0 then ((explicit_Base.f kj98 (([23, 3] : List Int))).bind fun t490 => (if t490 = 1 then ((explicit_Base.f kj98 (([14, 11, 2] : List Int))).bind fun t494 => (if t494 = 0 then ((explicit_Base.f kj98 (([16, 4, 9, 2] : List Int))).bind fun t498 => (if t498 = 1 then ((explicit_Base.f kj98 (([20, 11, 2] : List Int))).bind fun t502 => (if x13_3 = true then (if x51_98 = true then (if t502 = 0 then ((selvedgelaw14_works.f kj98).bind fun t503 => (some t503)) else (none)) else (none)) else (none))) else (none))) else (none))) else (none))) else (none))) = some r := by first | (rw [hy483]; with_reducible exact H) | (have H2_ := (Option.bind_some _ _).symm.trans H; rw [hy483]; with_reducible exact H2_) | (have H2_ := (Option.bind_some _ _).symm.trans H; with_reducible exact H2_) | with_reducible exact H | (rw [hy483]; exact H) | exact H
         have Ny483 := Aside0.mk hy483
         clear hy483
         replace H := Option.bind_eq_some_iff.mp H
         obtain ⟨t486, A1510, H⟩ := H
         replace H : (if t486 = 0 then ((explicit_Base.f kj98 (([23, 3] : List Int))).bind fun t490 => (if t490 = 1 then ((explicit_Base.f kj98 (([14, 11, 2] : List Int))).bind fun t494 => (if t494 = 0 then ((explicit_Base.f kj98 (([16, 4, 9, 2] : List Int))).bind fun t498 => (if t498 = 1 then ((explicit_Base.f kj98 (([20, 11, 2] : List Int))).bind fun t502 => (if x13_3 = true then (if x51_98 = true then (if t502 = 0 then ((selvedgelaw14_works.f kj98).bind fun t503 => (some t503)) else (none)) else (none)) else (none))) else (none))) else (none))) else (none))) else (none)) = some r := H
         have A151 := Aside0.mk A1510
         clear A1510
         by_cases c152 : t486 = 0
         ·rw [if_pos c152] at H
          have c152b0 : (t486 == 0) = true := beq_iff_eq.mpr c152
          have c152b1 : (t486 != 0) = false := bne_eq_false_iff_eq.mpr c152
          clear c152
          obtain ⟨y487, hy487⟩ : ∃ y_ : List Int, y_ = (([23, 3] : List Int)) := ⟨_, rfl⟩
          replace H : ((explicit_Base.f kj98 y487).bind fun t490 => (if t490 = 1 then ((explicit_Base.f kj98 (([14, 11, 2] : List Int))).bind fun t494 => (if t494 = 0 then ((explicit_Base.f kj98 (([16, 4, 9, 2] : List Int))).bind fun t498 => (if t498 = 1 then ((explicit_Base.f kj98 (([20, 11, 2] : List Int))).bind fun t502 => (if x13_3 = true then (if x51_98 = true then (if t502 = 0 then ((selvedgelaw14_works.f kj98).bind fun t503 => (some t503)) else (none)) else (none)) else (none))) else (none))) else (none))) else (none))) = some r := by first | (rw [hy487]; with_reducible exact H) | (have H2_ := (Option.bind_some _ _).symm.trans H; rw [hy487]; with_reducible exact H2_) | (have H2_ := (Option.bind_some _ _).symm.trans H; with_reducible exact H2_) | with_reducible exact H | (rw [hy487]; exact H) | exact H
          have Ny487 := Aside0.mk hy487
          clear hy487
          replace H := Option.bind_eq_some_iff.mp H
          obtain ⟨t490, A1530, H⟩ := H
          replace H : (if t490 = 1 then ((explicit_Base.f kj98 (([14, 11, 2] : List Int))).bind fun t494 => (if t494 = 0 then ((explicit_Base.f kj98 (([16, 4, 9, 2] : List Int))).bind fun t498 => (if t498 = 1 then ((explicit_Base.f kj98 (([20, 11, 2] : List Int))).bind fun t502 => (if x13_3 = true then (if x51_98 = true then (if t502 = 0 then ((selvedgelaw14_works.f kj98).bind fun t503 => (some t503)) else (none)) else (none)) else (none))) else (none))) else (none))) else (none)) = some r := H
          have A153 := Aside0.mk A1530
          clear A1530
          by_cases c154 : t490 = 1
          ·rw [if_pos c154] at H
           have c154b0 : (t490 == 1) = true := beq_iff_eq.mpr c154
           have c154b1 : (t490 != 1) = false := bne_eq_false_iff_eq.mpr c154
           clear c154
           obtain ⟨y491, hy491⟩ : ∃ y_ : List Int, y_ = (([14, 11, 2] : List Int)) := ⟨_, rfl⟩
           replace H : ((explicit_Base.f kj98 y491).bind fun t494 => (if t494 = 0 then ((explicit_Base.f kj98 (([16, 4, 9, 2] : List Int))).bind fun t498 => (if t498 = 1 then ((explicit_Base.f kj98 (([20, 11, 2] : List Int))).bind fun t502 => (if x13_3 = true then (if x51_98 = true then (if t502 = 0 then ((selvedgelaw14_works.f kj98).bind fun t503 => (some t503)) else (none)) else (none)) else (none))) else (none))) else (none))) = some r := by first | (rw [hy491]; with_reducible exact H) | (have H2_ := (Option.bind_some _ _).symm.trans H; rw [hy491]; with_reducible exact H2_) | (have H2_ := (Option.bind_some _ _).symm.trans H; with_reducible exact H2_) | with_reducible exact H | (rw [hy491]; exact H) | exact H
           have Ny491 := Aside0.mk hy491
           clear hy491
           replace H := Option.bind_eq_some_iff.mp H
           obtain ⟨t494, A1550, H⟩ := H
           replace H : (if t494 = 0 then ((explicit_Base.f kj98 (([16, 4, 9, 2] : List Int))).bind fun t498 => (if t498 = 1 then ((explicit_Base.f kj98 (([20, 11, 2] : List Int))).bind fun t502 => (if x13_3 = true then (if x51_98 = true then (if t502 = 0 then ((selvedgelaw14_works.f kj98).bind fun t503 => (some t503)) else (none)) else (none)) else (none))) else (none))) else (none)) = some r := H
           have A155 := Aside0.mk A1550
           clear A1550
           by_cases c156 : t494 = 0
           ·rw [if_pos c156] at H
            have c156b0 : (t494 == 0) = true := beq_iff_eq.mpr c156
            have c156b1 : (t494 != 0) = false := bne_eq_false_iff_eq.mpr c156
            clear c156
            obtain ⟨y495, hy495⟩ : ∃ y_ : List Int, y_ = (([16, 4, 9, 2] : List Int)) := ⟨_, rfl⟩
            replace H : ((explicit_Base.f kj98 y495).bind fun t498 => (if t498 = 1 then ((explicit_Base.f kj98 (([20, 11, 2] : List Int))).bind fun t502 => (if x13_3 = true then (if x51_98 = true then (if t502 = 0 then ((selvedgelaw14_works.f kj98).bind fun t503 => (some t503)) else (none)) else (none)) else (none))) else (none))) = some r := by first | (rw [hy495]; with_reducible exact H) | (have H2_ := (Option.bind_some _ _).symm.trans H; rw [hy495]; with_reducible exact H2_) | (have H2_ := (Option.bind_some _ _).symm.trans H; with_reducible exact H2_) | with_reducible exact H | (rw [hy495]; exact H) | exact H
            have Ny495 := Aside0.mk hy495
            clear hy495
            replace H := Option.bind_eq_some_iff.mp H
            obtain ⟨t498, A1570, H⟩ := H
            replace H : (if t498 = 1 then ((explicit_Base.f kj98 (([20, 11, 2] : List Int))).bind fun t502 => (if x13_3 = true then (if x51_98 = true then (if t502 = 0 then ((selvedgelaw14_works.f kj98).bind fun t503 => (some t503)) else (none)) else (none)) else (none))) else (none)) = some r := H
            have A157 := Aside0.mk A1570
            clear A1570
            by_cases c158 : t498 = 1
            ·rw [if_pos c158] at H
             have c158b0 : (t498 == 1) = true := beq_iff_eq.mpr c158
             have c158b1 : (t498 != 1) = false := bne_eq_false_iff_eq.mpr c158
             clear c158
             obtain ⟨y499, hy499⟩ : ∃ y_ : List Int, y_ = (([20, 11, 2] : List Int)) := ⟨_, rfl⟩
             replace H : ((explicit_Base.f kj98 y499).bind fun t502 => (if x13_3 = true then (if x51_98 = true then (if t502 = 0 then ((selvedgelaw14_works.f kj98).bind fun t503 => (some t503)) else (none)) else (none)) else (none))) = some r := by first | (rw [hy499]; with_reducible exact H) | (have H2_ := (Option.bind_some _ _).symm.trans H; rw [hy499]; with_reducible exact H2_) | (have H2_ := (Option.bind_some _ _).symm.trans H; with_reducible exact H2_) | with_reducible exact H | (rw [hy499]; exact H) | exact H
             have Ny499 := Aside0.mk hy499
             clear hy499
             replace H := Option.bind_eq_some_iff.mp H
             obtain ⟨t502, A1590, H⟩ := H
             replace H : (if x13_3 = true then (if x51_98 = true then (if t502 = 0 then ((selvedgelaw14_works.f kj98).bind fun t503 => (some t503)) else (none)) else (none)) else (none)) = some r := H
             have A159 := Aside0.mk A1590
             clear A1590
             by_cases c160 : x13_3 = true
             ·subst c160
              have H1 : (if x51_98 = true then (if t502 = 0 then ((selvedgelaw14_works.f kj98).bind fun t503 => (some t503)) else (none)) else (none)) = some r := by rw [if_pos rfl] at H; exact H
              clear H
              have H := H1
              clear H1
              by_cases c161 : x51_98 = true
              ·subst c161
               have H1 : (if t502 = 0 then ((selvedgelaw14_works.f kj98).bind fun t503 => (some t503)) else (none)) = some r := by rw [if_pos rfl] at H; exact H
               clear H
               have H := H1
               clear H1
               by_cases c162 : t502 = 0
               ·rw [if_pos c162] at H
                have c162b0 : (t502 == 0) = true := beq_iff_eq.mpr c162
                have c162b1 : (t502 != 0) = false := bne_eq_false_iff_eq.mpr c162
                clear c162
                replace H := Option.bind_eq_some_iff.mp H
                obtain ⟨t503, A1630, H⟩ := H
                replace H : (some t503) = some r := H
                have A163 := Aside0.mk A1630
                clear A1630
                obtain rfl := Option.some.inj H
                go_wp2_with (first | ((with_reducible refine gate_dst (N := 228) rfl ?_); (try (refine gate_guard (by rfl) ?_; dsimp only)); refine Kd.R_lit (Kd.int .u8) _ 26 ?hg (N := 228) ?hd (xs := ([21, 2, 23, 1, 2] : List Int)) (inner := [.int .u8 21, .int .u8 2, .int .u8 23, .int .u8 1, .int .u8 2]) (ok := fun _ => True) (okp := fun _ => True) ?hr ?hp (fun _ hk => hk) trivial (Below.refl _ _) (Nat.le_refl _) (by simp) ?_; (case hd => rfl); (case hg => rfl); (case hr => first | (go_simp; done) | (go_simp; rfl)); (case hp => exact (Reps.one (show Kd.M (Kd.int .u8) _ _ _ 21 [.int .u8 21] from rfl) (Reps.one (show Kd.M (Kd.int .u8) _ _ _ 2 [.int .u8 2] from rfl) (Reps.one (show Kd.M (Kd.int .u8) _ _ _ 23 [.int .u8 23] from rfl) (Reps.one (show Kd.M (Kd.int .u8) _ _ _ 1 [.int .u8 1] from rfl) (Reps.one (show Kd.M (Kd.int .u8) _ _ _ 2 [.int .u8 2] from rfl) (Reps.none _ _))))))); intro v480 w164 ho165 hb hg_ hnew_; clear hg_ hnew_; (first | rw [← Ny479.out] at ho165 | (simp only [Int.reduceToNat] at ho165; rw [← Ny479.out] at ho165)); have n0_ := Aside0.mk (Kd.R_lower ho165 (below_size (mvB HB))); have n1_ := Aside0.mk (below_step (mvB HB) hb); clear HB; have HO481 := n0_; have HB := n1_; clear n0_ n1_; clear hb ho165; obtain ⟨Ao166, co166, eo166⟩ := Kd.R_slice HO481.out; subst eo166) | ((with_reducible refine gate_callee (f := 13) rfl ?_); refine goesL_ (some 229) rfl rfl Try.func13 (by kernel_rfl) rfl #[.slice Ao166 y479.length co166] rfl (by (try simp only [List.map_toArray, List.map_cons, List.map_nil]); first | done | rfl | (simp only [List.length_drop, List.length_take]; rfl)) ?_; (with_reducible refine (explicit_Base.calls kj98 _ _ y479 t482 _ ?side1 ?side2 A149.out).mono ?_); (case side1 => repeat (first | exact (Kd.R_reads' HO481.out).2.2 | (with_reducible refine Kd.C_alloc ?_ _) | (with_reducible refine Kd.C_drewN ?_ _) | (with_reducible refine Kd.C_drew ?_))); (case side2 => exact (Kd.R_reads' HO481.out).2.1); rintro e w167 ⟨rfl, hb⟩; refine ⟨_, rfl, ?_⟩; have n0_ := Aside0.mk (Kd.R_below (mvR HO481) hb); have n1_ := Aside0.mk (below_step (mvB HB) hb); clear HO481; clear HB; have HO481 := n0_; have HB := n1_; clear n0_ n1_; (try clear hb); (try clear hb2); (try clear hk); (try clear hi)) | ((with_reducible refine gate_dst (N := 232) rfl ?_); (try (refine gate_guard (by rfl) ?_; dsimp only)); refine Kd.R_lit (Kd.int .u8) _ 26 ?hg (N := 232) ?hd (xs := ([21, 2, 1] : List Int)) (inner := [.int .u8 21, .int .u8 2, .int .u8 1]) (ok := fun _ => True) (okp := fun _ => True) ?hr ?hp (fun _ hk => hk) trivial (Below.refl _ _) (Nat.le_refl _) (by simp) ?_; (case hd => rfl); (case hg => rfl); (case hr => first | (go_simp; done) | (go_simp; rfl)); (case hp => exact (Reps.one (show Kd.M (Kd.int .u8) _ _ _ 21 [.int .u8 21] from rfl) (Reps.one (show Kd.M (Kd.int .u8) _ _ _ 2 [.int .u8 2] from rfl) (Reps.one (show Kd.M (Kd.int .u8) _ _ _ 1 [.int .u8 1] from rfl) (Reps.none _ _))))); intro v484 w168 ho169 hb hg_ hnew_; clear hg_ hnew_; (first | rw [← Ny483.out] at ho169 | (simp only [Int.reduceToNat] at ho169; rw [← Ny483.out] at ho169)); have n0_ := Aside0.mk (Kd.R_elder' (mvR HO481) (Kd.R_base ho169) hb); have n1_ := Aside0.mk (Kd.R_lower (Kd.R_new' ho169 (Kd.R_lt (mvR HO481))) (below_size (mvB HB))); have n2_ := Aside0.mk (below_step (mvB HB) hb); clear HO481; clear HB; have HO481 := n0_; have HO485 := n1_; have HB := n2_; clear n0_ n1_ n2_; clear hb ho169; obtain ⟨Ao170, co170, eo170⟩ := Kd.R_slice HO485.out; subst eo170) | (go_at_call 13; (with_reducible refine (explicit_Base.calls kj98 _ _ y483 t486 _ ?side1 ?side2 A151.out).mono ?_); (case side1 => repeat (first | exact (Kd.R_reads' HO485.out).2.2 | (with_reducible refine Kd.C_alloc ?_ _) | (with_reducible refine Kd.C_drewN ?_ _) | (with_reducible refine Kd.C_drew ?_))); (case side2 => exact (Kd.R_reads' HO485.out).2.1); rintro e w171 ⟨rfl, hb⟩; have n0_ := Aside0.mk (Kd.R_below (mvR HO481) hb); have n1_ := Aside0.mk (Kd.R_below (mvR HO485) hb); have n2_ := Aside0.mk (below_step (mvB HB) hb); clear HO481; clear HO485; clear HB; have HO481 := n0_; have HO485 := n1_; have HB := n2_; clear n0_ n1_ n2_; (try clear hb); (try clear hb2); (try clear hk); (try clear hi)) | ((with_reducible refine gate_dst (N := 237) rfl ?_); (try (refine gate_guard (by rfl) ?_; dsimp only)); refine Kd.R_lit (Kd.int .u8) _ 26 ?hg (N := 237) ?hd (xs := ([23, 3] : List Int)) (inner := [.int .u8 23, .int .u8 3]) (ok := fun _ => True) (okp := fun _ => True) ?hr ?hp (fun _ hk => hk) trivial (Below.refl _ _) (Nat.le_refl _) (by simp) ?_; (case hd => rfl); (case hg => rfl); (case hr => first | (go_simp; done) | (go_simp; rfl)); (case hp => exact (Reps.one (show Kd.M (Kd.int .u8) _ _ _ 23 [.int .u8 23] from rfl) (Reps.one (show Kd.M (Kd.int .u8) _ _ _ 3 [.int .u8 3] from rfl) (Reps.none _ _)))); intro v488 w172 ho173 hb hg_ hnew_; clear hg_ hnew_; (first | rw [← Ny487.out] at ho173 | (simp only [Int.reduceToNat] at ho173; rw [← Ny487.out] at ho173)); have n0_ := Aside0.mk (Kd.R_elder' (mvR HO481) (Kd.R_base ho173) hb); have n1_ := Aside0.mk (Kd.R_elder' (mvR HO485) (Kd.R_base ho173) hb); have n2_ := Aside0.mk (Kd.R_lower (Kd.R_new' (Kd.R_new' ho173 (Kd.R_lt (mvR HO481))) (Kd.R_lt (mvR HO485))) (below_size (mvB HB))); have n3_ := Aside0.mk (below_step (mvB HB) hb); clear HO481; clear HO485; clear HB; have HO481 := n0_; have HO485 := n1_; have HO489 := n2_; have HB := n3_; clear n0_ n1_ n2_ n3_; clear hb ho173; obtain ⟨Ao174, co174, eo174⟩ := Kd.R_slice HO489.out; subst eo174) | (go_at_call 13; (with_reducible refine (explicit_Base.calls kj98 _ _ y487 t490 _ ?side1 ?side2 A153.out).mono ?_); (case side1 => repeat (first | exact (Kd.R_reads' HO489.out).2.2 | (with_reducible refine Kd.C_alloc ?_ _) | (with_reducible refine Kd.C_drewN ?_ _) | (with_reducible refine Kd.C_drew ?_))); (case side2 => exact (Kd.R_reads' HO489.out).2.1); rintro e w175 ⟨rfl, hb⟩; have n0_ := Aside0.mk (Kd.R_below (mvR HO481) hb); have n1_ := Aside0.mk (Kd.R_below (mvR HO485) hb); have n2_ := Aside0.mk (Kd.R_below (mvR HO489) hb); have n3_ := Aside0.mk (below_step (mvB HB) hb); clear HO481; clear HO485; clear HO489; clear HB; have HO481 := n0_; have HO485 := n1_; have HO489 := n2_; have HB := n3_; clear n0_ n1_ n2_ n3_; (try clear hb); (try clear hb2); (try clear hk); (try clear hi)) | ((with_reducible refine gate_dst (N := 242) rfl ?_); (try (refine gate_guard (by rfl) ?_; dsimp only)); refine Kd.R_lit (Kd.int .u8) _ 26 ?hg (N := 242) ?hd (xs := ([14, 11, 2] : List Int)) (inner := [.int .u8 14, .int .u8 11, .int .u8 2]) (ok := fun _ => True) (okp := fun _ => True) ?hr ?hp (fun _ hk => hk) trivial (Below.refl _ _) (Nat.le_refl _) (by simp) ?_; (case hd => rfl); (case hg => rfl); (case hr => first | (go_simp; done) | (go_simp; rfl)); (case hp => exact (Reps.one (show Kd.M (Kd.int .u8) _ _ _ 14 [.int .u8 14] from rfl) (Reps.one (show Kd.M (Kd.int .u8) _ _ _ 11 [.int .u8 11] from rfl) (Reps.one (show Kd.M (Kd.int .u8) _ _ _ 2 [.int .u8 2] from rfl) (Reps.none _ _))))); intro v492 w176 ho177 hb hg_ hnew_; clear hg_ hnew_; (first | rw [← Ny491.out] at ho177 | (simp only [Int.reduceToNat] at ho177; rw [← Ny491.out] at ho177)); have n0_ := Aside0.mk (Kd.R_elder' (mvR HO481) (Kd.R_base ho177) hb); have n1_ := Aside0.mk (Kd.R_elder' (mvR HO485) (Kd.R_base ho177) hb); have n2_ := Aside0.mk (Kd.R_elder' (mvR HO489) (Kd.R_base ho177) hb); have n3_ := Aside0.mk (Kd.R_lower (Kd.R_new' (Kd.R_new' (Kd.R_new' ho177 (Kd.R_lt (mvR HO481))) (Kd.R_lt (mvR HO485))) (Kd.R_lt (mvR HO489))) (below_size (mvB HB))); have n4_ := Aside0.mk (below_step (mvB HB) hb); clear HO481; clear HO485; clear HO489; clear HB; have HO481 := n0_; have HO485 := n1_; have HO489 := n2_; have HO493 := n3_; have HB := n4_; clear n0_ n1_ n2_ n3_ n4_; clear hb ho177; obtain ⟨Ao178, co178, eo178⟩ := Kd.R_slice HO493.out; subst eo178) | (go_at_call 13; (with_reducible refine (explicit_Base.calls kj98 _ _ y491 t494 _ ?side1 ?side2 A155.out).mono ?_); (case side1 => repeat (first | exact (Kd.R_reads' HO493.out).2.2 | (with_reducible refine Kd.C_alloc ?_ _) | (with_reducible refine Kd.C_drewN ?_ _) | (with_reducible refine Kd.C_drew ?_))); (case side2 => exact (Kd.R_reads' HO493.out).2.1); rintro e w179 ⟨rfl, hb⟩; have n0_ := Aside0.mk (Kd.R_below (mvR HO481) hb); have n1_ := Aside0.mk (Kd.R_below (mvR HO485) hb); have n2_ := Aside0.mk (Kd.R_below (mvR HO489) hb); have n3_ := Aside0.mk (Kd.R_below (mvR HO493) hb); have n4_ := Aside0.mk (below_step (mvB HB) hb); clear HO481; clear HO485; clear HO489; clear HO493; clear HB; have HO481 := n0_; have HO485 := n1_; have HO489 := n2_; have HO493 := n3_; have HB := n4_; clear n0_ n1_ n2_ n3_ n4_; (try clear hb); (try clear hb2); (try clear hk); (try clear hi)) | ((with_reducible refine gate_dst (N := 247) rfl ?_); (try (refine gate_guard (by rfl) ?_; dsimp only)); refine Kd.R_lit (Kd.int .u8) _ 26 ?hg (N := 247) ?hd (xs := ([16, 4, 9, 2] : List Int)) (inner := [.int .u8 16, .int .u8 4, .int .u8 9, .int .u8 2]) (ok := fun _ => True) (okp := fun _ => True) ?hr ?hp (fun _ hk => hk) trivial (Below.refl _ _) (Nat.le_refl _) (by simp) ?_; (case hd => rfl); (case hg => rfl); (case hr => first | (go_simp; done) | (go_simp; rfl)); (case hp => exact (Reps.one (show Kd.M (Kd.int .u8) _ _ _ 16 [.int .u8 16] from rfl) (Reps.one (show Kd.M (Kd.int .u8) _ _ _ 4 [.int .u8 4] from rfl) (Reps.one (show Kd.M (Kd.int .u8) _ _ _ 9 [.int .u8 9] from rfl) (Reps.one (show Kd.M (Kd.int .u8) _ _ _ 2 [.int .u8 2] from rfl) (Reps.none _ _)))))); intro v496 w180 ho181 hb hg_ hnew_; clear hg_ hnew_; (first | rw [← Ny495.out] at ho181 | (simp only [Int.reduceToNat] at ho181; rw [← Ny495.out] at ho181)); have n0_ := Aside0.mk (Kd.R_elder' (mvR HO481) (Kd.R_base ho181) hb); have n1_ := Aside0.mk (Kd.R_elder' (mvR HO485) (Kd.R_base ho181) hb); have n2_ := Aside0.mk (Kd.R_elder' (mvR HO489) (Kd.R_base ho181) hb); have n3_ := Aside0.mk (Kd.R_elder' (mvR HO493) (Kd.R_base ho181) hb); have n4_ := Aside0.mk (Kd.R_lower (Kd.R_new' (Kd.R_new' (Kd.R_new' (Kd.R_new' ho181 (Kd.R_lt (mvR HO481))) (Kd.R_lt (mvR HO485))) (Kd.R_lt (mvR HO489))) (Kd.R_lt (mvR HO493))) (below_size (mvB HB))); have n5_ := Aside0.mk (below_step (mvB HB) hb); clear HO481; clear HO485; clear HO489; clear HO493; clear HB; have HO481 := n0_; have HO485 := n1_; have HO489 := n2_; have HO493 := n3_; have HO497 := n4_; have HB := n5_; clear n0_ n1_ n2_ n3_ n4_ n5_; clear hb ho181; obtain ⟨Ao182, co182, eo182⟩ := Kd.R_slice HO497.out; subst eo182) | (go_at_call 13; (with_reducible refine (explicit_Base.calls kj98 _ _ y495 t498 _ ?side1 ?side2 A157.out).mono ?_); (case side1 => repeat (first | exact (Kd.R_reads' HO497.out).2.2 | (with_reducible refine Kd.C_alloc ?_ _) | (with_reducible refine Kd.C_drewN ?_ _) | (with_reducible refine Kd.C_drew ?_))); (case side2 => exact (Kd.R_reads' HO497.out).2.1); rintro e w183 ⟨rfl, hb⟩; have n0_ := Aside0.mk (Kd.R_below (mvR HO481) hb); have n1_ := Aside0.mk (Kd.R_below (mvR HO485) hb); have n2_ := Aside0.mk (Kd.R_below (mvR HO489) hb); have n3_ := Aside0.mk (Kd.R_below (mvR HO493) hb); have n4_ := Aside0.mk (Kd.R_below (mvR HO497) hb); have n5_ := Aside0.mk (below_step (mvB HB) hb); clear HO481; clear HO485; clear HO489; clear HO493; clear HO497; clear HB; have HO481 := n0_; have HO485 := n1_; have HO489 := n2_; have HO493 := n3_; have HO497 := n4_; have HB := n5_; clear n0_ n1_ n2_ n3_ n4_ n5_; (try clear hb); (try clear hb2); (try clear hk); (try clear hi)) | ((with_reducible refine gate_dst (N := 252) rfl ?_); (try (refine gate_guard (by rfl) ?_; dsimp only)); refine Kd.R_lit (Kd.int .u8) _ 26 ?hg (N := 252) ?hd (xs := ([20, 11, 2] : List Int)) (inner := [.int .u8 20, .int .u8 11, .int .u8 2]) (ok := fun _ => True) (okp := fun _ => True) ?hr ?hp (fun _ hk => hk) trivial (Below.refl _ _) (Nat.le_refl _) (by simp) ?_; (case hd => rfl); (case hg => rfl); (case hr => first | (go_simp; done) | (go_simp; rfl)); (case hp => exact (Reps.one (show Kd.M (Kd.int .u8) _ _ _ 20 [.int .u8 20] from rfl) (Reps.one (show Kd.M (Kd.int .u8) _ _ _ 11 [.int .u8 11] from rfl) (Reps.one (show Kd.M (Kd.int .u8) _ _ _ 2 [.int .u8 2] from rfl) (Reps.none _ _))))); intro v500 w184 ho185 hb hg_ hnew_; clear hg_ hnew_; (first | rw [← Ny499.out] at ho185 | (simp only [Int.reduceToNat] at ho185; rw [← Ny499.out] at ho185)); have n0_ := Aside0.mk (Kd.R_elder' (mvR HO481) (Kd.R_base ho185) hb); have n1_ := Aside0.mk (Kd.R_elder' (mvR HO485) (Kd.R_base ho185) hb); have n2_ := Aside0.mk (Kd.R_elder' (mvR HO489) (Kd.R_base ho185) hb); have n3_ := Aside0.mk (Kd.R_elder' (mvR HO493) (Kd.R_base ho185) hb); have n4_ := Aside0.mk (Kd.R_elder' (mvR HO497) (Kd.R_base ho185) hb); have n5_ := Aside0.mk (Kd.R_lower (Kd.R_new' (Kd.R_new' (Kd.R_new' (Kd.R_new' (Kd.R_new' ho185 (Kd.R_lt (mvR HO481))) (Kd.R_lt (mvR HO485))) (Kd.R_lt (mvR HO489))) (Kd.R_lt (mvR HO493))) (Kd.R_lt (mvR HO497))) (below_size (mvB HB))); have n6_ := Aside0.mk (below_step (mvB HB) hb); clear HO481; clear HO485; clear HO489; clear HO493; clear HO497; clear HB; have HO481 := n0_; have HO485 := n1_; have HO489 := n2_; have HO493 := n3_; have HO497 := n4_; have HO501 := n5_; have HB := n6_; clear n0_ n1_ n2_ n3_ n4_ n5_ n6_; clear hb ho185; obtain ⟨Ao186, co186, eo186⟩ := Kd.R_slice HO501.out; subst eo186) | (go_at_call 13; (with_reducible refine (explicit_Base.calls kj98 _ _ y499 t502 _ ?side1 ?side2 A159.out).mono ?_); (case side1 => repeat (first | exact (Kd.R_reads' HO501.out).2.2 | (with_reducible refine Kd.C_alloc ?_ _) | (with_reducible refine Kd.C_drewN ?_ _) | (with_reducible refine Kd.C_drew ?_))); (case side2 => exact (Kd.R_reads' HO501.out).2.1); rintro e w187 ⟨rfl, hb⟩; have n0_ := Aside0.mk (Kd.R_below (mvR HO481) hb); have n1_ := Aside0.mk (Kd.R_below (mvR HO485) hb); have n2_ := Aside0.mk (Kd.R_below (mvR HO489) hb); have n3_ := Aside0.mk (Kd.R_below (mvR HO493) hb); have n4_ := Aside0.mk (Kd.R_below (mvR HO497) hb); have n5_ := Aside0.mk (Kd.R_below (mvR HO501) hb); have n6_ := Aside0.mk (below_step (mvB HB) hb); clear HO481; clear HO485; clear HO489; clear HO493; clear HO497; clear HO501; clear HB; have HO481 := n0_; have HO485 := n1_; have HO489 := n2_; have HO493 := n3_; have HO497 := n4_; have HO501 := n5_; have HB := n6_; clear n0_ n1_ n2_ n3_ n4_ n5_ n6_; (try clear hb); (try clear hb2); (try clear hk); (try clear hi)) | (go_at_call 10; (with_reducible refine (selvedgelaw14_works.calls kj98  t503 _ A163.out).mono ?_); rintro e w188 ⟨rfl, hb⟩; have n0_ := Aside0.mk (Kd.R_below (mvR HO481) hb); have n1_ := Aside0.mk (Kd.R_below (mvR HO485) hb); have n2_ := Aside0.mk (Kd.R_below (mvR HO489) hb); have n3_ := Aside0.mk (Kd.R_below (mvR HO493) hb); have n4_ := Aside0.mk (Kd.R_below (mvR HO497) hb); have n5_ := Aside0.mk (Kd.R_below (mvR HO501) hb); have n6_ := Aside0.mk (below_step (mvB HB) hb); clear HO481; clear HO485; clear HO489; clear HO493; clear HO497; clear HO501; clear HB; have HO481 := n0_; have HO485 := n1_; have HO489 := n2_; have HO493 := n3_; have HO497 := n4_; have HO501 := n5_; have HB := n6_; clear n0_ n1_ n2_ n3_ n4_ n5_ n6_; (try clear hb); (try clear hb2); (try clear hk); (try clear hi)))
                go_ret
                exact ⟨by first | rfl | (simp [errW_none, errW_some] <;> rfl) | (simp [*, errW_none, errW_some] <;> rfl), mvB HB⟩
               ·rw [if_neg c162] at H
                exact absurd H (by simp)
              ·rw [if_neg c161] at H
               exact absurd H (by simp)
             ·rw [if_neg c160] at H
              exact absurd H (by simp)
            ·rw [if_neg c158] at H
             exact absurd H (by simp)
           ·rw [if_neg c156] at H
            exact absurd H (by simp)
          ·rw [if_neg c154] at H
           exact absurd H (by simp)
         ·rw [if_neg c152] at H
          exact absurd H (by simp)
        ·rw [if_neg c150] at H
         exact absurd H (by simp)
/-- THE ONE PURE STATEMENT of selvedgelaw14_ExplicitKnown: yours. -/
def selvedgelaw14_ExplicitKnown.Pure : Prop := ∃ k, selvedgelaw14_ExplicitKnown.f k  = some true
theorem selvedgelaw14_ExplicitKnown.walk (P : selvedgelaw14_ExplicitKnown.Pure)  (w : World)  :
  Calls Try.prog 9 #[] w fun e w' => e = .returned (.bool true) ∧ Below w.heap.size w w' := by
 obtain ⟨k, h⟩ := P  
 refine (selvedgelaw14_ExplicitKnown.calls k  true w h).mono ?_
 rintro e w' ⟨rfl, hd⟩
 exact ⟨rfl, hd⟩

end Go.Proofs.Ytdkbkecnhebanaa.X
