-- by xprint.py: the kit's printer over texts of this session
import Derived.Test.YtnpcfiahmadkjaaX0
import Derived.Test.YtnpcfiahmadkjaaX1
import Derived.Test.YtnpcfiahmadkjaaX5
import Derived.Test.YtnpcfiahmadkjaaX6
namespace Go.Proofs.Ytnpcfiahmadkjaa.X
open Go.RowKit Go.Proofs.YtnpcfiahmadkjaaW.PrintWords Go.Proofs.YtnpcfiahmadkjaaW.PrintLast Go.Proofs.YtnpcfiahmadkjaaW.PrintMore
attribute [local go_sem] max2_int min2_int max_two min_two max_three min_three max_four min_four   -- for this text's walks alone
set_option linter.unusedVariables false
set_option linter.unusedSimpArgs false

/-! ### selvedgelaw16_WeakKnown: function 8 -/
mutual
def selvedgelaw16_WeakKnown.j0 : Nat → Bool → Option (Bool)
 | 0, _ => none
 | k + 1, x1 => (weak_Resolve.f (([4, 10, 8, 10, 4, 10, 6] : List Int)) 1).bind fun t328 => ((selvedgelaw16_is.f k t328 (([1, 10, 1, 10, 1, 10, 1] : List Int))).bind fun t334 => (if t334 = true then ((weak_Resolve.f (([6, 10, 6, 5] : List Int)) 2).bind fun t338 => ((selvedgelaw16_is.f k t338 (([14, 10, 14, 14] : List Int))).bind fun t344 => (if t344 = true then ((weak_Resolve.f ([] : List Int) 1).bind fun t345 => (selvedgelaw16_WeakKnown.j1 k x1 ((t345.length : Int) == 0))) else (selvedgelaw16_WeakKnown.j1 k x1 false)))) else (selvedgelaw16_WeakKnown.j1 k x1 false)))
def selvedgelaw16_WeakKnown.j1 : Nat → Bool → Bool → Option (Bool)
 | 0, _, _ => none
 | k + 1, x1, x2 => selvedgelaw16_WeakKnown.l0 k x1 x2 ([] : List Int) 1
def selvedgelaw16_WeakKnown.l0 : Nat → Bool → Bool → List Int → Int → Option (Bool)
 | 0, _, _, _, _ => none
 | k + 1, x1, x2, x3, x4 => if x4 ≤ 23 then (selvedgelaw16_WeakKnown.l1 k x1 x2 x3 x4 1) else (if x1 = true then (if x2 = true then (if 2999 ≤ (x3.length : Int) then ((selvedgelaw16_WeakResolves.f k (x3.take 2999) 2).bind fun t366 => (if t366 = true then (if 3000 ≤ 6000 then (if 6000 ≤ (x3.length : Int) then ((selvedgelaw16_WeakResolves.f k ((x3.take 6000).drop 3000) 1).bind fun t371 => (if t371 = true then ((selvedgelaw16_WeakResolves.f k (([0, 99, 255, 9] : List Int)) 77).bind fun t375 => (if t375 = true then ((selvedgelaw16_works.f k).bind fun t376 => (some t376)) else (some false))) else (some false))) else (none)) else (none)) else (some false))) else (none)) else (some false)) else (some false))
def selvedgelaw16_WeakKnown.l1 : Nat → Bool → Bool → List Int → Int → Int → Option (Bool)
 | 0, _, _, _, _, _ => none
 | k + 1, x1, x2, x3, x4, x5 => if x5 ≤ 23 then (selvedgelaw16_WeakKnown.l2 k x1 x2 x3 x4 x5 1) else (selvedgelaw16_WeakKnown.l0 k x1 x2 x3 ((x4 + 1) % 256))
def selvedgelaw16_WeakKnown.l2 : Nat → Bool → Bool → List Int → Int → Int → Int → Option (Bool)
 | 0, _, _, _, _, _, _ => none
 | k + 1, x1, x2, x3, x4, x5, x6 => if x6 ≤ 23 then ((some (([x4, x5, x6] : List Int) : List Int)).bind fun y348 => (if x3.length + y348.length < 140737488355328 then (selvedgelaw16_WeakKnown.l2 k x1 x2 (x3 ++ y348) x4 x5 ((x6 + 2) % 256)) else (none))) else ((selvedgelaw16_WeakResolves.f k (([x4, x5, x4] : List Int)) x4).bind fun t357 => (if t357 = true then ((selvedgelaw16_WeakEnds.f k (([x4, x5, 4, x5] : List Int)) 2).bind fun t361 => (if t361 = true then (selvedgelaw16_WeakKnown.l1 k x1 x2 x3 x4 ((x5 + 1) % 256)) else (some false))) else (some false)))
end
def selvedgelaw16_WeakKnown.f (k : Nat)  : Option (Bool) := (weak_Resolve.f (([9, 21, 9, 23, 9] : List Int)) 2).bind fun t298 => ((selvedgelaw16_is.f k t298 (([2, 21, 14, 23, 14] : List Int))).bind fun t304 => (if t304 = true then ((weak_Resolve.f (([1, 4, 8, 4, 5, 4, 6] : List Int)) 2).bind fun t308 => ((selvedgelaw16_is.f k t308 (([1, 1, 1, 1, 1, 1, 1] : List Int))).bind fun t314 => (if t314 = true then ((weak_Resolve.f (([2, 4, 8, 7, 6, 6, 4, 6] : List Int)) 1).bind fun t318 => ((selvedgelaw16_is.f k t318 (([2, 4, 14, 7, 4, 4, 4, 4] : List Int))).bind fun t324 => (selvedgelaw16_WeakKnown.j0 k t324))) else (selvedgelaw16_WeakKnown.j0 k false)))) else (selvedgelaw16_WeakKnown.j0 k false)))
theorem selvedgelaw16_WeakKnown.mono_l : ∀ k, (∀ y0, LeO (selvedgelaw16_WeakKnown.j0 k y0) (selvedgelaw16_WeakKnown.j0 (k + 1) y0)) ∧ (∀ y0 y1, LeO (selvedgelaw16_WeakKnown.j1 k y0 y1) (selvedgelaw16_WeakKnown.j1 (k + 1) y0 y1)) ∧ (∀ y0 y1 y2 y3, LeO (selvedgelaw16_WeakKnown.l0 k y0 y1 y2 y3) (selvedgelaw16_WeakKnown.l0 (k + 1) y0 y1 y2 y3)) ∧ (∀ y0 y1 y2 y3 y4, LeO (selvedgelaw16_WeakKnown.l1 k y0 y1 y2 y3 y4) (selvedgelaw16_WeakKnown.l1 (k + 1) y0 y1 y2 y3 y4)) ∧ (∀ y0 y1 y2 y3 y4 y5, LeO (selvedgelaw16_WeakKnown.l2 k y0 y1 y2 y3 y4 y5) (selvedgelaw16_WeakKnown.l2 (k + 1) y0 y1 y2 y3 y4 y5))
 | 0 => ⟨fun _ r h => by simp [selvedgelaw16_WeakKnown.j0] at h, fun _ _ r h => by simp [selvedgelaw16_WeakKnown.j1] at h, fun _ _ _ _ r h => by simp [selvedgelaw16_WeakKnown.l0] at h, fun _ _ _ _ _ r h => by simp [selvedgelaw16_WeakKnown.l1] at h, fun _ _ _ _ _ _ r h => by simp [selvedgelaw16_WeakKnown.l2] at h⟩
 | k + 1 => by
  obtain ⟨ih0, ih1, ih2, ih3, ih4⟩ := selvedgelaw16_WeakKnown.mono_l k
  refine ⟨?_, ?_, ?_, ?_, ?_⟩
  ·intro y0
   unfold selvedgelaw16_WeakKnown.j0
   repeat' first
   | (with_reducible exact ih0 _)
   | (with_reducible exact ih1 _ _)
   | (with_reducible exact ih2 _ _ _ _)
   | (with_reducible exact ih3 _ _ _ _ _)
   | (with_reducible exact ih4 _ _ _ _ _ _)
   | (with_reducible exact selvedgelaw16_WeakEnds.mono _ _ _)
   | (with_reducible exact selvedgelaw16_WeakResolves.mono _ _ _)
   | (with_reducible exact selvedgelaw16_is.mono _ _ _)
   | (with_reducible exact selvedgelaw16_works.mono _)
   | (with_reducible exact LeO.refl _)
   | (with_reducible exact LeO.none _)
   | (with_reducible refine LeO.ite ?_ ?_)
   | (with_reducible refine LeO.bind ?_ (fun _ => ?_))
   | exact ih0 _
   | exact ih1 _ _
   | exact ih2 _ _ _ _
   | exact ih3 _ _ _ _ _
   | exact ih4 _ _ _ _ _ _
   | exact selvedgelaw16_WeakEnds.mono _ _ _
   | exact selvedgelaw16_WeakResolves.mono _ _ _
   | exact selvedgelaw16_is.mono _ _ _
   | exact selvedgelaw16_works.mono _
   | exact LeO.none _
   | refine LeO.ite ?_ ?_
   | refine LeO.bind ?_ (fun _ => ?_)
  ·intro y0 y1
   unfold selvedgelaw16_WeakKnown.j1
   repeat' first
   | (with_reducible exact ih0 _)
   | (with_reducible exact ih1 _ _)
   | (with_reducible exact ih2 _ _ _ _)
   | (with_reducible exact ih3 _ _ _ _ _)
   | (with_reducible exact ih4 _ _ _ _ _ _)
   | (with_reducible exact selvedgelaw16_WeakEnds.mono _ _ _)
   | (with_reducible exact selvedgelaw16_WeakResolves.mono _ _ _)
   | (with_reducible exact selvedgelaw16_is.mono _ _ _)
   | (with_reducible exact selvedgelaw16_works.mono _)
   | (with_reducible exact LeO.refl _)
   | (with_reducible exact LeO.none _)
   | (with_reducible refine LeO.ite ?_ ?_)
   | (with_reducible refine LeO.bind ?_ (fun _ => ?_))
   | exact ih0 _
   | exact ih1 _ _
   | exact ih2 _ _ _ _
   | exact ih3 _ _ _ _ _
   | exact ih4 _ _ _ _ _ _
   | exact selvedgelaw16_WeakEnds.mono _ _ _
   | exact selvedgelaw16_WeakResolves.mono _ _ _
   | exact selvedgelaw16_is.mono _ _ _
   | exact selvedgelaw16_works.mono _
   | exact LeO.none _
   | refine LeO.ite ?_ ?_
   | refine LeO.bind ?_ (fun _ => ?_)
  ·intro y0 y1 y2 y3
   unfold selvedgelaw16_WeakKnown.l0
   repeat' first
   | (with_reducible exact ih0 _)
   | (with_reducible exact ih1 _ _)
   | (with_reducible exact ih2 _ _ _ _)
   | (with_reducible exact ih3 _ _ _ _ _)
   | (with_reducible exact ih4 _ _ _ _ _ _)
   | (with_reducible exact selvedgelaw16_WeakEnds.mono _ _ _)
   | (with_reducible exact selvedgelaw16_WeakResolves.mono _ _ _)
   | (with_reducible exact selvedgelaw16_is.mono _ _ _)
   | (with_reducible exact selvedgelaw16_works.mono _)
   | (with_reducible exact LeO.refl _)
   | (with_reducible exact LeO.none _)
   | (with_reducible refine LeO.ite ?_ ?_)
   | (with_reducible refine LeO.bind ?_ (fun _ => ?_))
   | exact ih0 _
   | exact ih1 _ _
   | exact ih2 _ _ _ _
   | exact ih3 _ _ _ _ _
   | exact ih4 _ _ _ _ _ _
   | exact selvedgelaw16_WeakEnds.mono _ _ _
   | exact selvedgelaw16_WeakResolves.mono _ _ _
   | exact selvedgelaw16_is.mono _ _ _
   | exact selvedgelaw16_works.mono _
   | exact LeO.none _
   | refine LeO.ite ?_ ?_
   | refine LeO.bind ?_ (fun _ => ?_)
  ·intro y0 y1 y2 y3 y4
   unfold selvedgelaw16_WeakKnown.l1
   repeat' first
   | (with_reducible exact ih0 _)
   | (with_reducible exact ih1 _ _)
   | (with_reducible exact ih2 _ _ _ _)
   | (with_reducible exact ih3 _ _ _ _ _)
   | (with_reducible exact ih4 _ _ _ _ _ _)
   | (with_reducible exact selvedgelaw16_WeakEnds.mono _ _ _)
   | (with_reducible exact selvedgelaw16_WeakResolves.mono _ _ _)
   | (with_reducible exact selvedgelaw16_is.mono _ _ _)
   | (with_reducible exact selvedgelaw16_works.mono _)
   | (with_reducible exact LeO.refl _)
   | (with_reducible exact LeO.none _)
   | (with_reducible refine LeO.ite ?_ ?_)
   | (with_reducible refine LeO.bind ?_ (fun _ => ?_))
   | exact ih0 _
   | exact ih1 _ _
   | exact ih2 _ _ _ _
   | exact ih3 _ _ _ _ _
   | exact ih4 _ _ _ _ _ _
   | exact selvedgelaw16_WeakEnds.mono _ _ _
   | exact selvedgelaw16_WeakResolves.mono _ _ _
   | exact selvedgelaw16_is.mono _ _ _
   | exact selvedgelaw16_works.mono _
   | exact LeO.none _
   | refine LeO.ite ?_ ?_
   | refine LeO.bind ?_ (fun _ => ?_)
  ·intro y0 y1 y2 y3 y4 y5
   unfold selvedgelaw16_WeakKnown.l2
   repeat' first
   | (with_reducible exact ih0 _)
   | (with_reducible exact ih1 _ _)
   | (with_reducible exact ih2 _ _ _ _)
   | (with_reducible exact ih3 _ _ _ _ _)
   | (with_reducible exact ih4 _ _ _ _ _ _)
   | (with_reducible exact selvedgelaw16_WeakEnds.mono _ _ _)
   | (with_reducible exact selvedgelaw16_WeakResolves.mono _ _ _)
   | (with_reducible exact selvedgelaw16_is.mono _ _ _)
   | (with_reducible exact selvedgelaw16_works.mono _)
   | (with_reducible exact LeO.refl _)
   | (with_reducible exact LeO.none _)
   | (with_reducible refine LeO.ite ?_ ?_)
   | (with_reducible refine LeO.bind ?_ (fun _ => ?_))
   | exact ih0 _
   | exact ih1 _ _
   | exact ih2 _ _ _ _
   | exact ih3 _ _ _ _ _
   | exact ih4 _ _ _ _ _ _
   | exact selvedgelaw16_WeakEnds.mono _ _ _
   | exact selvedgelaw16_WeakResolves.mono _ _ _
   | exact selvedgelaw16_is.mono _ _ _
   | exact selvedgelaw16_works.mono _
   | exact LeO.none _
   | refine LeO.ite ?_ ?_
   | refine LeO.bind ?_ (fun _ => ?_)
theorem selvedgelaw16_WeakKnown.mono : ∀ k, LeO (selvedgelaw16_WeakKnown.f k ) (selvedgelaw16_WeakKnown.f (k + 1) ) := by
 intro  k
 obtain ⟨ih0, ih1, ih2, ih3, ih4⟩ := selvedgelaw16_WeakKnown.mono_l k
 unfold selvedgelaw16_WeakKnown.f
 repeat' first
   | (with_reducible exact ih0 _)
   | (with_reducible exact ih1 _ _)
   | (with_reducible exact ih2 _ _ _ _)
   | (with_reducible exact ih3 _ _ _ _ _)
   | (with_reducible exact ih4 _ _ _ _ _ _)
   | (with_reducible exact selvedgelaw16_WeakEnds.mono _ _ _)
   | (with_reducible exact selvedgelaw16_WeakResolves.mono _ _ _)
   | (with_reducible exact selvedgelaw16_is.mono _ _ _)
   | (with_reducible exact selvedgelaw16_works.mono _)
   | (with_reducible exact LeO.refl _)
   | (with_reducible exact LeO.none _)
   | (with_reducible refine LeO.ite ?_ ?_)
   | (with_reducible refine LeO.bind ?_ (fun _ => ?_))
   | exact ih0 _
   | exact ih1 _ _
   | exact ih2 _ _ _ _
   | exact ih3 _ _ _ _ _
   | exact ih4 _ _ _ _ _ _
   | exact selvedgelaw16_WeakEnds.mono _ _ _
   | exact selvedgelaw16_WeakResolves.mono _ _ _
   | exact selvedgelaw16_is.mono _ _ _
   | exact selvedgelaw16_works.mono _
   | exact LeO.none _
   | refine LeO.ite ?_ ?_
   | refine LeO.bind ?_ (fun _ => ?_)
set_option maxHeartbeats 8000000 in
set_option maxRecDepth 100000 in
theorem selvedgelaw16_WeakKnown.calls (k : Nat)  (r : Bool) (w : World) (h : selvedgelaw16_WeakKnown.f k  = some r) :
  Calls Try.prog 8 #[] w fun e w' => e = .returned (.bool r) ∧ Below w.heap.size w w' := by
 have HB := Aside0.mk (Below.refl w.heap.size w)
 have H : ((weak_Resolve.f (([9, 21, 9, 23, 9] : List Int)) 2).bind fun t298 => ((selvedgelaw16_is.f k t298 (([2, 21, 14, 23, 14] : List Int))).bind fun t304 => (if t304 = true then ((weak_Resolve.f (([1, 4, 8, 4, 5, 4, 6] : List Int)) 2).bind fun t308 => ((selvedgelaw16_is.f k t308 (([1, 1, 1, 1, 1, 1, 1] : List Int))).bind fun t314 => (if t314 = true then ((weak_Resolve.f (([2, 4, 8, 7, 6, 6, 4, 6] : List Int)) 1).bind fun t318 => ((selvedgelaw16_is.f k t318 (([2, 4, 14, 7, 4, 4, 4, 4] : List Int))).bind fun t324 => (selvedgelaw16_WeakKnown.j0 k t324))) else (selvedgelaw16_WeakKnown.j0 k false)))) else (selvedgelaw16_WeakKnown.j0 k false)))) = some r := h
 clear h
 have HC1 := Aside0.mk H
 clear H
 go_enter Try.func8, Try.ntmps8
 go_upto_region 1 with (fail)
 go_cut [1] (fun v1 wc => ∃ (kq : Nat) (x1_0 : Bool), v1 = .bool x1_0 ∧ Aside0 (selvedgelaw16_WeakKnown.j0 kq x1_0 = some r) ∧ Aside0 (kq ≤ k) ∧ Aside0 (Below w.heap.size w wc))
 case first =>
  have H := HC1.out
  clear HC1
  obtain ⟨y295, hy295⟩ : ∃ y_ : List Int, y_ = (([9, 21, 9, 23, 9] : List Int)) := ⟨_, rfl⟩
  replace H : ((weak_Resolve.f y295 2).bind fun t298 => ((selvedgelaw16_is.f k t298 (([2, 21, 14, 23, 14] : List Int))).bind fun t304 => (if t304 = true then ((weak_Resolve.f (([1, 4, 8, 4, 5, 4, 6] : List Int)) 2).bind fun t308 => ((selvedgelaw16_is.f k t308 (([1, 1, 1, 1, 1, 1, 1] : List Int))).bind fun t314 => (if t314 = true then ((weak_Resolve.f (([2, 4, 8, 7, 6, 6, 4, 6] : List Int)) 1).bind fun t318 => ((selvedgelaw16_is.f k t318 (([2, 4, 14, 7, 4, 4, 4, 4] : List Int))).bind fun t324 => (selvedgelaw16_WeakKnown.j0 k t324))) else (selvedgelaw16_WeakKnown.j0 k false)))) else (selvedgelaw16_WeakKnown.j0 k false)))) = some r := by first | (rw [hy295]; with_reducible exact H) | (have H2_ := (Option.bind_some _ _).symm.trans H; rw [hy295]; with_reducible exact H2_) | (have H2_ := (Option.bind_some _ _).symm.trans H; with_reducible exact H2_) | with_reducible exact H | (rw [hy295]; exact H) | exact H
  have Ny295 := Aside0.mk hy295
  clear hy295
  replace H := Option.bind_eq_some_iff.mp H
  obtain ⟨t298, A20, H⟩ := H
  replace H : ((selvedgelaw16_is.f k t298 (([2, 21, 14, 23, 14] : List Int))).bind fun t304 => (if t304 = true then ((weak_Resolve.f (([1, 4, 8, 4, 5, 4, 6] : List Int)) 2).bind fun t308 => ((selvedgelaw16_is.f k t308 (([1, 1, 1, 1, 1, 1, 1] : List Int))).bind fun t314 => (if t314 = true then ((weak_Resolve.f (([2, 4, 8, 7, 6, 6, 4, 6] : List Int)) 1).bind fun t318 => ((selvedgelaw16_is.f k t318 (([2, 4, 14, 7, 4, 4, 4, 4] : List Int))).bind fun t324 => (selvedgelaw16_WeakKnown.j0 k t324))) else (selvedgelaw16_WeakKnown.j0 k false)))) else (selvedgelaw16_WeakKnown.j0 k false))) = some r := H
  have A2 := Aside0.mk A20
  clear A20
  obtain ⟨y301, hy301⟩ : ∃ y_ : List Int, y_ = (([2, 21, 14, 23, 14] : List Int)) := ⟨_, rfl⟩
  replace H : ((selvedgelaw16_is.f k t298 y301).bind fun t304 => (if t304 = true then ((weak_Resolve.f (([1, 4, 8, 4, 5, 4, 6] : List Int)) 2).bind fun t308 => ((selvedgelaw16_is.f k t308 (([1, 1, 1, 1, 1, 1, 1] : List Int))).bind fun t314 => (if t314 = true then ((weak_Resolve.f (([2, 4, 8, 7, 6, 6, 4, 6] : List Int)) 1).bind fun t318 => ((selvedgelaw16_is.f k t318 (([2, 4, 14, 7, 4, 4, 4, 4] : List Int))).bind fun t324 => (selvedgelaw16_WeakKnown.j0 k t324))) else (selvedgelaw16_WeakKnown.j0 k false)))) else (selvedgelaw16_WeakKnown.j0 k false))) = some r := by first | (rw [hy301]; with_reducible exact H) | (have H2_ := (Option.bind_some _ _).symm.trans H; rw [hy301]; with_reducible exact H2_) | (have H2_ := (Option.bind_some _ _).symm.trans H; with_reducible exact H2_) | with_reducible exact H | (rw [hy301]; exact H) | exact H
  have Ny301 := Aside0.mk hy301
  clear hy301
  replace H := Option.bind_eq_some_iff.mp H
  obtain ⟨t304, A30, H⟩ := H
  replace H : (if t304 = true then ((weak_Resolve.f (([1, 4, 8, 4, 5, 4, 6] : List Int)) 2).bind fun t308 => ((selvedgelaw16_is.f k t308 (([1, 1, 1, 1, 1, 1, 1] : List Int))).bind fun t314 => (if t314 = true then ((weak_Resolve.f (([2, 4, 8, 7, 6, 6, 4, 6] : List Int)) 1).bind fun t318 => ((selvedgelaw16_is.f k t318 (([2, 4, 14, 7, 4, 4, 4, 4] : List Int))).bind fun t324 => (selvedgelaw16_WeakKnown.j0 k t324))) else (selvedgelaw16_WeakKnown.j0 k false)))) else (selvedgelaw16_WeakKnown.j0 k false)) = some r := H
  have A3 := Aside0.mk A30
  clear A30
  by_cases c4 : t304 = true
  ·subst c4
   have H1 : ((weak_Resolve.f (([1, 4, 8, 4, 5, 4, 6] : List Int)) 2).bind fun t308 => ((selvedgelaw16_is.f k t308 (([1, 1, 1, 1, 1, 1, 1] : List Int))).bind fun t314 => (if t314 = true then ((weak_Resolve.f (([2, 4, 8, 7, 6, 6, 4, 6] : List Int)) 1).bind fun t318 => ((selvedgelaw16_is.f k t318 (([2, 4, 14, 7, 4, 4, 4, 4] : List Int))).bind fun t324 => (selvedgelaw16_WeakKnown.j0 k t324))) else (selvedgelaw16_WeakKnown.j0 k false)))) = some r := by rw [if_pos rfl] at H; exact H
   clear H
   have H := H1
   clear H1
   obtain ⟨y305, hy305⟩ : ∃ y_ : List Int, y_ = (([1, 4, 8, 4, 5, 4, 6] : List Int)) := ⟨_, rfl⟩
   replace H : ((weak_Resolve.f y305 2).bind fun t308 => ((selvedgelaw16_is.f k t308 (([1, 1, 1, 1, 1, 1, 1] : List Int))).bind fun t314 => (if t314 = true then ((weak_Resolve.f (([2, 4, 8, 7, 6, 6, 4, 6] : List Int)) 1).bind fun t318 => ((selvedgelaw16_is.f k t318 (([2, 4, 14, 7, 4, 4, 4, 4] : List Int))).bind fun t324 => (selvedgelaw16_WeakKnown.j0 k t324))) else (selvedgelaw16_WeakKnown.j0 k false)))) = some r := by first | (rw [hy305]; with_reducible exact H) | (have H2_ := (Option.bind_some _ _).symm.trans H; rw [hy305]; with_reducible exact H2_) | (have H2_ := (Option.bind_some _ _).symm.trans H; with_reducible exact H2_) | with_reducible exact H | (rw [hy305]; exact H) | exact H
   have Ny305 := Aside0.mk hy305
   clear hy305
   replace H := Option.bind_eq_some_iff.mp H
   obtain ⟨t308, A50, H⟩ := H
   replace H : ((selvedgelaw16_is.f k t308 (([1, 1, 1, 1, 1, 1, 1] : List Int))).bind fun t314 => (if t314 = true then ((weak_Resolve.f (([2, 4, 8, 7, 6, 6, 4, 6] : List Int)) 1).bind fun t318 => ((selvedgelaw16_is.f k t318 (([2, 4, 14, 7, 4, 4, 4, 4] : List Int))).bind fun t324 => (selvedgelaw16_WeakKnown.j0 k t324))) else (selvedgelaw16_WeakKnown.j0 k false))) = some r := H
   have A5 := Aside0.mk A50
   clear A50
   obtain ⟨y311, hy311⟩ : ∃ y_ : List Int, y_ = (([1, 1, 1, 1, 1, 1, 1] : List Int)) := ⟨_, rfl⟩
   replace H : ((selvedgelaw16_is.f k t308 y311).bind fun t314 => (if t314 = true then ((weak_Resolve.f (([2, 4, 8, 7, 6, 6, 4, 6] : List Int)) 1).bind fun t318 => ((selvedgelaw16_is.f k t318 (([2, 4, 14, 7, 4, 4, 4, 4] : List Int))).bind fun t324 => (selvedgelaw16_WeakKnown.j0 k t324))) else (selvedgelaw16_WeakKnown.j0 k false))) = some r := by first | (rw [hy311]; with_reducible exact H) | (have H2_ := (Option.bind_some _ _).symm.trans H; rw [hy311]; with_reducible exact H2_) | (have H2_ := (Option.bind_some _ _).symm.trans H; with_reducible exact H2_) | with_reducible exact H | (rw [hy311]; exact H) | exact H
   have Ny311 := Aside0.mk hy311
   clear hy311
   replace H := Option.bind_eq_some_iff.mp H
   obtain ⟨t314, A60, H⟩ := H
   replace H : (if t314 = true then ((weak_Resolve.f (([2, 4, 8, 7, 6, 6, 4, 6] : List Int)) 1).bind fun t318 => ((selvedgelaw16_is.f k t318 (([2, 4, 14, 7, 4, 4, 4, 4] : List Int))).bind fun t324 => (selvedgelaw16_WeakKnown.j0 k t324))) else (selvedgelaw16_WeakKnown.j0 k false)) = some r := H
   have A6 := Aside0.mk A60
   clear A60
   by_cases c7 : t314 = true
   ·subst c7
    have H1 : ((weak_Resolve.f (([2, 4, 8, 7, 6, 6, 4, 6] : List Int)) 1).bind fun t318 => ((selvedgelaw16_is.f k t318 (([2, 4, 14, 7, 4, 4, 4, 4] : List Int))).bind fun t324 => (selvedgelaw16_WeakKnown.j0 k t324))) = some r := by rw [if_pos rfl] at H; exact H
    clear H
    have H := H1
    clear H1
    obtain ⟨y315, hy315⟩ : ∃ y_ : List Int, y_ = (([2, 4, 8, 7, 6, 6, 4, 6] : List Int)) := ⟨_, rfl⟩
    replace H : ((weak_Resolve.f y315 1).bind fun t318 => ((selvedgelaw16_is.f k t318 (([2, 4, 14, 7, 4, 4, 4, 4] : List Int))).bind fun t324 => (selvedgelaw16_WeakKnown.j0 k t324))) = some r := by first | (rw [hy315]; with_reducible exact H) | (have H2_ := (Option.bind_some _ _).symm.trans H; rw [hy315]; with_reducible exact H2_) | (have H2_ := (Option.bind_some _ _).symm.trans H; with_reducible exact H2_) | with_reducible exact H | (rw [hy315]; exact H) | exact H
    have Ny315 := Aside0.mk hy315
    clear hy315
    replace H := Option.bind_eq_some_iff.mp H
    obtain ⟨t318, A80, H⟩ := H
    replace H : ((selvedgelaw16_is.f k t318 (([2, 4, 14, 7, 4, 4, 4, 4] : List Int))).bind fun t324 => (selvedgelaw16_WeakKnown.j0 k t324)) = some r := H
    have A8 := Aside0.mk A80
    clear A80
    obtain ⟨y321, hy321⟩ : ∃ y_ : List Int, y_ = (([2, 4, 14, 7, 4, 4, 4, 4] : List Int)) := ⟨_, rfl⟩
    replace H : ((selvedgelaw16_is.f k t318 y321).bind fun t324 => (selvedgelaw16_WeakKnown.j0 k t324)) = some r := by first | (rw [hy321]; with_reducible exact H) | (have H2_ := (Option.bind_some _ _).symm.trans H; rw [hy321]; with_reducible exact H2_) | (have H2_ := (Option.bind_some _ _).symm.trans H; with_reducible exact H2_) | with_reducible exact H | (rw [hy321]; exact H) | exact H
    have Ny321 := Aside0.mk hy321
    clear hy321
    replace H := Option.bind_eq_some_iff.mp H
    obtain ⟨t324, A90, H⟩ := H
    replace H : (selvedgelaw16_WeakKnown.j0 k t324) = some r := H
    have A9 := Aside0.mk A90
    clear A90
    have H' := Aside0.mk H
    clear H
    go_wp2_with (first | ((with_reducible refine gate_dst (N := 7) rfl ?_); (try (refine gate_guard (by rfl) ?_; dsimp only)); refine Kd.R_lit (Kd.int .u8) _ 23 ?hg (N := 7) ?hd (xs := ([9, 21, 9, 23, 9] : List Int)) (inner := [.int .u8 9, .int .u8 21, .int .u8 9, .int .u8 23, .int .u8 9]) (ok := fun _ => True) (okp := fun _ => True) ?hr ?hp (fun _ hk => hk) trivial (Below.refl _ _) (Nat.le_refl _) (by simp) ?_; (case hd => rfl); (case hg => rfl); (case hr => first | (go_simp; done) | (go_simp; rfl)); (case hp => exact (Reps.one (show Kd.M (Kd.int .u8) _ _ _ 9 [.int .u8 9] from rfl) (Reps.one (show Kd.M (Kd.int .u8) _ _ _ 21 [.int .u8 21] from rfl) (Reps.one (show Kd.M (Kd.int .u8) _ _ _ 9 [.int .u8 9] from rfl) (Reps.one (show Kd.M (Kd.int .u8) _ _ _ 23 [.int .u8 23] from rfl) (Reps.one (show Kd.M (Kd.int .u8) _ _ _ 9 [.int .u8 9] from rfl) (Reps.none _ _))))))); intro v296 w10 ho11 hb hg_ hnew_; clear hg_ hnew_; (first | rw [← Ny295.out] at ho11 | (simp only [Int.reduceToNat] at ho11; rw [← Ny295.out] at ho11)); have n0_ := Aside0.mk (Kd.R_lower ho11 (below_size (mvB HB))); have n1_ := Aside0.mk (below_step (mvB HB) hb); clear HB; have HO297 := n0_; have HB := n1_; clear n0_ n1_; clear hb ho11; obtain ⟨Ao12, co12, eo12⟩ := Kd.R_slice HO297.out; subst eo12) | ((with_reducible refine gate_callee (f := 12) rfl ?_); refine goesL_ (some 8) rfl rfl Try.func12 (by kernel_rfl) rfl #[.slice Ao12 y295.length co12, .int .u8 2] rfl (by (try simp only [List.map_toArray, List.map_cons, List.map_nil]); first | done | rfl | (simp only [List.length_drop, List.length_take]; rfl)) ?_; (with_reducible refine (weak_Resolve.calls _ _ y295 2 t298 _ ?side1 ?side2 A2.out).mono ?_); (case side1 => repeat (first | exact (Kd.R_reads' HO297.out).2.2 | (with_reducible refine Kd.C_alloc ?_ _) | (with_reducible refine Kd.C_drewN ?_ _) | (with_reducible refine Kd.C_drew ?_))); (case side2 => exact (Kd.R_reads' HO297.out).2.1); rintro e w13 ⟨v299, rfl, ho0, hb⟩; refine ⟨_, rfl, ?_⟩; have n0_ := Aside0.mk (Kd.R_elder' (mvR HO297) (Kd.R_base ho0) hb); have n1_ := Aside0.mk (Kd.R_lower (Kd.R_new' ho0 (Kd.R_lt (mvR HO297))) (below_size (mvB HB))); have n2_ := Aside0.mk (below_step (mvB HB) hb); clear HO297; clear HB; have HO297 := n0_; have HO300 := n1_; have HB := n2_; clear n0_ n1_ n2_; (try clear hb); (try clear hb2); (try clear hk); (try clear hi); (try clear ho0)) | ((with_reducible refine gate_dst (N := 9) rfl ?_); (try (refine gate_guard (by rfl) ?_; dsimp only)); refine Kd.R_lit (Kd.int .u8) _ 23 ?hg (N := 9) ?hd (xs := ([2, 21, 14, 23, 14] : List Int)) (inner := [.int .u8 2, .int .u8 21, .int .u8 14, .int .u8 23, .int .u8 14]) (ok := fun _ => True) (okp := fun _ => True) ?hr ?hp (fun _ hk => hk) trivial (Below.refl _ _) (Nat.le_refl _) (by simp) ?_; (case hd => rfl); (case hg => rfl); (case hr => first | (go_simp; done) | (go_simp; rfl)); (case hp => exact (Reps.one (show Kd.M (Kd.int .u8) _ _ _ 2 [.int .u8 2] from rfl) (Reps.one (show Kd.M (Kd.int .u8) _ _ _ 21 [.int .u8 21] from rfl) (Reps.one (show Kd.M (Kd.int .u8) _ _ _ 14 [.int .u8 14] from rfl) (Reps.one (show Kd.M (Kd.int .u8) _ _ _ 23 [.int .u8 23] from rfl) (Reps.one (show Kd.M (Kd.int .u8) _ _ _ 14 [.int .u8 14] from rfl) (Reps.none _ _))))))); intro v302 w14 ho15 hb hg_ hnew_; clear hg_ hnew_; (first | rw [← Ny301.out] at ho15 | (simp only [Int.reduceToNat] at ho15; rw [← Ny301.out] at ho15)); have n0_ := Aside0.mk (Kd.R_elder' (mvR HO297) (Kd.R_base ho15) hb); have n1_ := Aside0.mk (Kd.R_elder' (mvR HO300) (Kd.R_base ho15) hb); have n2_ := Aside0.mk (Kd.R_lower (Kd.R_new' (Kd.R_new' ho15 (Kd.R_lt (mvR HO297))) (Kd.R_lt (mvR HO300))) (below_size (mvB HB))); have n3_ := Aside0.mk (below_step (mvB HB) hb); clear HO297; clear HO300; clear HB; have HO297 := n0_; have HO300 := n1_; have HO303 := n2_; have HB := n3_; clear n0_ n1_ n2_ n3_; clear hb ho15; obtain ⟨Ao16, co16, eo16⟩ := Kd.R_slice HO300.out; subst eo16; obtain ⟨Ao17, co17, eo17⟩ := Kd.R_slice HO303.out; subst eo17) | ((with_reducible refine gate_callee (f := 11) rfl ?_); refine goesL_ (some 10) rfl rfl Try.func11 (by kernel_rfl) rfl #[.slice Ao16 t298.length co16, .slice Ao17 y301.length co17] rfl (by (try simp only [List.map_toArray, List.map_cons, List.map_nil]); first | done | rfl | (simp only [List.length_drop, List.length_take]; rfl)) ?_; (with_reducible refine (selvedgelaw16_is.calls k _ _ t298 _ _ y301 true _ ?side1 ?side2 ?side3 ?side4 A3.out).mono ?_); (case side1 => repeat (first | exact (Kd.R_reads' HO300.out).2.2 | (with_reducible refine Kd.C_alloc ?_ _) | (with_reducible refine Kd.C_drewN ?_ _) | (with_reducible refine Kd.C_drew ?_))); (case side2 => exact (Kd.R_reads' HO300.out).2.1); (case side3 => repeat (first | exact (Kd.R_reads' HO303.out).2.2 | (with_reducible refine Kd.C_alloc ?_ _) | (with_reducible refine Kd.C_drewN ?_ _) | (with_reducible refine Kd.C_drew ?_))); (case side4 => exact (Kd.R_reads' HO303.out).2.1); rintro e w' ⟨rfl, ⟨nd, rfl⟩⟩; refine ⟨_, rfl, ?_⟩) | ((with_reducible refine gate_dst (N := 12) rfl ?_); (try (refine gate_guard (by rfl) ?_; dsimp only)); refine Kd.R_lit (Kd.int .u8) _ 23 ?hg (N := 12) ?hd (xs := ([1, 4, 8, 4, 5, 4, 6] : List Int)) (inner := [.int .u8 1, .int .u8 4, .int .u8 8, .int .u8 4, .int .u8 5, .int .u8 4, .int .u8 6]) (ok := fun _ => True) (okp := fun _ => True) ?hr ?hp (fun _ hk => hk) trivial (Below.refl _ _) (Nat.le_refl _) (by simp) ?_; (case hd => rfl); (case hg => rfl); (case hr => first | (go_simp; done) | (go_simp; rfl)); (case hp => exact (Reps.one (show Kd.M (Kd.int .u8) _ _ _ 1 [.int .u8 1] from rfl) (Reps.one (show Kd.M (Kd.int .u8) _ _ _ 4 [.int .u8 4] from rfl) (Reps.one (show Kd.M (Kd.int .u8) _ _ _ 8 [.int .u8 8] from rfl) (Reps.one (show Kd.M (Kd.int .u8) _ _ _ 4 [.int .u8 4] from rfl) (Reps.one (show Kd.M (Kd.int .u8) _ _ _ 5 [.int .u8 5] from rfl) (Reps.one (show Kd.M (Kd.int .u8) _ _ _ 4 [.int .u8 4] from rfl) (Reps.one (show Kd.M (Kd.int .u8) _ _ _ 6 [.int .u8 6] from rfl) (Reps.none _ _))))))))); intro v306 w18 ho19 hb hg_ hnew_; clear hg_ hnew_; (first | rw [← Ny305.out] at ho19 | (simp only [Int.reduceToNat] at ho19; rw [← Ny305.out] at ho19)); have n0_ := Aside0.mk (Kd.R_elder' (mvR HO297) (Kd.R_base ho19) hb); have n1_ := Aside0.mk (Kd.R_elder' (mvR HO300) (Kd.R_base ho19) hb); have n2_ := Aside0.mk (Kd.R_elder' (mvR HO303) (Kd.R_base ho19) hb); have n3_ := Aside0.mk (Kd.R_lower (Kd.R_new' (Kd.R_new' (Kd.R_new' ho19 (Kd.R_lt (mvR HO297))) (Kd.R_lt (mvR HO300))) (Kd.R_lt (mvR HO303))) (below_size (mvB HB))); have n4_ := Aside0.mk (below_step (mvB HB) hb); clear HO297; clear HO300; clear HO303; clear HB; have HO297 := n0_; have HO300 := n1_; have HO303 := n2_; have HO307 := n3_; have HB := n4_; clear n0_ n1_ n2_ n3_ n4_; clear hb ho19; obtain ⟨Ao20, co20, eo20⟩ := Kd.R_slice HO307.out; subst eo20) | (go_at_call 12; (with_reducible refine (weak_Resolve.calls _ _ y305 2 t308 _ ?side1 ?side2 A5.out).mono ?_); (case side1 => repeat (first | exact (Kd.R_reads' HO307.out).2.2 | (with_reducible refine Kd.C_alloc ?_ _) | (with_reducible refine Kd.C_drewN ?_ _) | (with_reducible refine Kd.C_drew ?_))); (case side2 => exact (Kd.R_reads' HO307.out).2.1); rintro e w21 ⟨v309, rfl, ho0, hb⟩; have n0_ := Aside0.mk (Kd.R_elder' (mvR HO297) (Kd.R_base ho0) hb); have n1_ := Aside0.mk (Kd.R_elder' (mvR HO300) (Kd.R_base ho0) hb); have n2_ := Aside0.mk (Kd.R_elder' (mvR HO303) (Kd.R_base ho0) hb); have n3_ := Aside0.mk (Kd.R_elder' (mvR HO307) (Kd.R_base ho0) hb); have n4_ := Aside0.mk (Kd.R_lower (Kd.R_new' (Kd.R_new' (Kd.R_new' (Kd.R_new' ho0 (Kd.R_lt (mvR HO297))) (Kd.R_lt (mvR HO300))) (Kd.R_lt (mvR HO303))) (Kd.R_lt (mvR HO307))) (below_size (mvB HB))); have n5_ := Aside0.mk (below_step (mvB HB) hb); clear HO297; clear HO300; clear HO303; clear HO307; clear HB; have HO297 := n0_; have HO300 := n1_; have HO303 := n2_; have HO307 := n3_; have HO310 := n4_; have HB := n5_; clear n0_ n1_ n2_ n3_ n4_ n5_; (try clear hb); (try clear hb2); (try clear hk); (try clear hi); (try clear ho0)) | ((with_reducible refine gate_dst (N := 14) rfl ?_); (try (refine gate_guard (by rfl) ?_; dsimp only)); refine Kd.R_lit (Kd.int .u8) _ 23 ?hg (N := 14) ?hd (xs := ([1, 1, 1, 1, 1, 1, 1] : List Int)) (inner := [.int .u8 1, .int .u8 1, .int .u8 1, .int .u8 1, .int .u8 1, .int .u8 1, .int .u8 1]) (ok := fun _ => True) (okp := fun _ => True) ?hr ?hp (fun _ hk => hk) trivial (Below.refl _ _) (Nat.le_refl _) (by simp) ?_; (case hd => rfl); (case hg => rfl); (case hr => first | (go_simp; done) | (go_simp; rfl)); (case hp => exact (Reps.one (show Kd.M (Kd.int .u8) _ _ _ 1 [.int .u8 1] from rfl) (Reps.one (show Kd.M (Kd.int .u8) _ _ _ 1 [.int .u8 1] from rfl) (Reps.one (show Kd.M (Kd.int .u8) _ _ _ 1 [.int .u8 1] from rfl) (Reps.one (show Kd.M (Kd.int .u8) _ _ _ 1 [.int .u8 1] from rfl) (Reps.one (show Kd.M (Kd.int .u8) _ _ _ 1 [.int .u8 1] from rfl) (Reps.one (show Kd.M (Kd.int .u8) _ _ _ 1 [.int .u8 1] from rfl) (Reps.one (show Kd.M (Kd.int .u8) _ _ _ 1 [.int .u8 1] from rfl) (Reps.none _ _))))))))); intro v312 w22 ho23 hb hg_ hnew_; clear hg_ hnew_; (first | rw [← Ny311.out] at ho23 | (simp only [Int.reduceToNat] at ho23; rw [← Ny311.out] at ho23)); have n0_ := Aside0.mk (Kd.R_elder' (mvR HO297) (Kd.R_base ho23) hb); have n1_ := Aside0.mk (Kd.R_elder' (mvR HO300) (Kd.R_base ho23) hb); have n2_ := Aside0.mk (Kd.R_elder' (mvR HO303) (Kd.R_base ho23) hb); have n3_ := Aside0.mk (Kd.R_elder' (mvR HO307) (Kd.R_base ho23) hb); have n4_ := Aside0.mk (Kd.R_elder' (mvR HO310) (Kd.R_base ho23) hb); have n5_ := Aside0.mk (Kd.R_lower (Kd.R_new' (Kd.R_new' (Kd.R_new' (Kd.R_new' (Kd.R_new' ho23 (Kd.R_lt (mvR HO297))) (Kd.R_lt (mvR HO300))) (Kd.R_lt (mvR HO303))) (Kd.R_lt (mvR HO307))) (Kd.R_lt (mvR HO310))) (below_size (mvB HB))); have n6_ := Aside0.mk (below_step (mvB HB) hb); clear HO297; clear HO300; clear HO303; clear HO307; clear HO310; clear HB; have HO297 := n0_; have HO300 := n1_; have HO303 := n2_; have HO307 := n3_; have HO310 := n4_; have HO313 := n5_; have HB := n6_; clear n0_ n1_ n2_ n3_ n4_ n5_ n6_; clear hb ho23; obtain ⟨Ao24, co24, eo24⟩ := Kd.R_slice HO310.out; subst eo24; obtain ⟨Ao25, co25, eo25⟩ := Kd.R_slice HO313.out; subst eo25) | (go_at_call 11; (with_reducible refine (selvedgelaw16_is.calls k _ _ t308 _ _ y311 true _ ?side1 ?side2 ?side3 ?side4 A6.out).mono ?_); (case side1 => repeat (first | exact (Kd.R_reads' HO310.out).2.2 | (with_reducible refine Kd.C_alloc ?_ _) | (with_reducible refine Kd.C_drewN ?_ _) | (with_reducible refine Kd.C_drew ?_))); (case side2 => exact (Kd.R_reads' HO310.out).2.1); (case side3 => repeat (first | exact (Kd.R_reads' HO313.out).2.2 | (with_reducible refine Kd.C_alloc ?_ _) | (with_reducible refine Kd.C_drewN ?_ _) | (with_reducible refine Kd.C_drew ?_))); (case side4 => exact (Kd.R_reads' HO313.out).2.1); rintro e w' ⟨rfl, ⟨nd, rfl⟩⟩) | ((with_reducible refine gate_dst (N := 18) rfl ?_); (try (refine gate_guard (by rfl) ?_; dsimp only)); refine Kd.R_lit (Kd.int .u8) _ 23 ?hg (N := 18) ?hd (xs := ([2, 4, 8, 7, 6, 6, 4, 6] : List Int)) (inner := [.int .u8 2, .int .u8 4, .int .u8 8, .int .u8 7, .int .u8 6, .int .u8 6, .int .u8 4, .int .u8 6]) (ok := fun _ => True) (okp := fun _ => True) ?hr ?hp (fun _ hk => hk) trivial (Below.refl _ _) (Nat.le_refl _) (by simp) ?_; (case hd => rfl); (case hg => rfl); (case hr => first | (go_simp; done) | (go_simp; rfl)); (case hp => exact (Reps.one (show Kd.M (Kd.int .u8) _ _ _ 2 [.int .u8 2] from rfl) (Reps.one (show Kd.M (Kd.int .u8) _ _ _ 4 [.int .u8 4] from rfl) (Reps.one (show Kd.M (Kd.int .u8) _ _ _ 8 [.int .u8 8] from rfl) (Reps.one (show Kd.M (Kd.int .u8) _ _ _ 7 [.int .u8 7] from rfl) (Reps.one (show Kd.M (Kd.int .u8) _ _ _ 6 [.int .u8 6] from rfl) (Reps.one (show Kd.M (Kd.int .u8) _ _ _ 6 [.int .u8 6] from rfl) (Reps.one (show Kd.M (Kd.int .u8) _ _ _ 4 [.int .u8 4] from rfl) (Reps.one (show Kd.M (Kd.int .u8) _ _ _ 6 [.int .u8 6] from rfl) (Reps.none _ _)))))))))); intro v316 w26 ho27 hb hg_ hnew_; clear hg_ hnew_; (first | rw [← Ny315.out] at ho27 | (simp only [Int.reduceToNat] at ho27; rw [← Ny315.out] at ho27)); have n0_ := Aside0.mk (Kd.R_elder' (mvR HO297) (Kd.R_base ho27) hb); have n1_ := Aside0.mk (Kd.R_elder' (mvR HO300) (Kd.R_base ho27) hb); have n2_ := Aside0.mk (Kd.R_elder' (mvR HO303) (Kd.R_base ho27) hb); have n3_ := Aside0.mk (Kd.R_elder' (mvR HO307) (Kd.R_base ho27) hb); have n4_ := Aside0.mk (Kd.R_elder' (mvR HO310) (Kd.R_base ho27) hb); have n5_ := Aside0.mk (Kd.R_elder' (mvR HO313) (Kd.R_base ho27) hb); have n6_ := Aside0.mk (Kd.R_lower (Kd.R_new' (Kd.R_new' (Kd.R_new' (Kd.R_new' (Kd.R_new' (Kd.R_new' ho27 (Kd.R_lt (mvR HO297))) (Kd.R_lt (mvR HO300))) (Kd.R_lt (mvR HO303))) (Kd.R_lt (mvR HO307))) (Kd.R_lt (mvR HO310))) (Kd.R_lt (mvR HO313))) (below_size (mvB HB))); have n7_ := Aside0.mk (below_step (mvB HB) hb); clear HO297; clear HO300; clear HO303; clear HO307; clear HO310; clear HO313; clear HB; have HO297 := n0_; have HO300 := n1_; have HO303 := n2_; have HO307 := n3_; have HO310 := n4_; have HO313 := n5_; have HO317 := n6_; have HB := n7_; clear n0_ n1_ n2_ n3_ n4_ n5_ n6_ n7_; clear hb ho27; obtain ⟨Ao28, co28, eo28⟩ := Kd.R_slice HO317.out; subst eo28) | (go_at_call 12; (with_reducible refine (weak_Resolve.calls _ _ y315 1 t318 _ ?side1 ?side2 A8.out).mono ?_); (case side1 => repeat (first | exact (Kd.R_reads' HO317.out).2.2 | (with_reducible refine Kd.C_alloc ?_ _) | (with_reducible refine Kd.C_drewN ?_ _) | (with_reducible refine Kd.C_drew ?_))); (case side2 => exact (Kd.R_reads' HO317.out).2.1); rintro e w29 ⟨v319, rfl, ho0, hb⟩; have n0_ := Aside0.mk (Kd.R_elder' (mvR HO297) (Kd.R_base ho0) hb); have n1_ := Aside0.mk (Kd.R_elder' (mvR HO300) (Kd.R_base ho0) hb); have n2_ := Aside0.mk (Kd.R_elder' (mvR HO303) (Kd.R_base ho0) hb); have n3_ := Aside0.mk (Kd.R_elder' (mvR HO307) (Kd.R_base ho0) hb); have n4_ := Aside0.mk (Kd.R_elder' (mvR HO310) (Kd.R_base ho0) hb); have n5_ := Aside0.mk (Kd.R_elder' (mvR HO313) (Kd.R_base ho0) hb); have n6_ := Aside0.mk (Kd.R_elder' (mvR HO317) (Kd.R_base ho0) hb); have n7_ := Aside0.mk (Kd.R_lower (Kd.R_new' (Kd.R_new' (Kd.R_new' (Kd.R_new' (Kd.R_new' (Kd.R_new' (Kd.R_new' ho0 (Kd.R_lt (mvR HO297))) (Kd.R_lt (mvR HO300))) (Kd.R_lt (mvR HO303))) (Kd.R_lt (mvR HO307))) (Kd.R_lt (mvR HO310))) (Kd.R_lt (mvR HO313))) (Kd.R_lt (mvR HO317))) (below_size (mvB HB))); have n8_ := Aside0.mk (below_step (mvB HB) hb); clear HO297; clear HO300; clear HO303; clear HO307; clear HO310; clear HO313; clear HO317; clear HB; have HO297 := n0_; have HO300 := n1_; have HO303 := n2_; have HO307 := n3_; have HO310 := n4_; have HO313 := n5_; have HO317 := n6_; have HO320 := n7_; have HB := n8_; clear n0_ n1_ n2_ n3_ n4_ n5_ n6_ n7_ n8_; (try clear hb); (try clear hb2); (try clear hk); (try clear hi); (try clear ho0)) | ((with_reducible refine gate_dst (N := 20) rfl ?_); (try (refine gate_guard (by rfl) ?_; dsimp only)); refine Kd.R_lit (Kd.int .u8) _ 23 ?hg (N := 20) ?hd (xs := ([2, 4, 14, 7, 4, 4, 4, 4] : List Int)) (inner := [.int .u8 2, .int .u8 4, .int .u8 14, .int .u8 7, .int .u8 4, .int .u8 4, .int .u8 4, .int .u8 4]) (ok := fun _ => True) (okp := fun _ => True) ?hr ?hp (fun _ hk => hk) trivial (Below.refl _ _) (Nat.le_refl _) (by simp) ?_; (case hd => rfl); (case hg => rfl); (case hr => first | (go_simp; done) | (go_simp; rfl)); (case hp => exact (Reps.one (show Kd.M (Kd.int .u8) _ _ _ 2 [.int .u8 2] from rfl) (Reps.one (show Kd.M (Kd.int .u8) _ _ _ 4 [.int .u8 4] from rfl) (Reps.one (show Kd.M (Kd.int .u8) _ _ _ 14 [.int .u8 14] from rfl) (Reps.one (show Kd.M (Kd.int .u8) _ _ _ 7 [.int .u8 7] from rfl) (Reps.one (show Kd.M (Kd.int .u8) _ _ _ 4 [.int .u8 4] from rfl) (Reps.one (show Kd.M (Kd.int .u8) _ _ _ 4 [.int .u8 4] from rfl) (Reps.one (show Kd.M (Kd.int .u8) _ _ _ 4 [.int .u8 4] from rfl) (Reps.one (show Kd.M (Kd.int .u8) _ _ _ 4 [.int .u8 4] from rfl) (Reps.none _ _)))))))))); intro v322 w30 ho31 hb hg_ hnew_; clear hg_ hnew_; (first | rw [← Ny321.out] at ho31 | (simp only [Int.reduceToNat] at ho31; rw [← Ny321.out] at ho31)); have n0_ := Aside0.mk (Kd.R_elder' (mvR HO297) (Kd.R_base ho31) hb); have n1_ := Aside0.mk (Kd.R_elder' (mvR HO300) (Kd.R_base ho31) hb); have n2_ := Aside0.mk (Kd.R_elder' (mvR HO303) (Kd.R_base ho31) hb); have n3_ := Aside0.mk (Kd.R_elder' (mvR HO307) (Kd.R_base ho31) hb); have n4_ := Aside0.mk (Kd.R_elder' (mvR HO310) (Kd.R_base ho31) hb); have n5_ := Aside0.mk (Kd.R_elder' (mvR HO313) (Kd.R_base ho31) hb); have n6_ := Aside0.mk (Kd.R_elder' (mvR HO317) (Kd.R_base ho31) hb); have n7_ := Aside0.mk (Kd.R_elder' (mvR HO320) (Kd.R_base ho31) hb); have n8_ := Aside0.mk (Kd.R_lower (Kd.R_new' (Kd.R_new' (Kd.R_new' (Kd.R_new' (Kd.R_new' (Kd.R_new' (Kd.R_new' (Kd.R_new' ho31 (Kd.R_lt (mvR HO297))) (Kd.R_lt (mvR HO300))) (Kd.R_lt (mvR HO303))) (Kd.R_lt (mvR HO307))) (Kd.R_lt (mvR HO310))) (Kd.R_lt (mvR HO313))) (Kd.R_lt (mvR HO317))) (Kd.R_lt (mvR HO320))) (below_size (mvB HB))); have n9_ := Aside0.mk (below_step (mvB HB) hb); clear HO297; clear HO300; clear HO303; clear HO307; clear HO310; clear HO313; clear HO317; clear HO320; clear HB; have HO297 := n0_; have HO300 := n1_; have HO303 := n2_; have HO307 := n3_; have HO310 := n4_; have HO313 := n5_; have HO317 := n6_; have HO320 := n7_; have HO323 := n8_; have HB := n9_; clear n0_ n1_ n2_ n3_ n4_ n5_ n6_ n7_ n8_ n9_; clear hb ho31; obtain ⟨Ao32, co32, eo32⟩ := Kd.R_slice HO320.out; subst eo32; obtain ⟨Ao33, co33, eo33⟩ := Kd.R_slice HO323.out; subst eo33) | (go_at_call 11; (with_reducible refine (selvedgelaw16_is.calls k _ _ t318 _ _ y321 t324 _ ?side1 ?side2 ?side3 ?side4 A9.out).mono ?_); (case side1 => repeat (first | exact (Kd.R_reads' HO320.out).2.2 | (with_reducible refine Kd.C_alloc ?_ _) | (with_reducible refine Kd.C_drewN ?_ _) | (with_reducible refine Kd.C_drew ?_))); (case side2 => exact (Kd.R_reads' HO320.out).2.1); (case side3 => repeat (first | exact (Kd.R_reads' HO323.out).2.2 | (with_reducible refine Kd.C_alloc ?_ _) | (with_reducible refine Kd.C_drewN ?_ _) | (with_reducible refine Kd.C_drew ?_))); (case side4 => exact (Kd.R_reads' HO323.out).2.1); rintro e w' ⟨rfl, ⟨nd, rfl⟩⟩))
    go_meet
    case rel => exact ⟨_, (t324), (by first | rfl | (simp; done) | (simp [*]; done)), H', ⟨by first | omega | exact Nat.le_refl _⟩, ⟨mvB HB⟩⟩
   ·replace c7 := Bool.eq_false_iff.mpr c7
    subst c7
    have H1 : (selvedgelaw16_WeakKnown.j0 k false) = some r := by rw [if_neg (show ¬ (false = true) by decide)] at H; exact H
    clear H
    have H := H1
    clear H1
    have H' := Aside0.mk H
    clear H
    go_wp2_with (first | ((with_reducible refine gate_dst (N := 7) rfl ?_); (try (refine gate_guard (by rfl) ?_; dsimp only)); refine Kd.R_lit (Kd.int .u8) _ 23 ?hg (N := 7) ?hd (xs := ([9, 21, 9, 23, 9] : List Int)) (inner := [.int .u8 9, .int .u8 21, .int .u8 9, .int .u8 23, .int .u8 9]) (ok := fun _ => True) (okp := fun _ => True) ?hr ?hp (fun _ hk => hk) trivial (Below.refl _ _) (Nat.le_refl _) (by simp) ?_; (case hd => rfl); (case hg => rfl); (case hr => first | (go_simp; done) | (go_simp; rfl)); (case hp => exact (Reps.one (show Kd.M (Kd.int .u8) _ _ _ 9 [.int .u8 9] from rfl) (Reps.one (show Kd.M (Kd.int .u8) _ _ _ 21 [.int .u8 21] from rfl) (Reps.one (show Kd.M (Kd.int .u8) _ _ _ 9 [.int .u8 9] from rfl) (Reps.one (show Kd.M (Kd.int .u8) _ _ _ 23 [.int .u8 23] from rfl) (Reps.one (show Kd.M (Kd.int .u8) _ _ _ 9 [.int .u8 9] from rfl) (Reps.none _ _))))))); intro v296 w34 ho35 hb hg_ hnew_; clear hg_ hnew_; (first | rw [← Ny295.out] at ho35 | (simp only [Int.reduceToNat] at ho35; rw [← Ny295.out] at ho35)); have n0_ := Aside0.mk (Kd.R_lower ho35 (below_size (mvB HB))); have n1_ := Aside0.mk (below_step (mvB HB) hb); clear HB; have HO297 := n0_; have HB := n1_; clear n0_ n1_; clear hb ho35; obtain ⟨Ao36, co36, eo36⟩ := Kd.R_slice HO297.out; subst eo36) | ((with_reducible refine gate_callee (f := 12) rfl ?_); refine goesL_ (some 8) rfl rfl Try.func12 (by kernel_rfl) rfl #[.slice Ao36 y295.length co36, .int .u8 2] rfl (by (try simp only [List.map_toArray, List.map_cons, List.map_nil]); first | done | rfl | (simp only [List.length_drop, List.length_take]; rfl)) ?_; (with_reducible refine (weak_Resolve.calls _ _ y295 2 t298 _ ?side1 ?side2 A2.out).mono ?_); (case side1 => repeat (first | exact (Kd.R_reads' HO297.out).2.2 | (with_reducible refine Kd.C_alloc ?_ _) | (with_reducible refine Kd.C_drewN ?_ _) | (with_reducible refine Kd.C_drew ?_))); (case side2 => exact (Kd.R_reads' HO297.out).2.1); rintro e w37 ⟨v299, rfl, ho0, hb⟩; refine ⟨_, rfl, ?_⟩; have n0_ := Aside0.mk (Kd.R_elder' (mvR HO297) (Kd.R_base ho0) hb); have n1_ := Aside0.mk (Kd.R_lower (Kd.R_new' ho0 (Kd.R_lt (mvR HO297))) (below_size (mvB HB))); have n2_ := Aside0.mk (below_step (mvB HB) hb); clear HO297; clear HB; have HO297 := n0_; have HO300 := n1_; have HB := n2_; clear n0_ n1_ n2_; (try clear hb); (try clear hb2); (try clear hk); (try clear hi); (try clear ho0)) | ((with_reducible refine gate_dst (N := 9) rfl ?_); (try (refine gate_guard (by rfl) ?_; dsimp only)); refine Kd.R_lit (Kd.int .u8) _ 23 ?hg (N := 9) ?hd (xs := ([2, 21, 14, 23, 14] : List Int)) (inner := [.int .u8 2, .int .u8 21, .int .u8 14, .int .u8 23, .int .u8 14]) (ok := fun _ => True) (okp := fun _ => True) ?hr ?hp (fun _ hk => hk) trivial (Below.refl _ _) (Nat.le_refl _) (by simp) ?_; (case hd => rfl); (case hg => rfl); (case hr => first | (go_simp; done) | (go_simp; rfl)); (case hp => exact (Reps.one (show Kd.M (Kd.int .u8) _ _ _ 2 [.int .u8 2] from rfl) (Reps.one (show Kd.M (Kd.int .u8) _ _ _ 21 [.int .u8 21] from rfl) (Reps.one (show Kd.M (Kd.int .u8) _ _ _ 14 [.int .u8 14] from rfl) (Reps.one (show Kd.M (Kd.int .u8) _ _ _ 23 [.int .u8 23] from rfl) (Reps.one (show Kd.M (Kd.int .u8) _ _ _ 14 [.int .u8 14] from rfl) (Reps.none _ _))))))); intro v302 w38 ho39 hb hg_ hnew_; clear hg_ hnew_; (first | rw [← Ny301.out] at ho39 | (simp only [Int.reduceToNat] at ho39; rw [← Ny301.out] at ho39)); have n0_ := Aside0.mk (Kd.R_elder' (mvR HO297) (Kd.R_base ho39) hb); have n1_ := Aside0.mk (Kd.R_elder' (mvR HO300) (Kd.R_base ho39) hb); have n2_ := Aside0.mk (Kd.R_lower (Kd.R_new' (Kd.R_new' ho39 (Kd.R_lt (mvR HO297))) (Kd.R_lt (mvR HO300))) (below_size (mvB HB))); have n3_ := Aside0.mk (below_step (mvB HB) hb); clear HO297; clear HO300; clear HB; have HO297 := n0_; have HO300 := n1_; have HO303 := n2_; have HB := n3_; clear n0_ n1_ n2_ n3_; clear hb ho39; obtain ⟨Ao40, co40, eo40⟩ := Kd.R_slice HO300.out; subst eo40; obtain ⟨Ao41, co41, eo41⟩ := Kd.R_slice HO303.out; subst eo41) | ((with_reducible refine gate_callee (f := 11) rfl ?_); refine goesL_ (some 10) rfl rfl Try.func11 (by kernel_rfl) rfl #[.slice Ao40 t298.length co40, .slice Ao41 y301.length co41] rfl (by (try simp only [List.map_toArray, List.map_cons, List.map_nil]); first | done | rfl | (simp only [List.length_drop, List.length_take]; rfl)) ?_; (with_reducible refine (selvedgelaw16_is.calls k _ _ t298 _ _ y301 true _ ?side1 ?side2 ?side3 ?side4 A3.out).mono ?_); (case side1 => repeat (first | exact (Kd.R_reads' HO300.out).2.2 | (with_reducible refine Kd.C_alloc ?_ _) | (with_reducible refine Kd.C_drewN ?_ _) | (with_reducible refine Kd.C_drew ?_))); (case side2 => exact (Kd.R_reads' HO300.out).2.1); (case side3 => repeat (first | exact (Kd.R_reads' HO303.out).2.2 | (with_reducible refine Kd.C_alloc ?_ _) | (with_reducible refine Kd.C_drewN ?_ _) | (with_reducible refine Kd.C_drew ?_))); (case side4 => exact (Kd.R_reads' HO303.out).2.1); rintro e w' ⟨rfl, ⟨nd, rfl⟩⟩; refine ⟨_, rfl, ?_⟩) | ((with_reducible refine gate_dst (N := 12) rfl ?_); (try (refine gate_guard (by rfl) ?_; dsimp only)); refine Kd.R_lit (Kd.int .u8) _ 23 ?hg (N := 12) ?hd (xs := ([1, 4, 8, 4, 5, 4, 6] : List Int)) (inner := [.int .u8 1, .int .u8 4, .int .u8 8, .int .u8 4, .int .u8 5, .int .u8 4, .int .u8 6]) (ok := fun _ => True) (okp := fun _ => True) ?hr ?hp (fun _ hk => hk) trivial (Below.refl _ _) (Nat.le_refl _) (by simp) ?_; (case hd => rfl); (case hg => rfl); (case hr => first | (go_simp; done) | (go_simp; rfl)); (case hp => exact (Reps.one (show Kd.M (Kd.int .u8) _ _ _ 1 [.int .u8 1] from rfl) (Reps.one (show Kd.M (Kd.int .u8) _ _ _ 4 [.int .u8 4] from rfl) (Reps.one (show Kd.M (Kd.int .u8) _ _ _ 8 [.int .u8 8] from rfl) (Reps.one (show Kd.M (Kd.int .u8) _ _ _ 4 [.int .u8 4] from rfl) (Reps.one (show Kd.M (Kd.int .u8) _ _ _ 5 [.int .u8 5] from rfl) (Reps.one (show Kd.M (Kd.int .u8) _ _ _ 4 [.int .u8 4] from rfl) (Reps.one (show Kd.M (Kd.int .u8) _ _ _ 6 [.int .u8 6] from rfl) (Reps.none _ _))))))))); intro v306 w42 ho43 hb hg_ hnew_; clear hg_ hnew_; (first | rw [← Ny305.out] at ho43 | (simp only [Int.reduceToNat] at ho43; rw [← Ny305.out] at ho43)); have n0_ := Aside0.mk (Kd.R_elder' (mvR HO297) (Kd.R_base ho43) hb); have n1_ := Aside0.mk (Kd.R_elder' (mvR HO300) (Kd.R_base ho43) hb); have n2_ := Aside0.mk (Kd.R_elder' (mvR HO303) (Kd.R_base ho43) hb); have n3_ := Aside0.mk (Kd.R_lower (Kd.R_new' (Kd.R_new' (Kd.R_new' ho43 (Kd.R_lt (mvR HO297))) (Kd.R_lt (mvR HO300))) (Kd.R_lt (mvR HO303))) (below_size (mvB HB))); have n4_ := Aside0.mk (below_step (mvB HB) hb); clear HO297; clear HO300; clear HO303; clear HB; have HO297 := n0_; have HO300 := n1_; have HO303 := n2_; have HO307 := n3_; have HB := n4_; clear n0_ n1_ n2_ n3_ n4_; clear hb ho43; obtain ⟨Ao44, co44, eo44⟩ := Kd.R_slice HO307.out; subst eo44) | (go_at_call 12; (with_reducible refine (weak_Resolve.calls _ _ y305 2 t308 _ ?side1 ?side2 A5.out).mono ?_); (case side1 => repeat (first | exact (Kd.R_reads' HO307.out).2.2 | (with_reducible refine Kd.C_alloc ?_ _) | (with_reducible refine Kd.C_drewN ?_ _) | (with_reducible refine Kd.C_drew ?_))); (case side2 => exact (Kd.R_reads' HO307.out).2.1); rintro e w45 ⟨v309, rfl, ho0, hb⟩; have n0_ := Aside0.mk (Kd.R_elder' (mvR HO297) (Kd.R_base ho0) hb); have n1_ := Aside0.mk (Kd.R_elder' (mvR HO300) (Kd.R_base ho0) hb); have n2_ := Aside0.mk (Kd.R_elder' (mvR HO303) (Kd.R_base ho0) hb); have n3_ := Aside0.mk (Kd.R_elder' (mvR HO307) (Kd.R_base ho0) hb); have n4_ := Aside0.mk (Kd.R_lower (Kd.R_new' (Kd.R_new' (Kd.R_new' (Kd.R_new' ho0 (Kd.R_lt (mvR HO297))) (Kd.R_lt (mvR HO300))) (Kd.R_lt (mvR HO303))) (Kd.R_lt (mvR HO307))) (below_size (mvB HB))); have n5_ := Aside0.mk (below_step (mvB HB) hb); clear HO297; clear HO300; clear HO303; clear HO307; clear HB; have HO297 := n0_; have HO300 := n1_; have HO303 := n2_; have HO307 := n3_; have HO310 := n4_; have HB := n5_; clear n0_ n1_ n2_ n3_ n4_ n5_; (try clear hb); (try clear hb2); (try clear hk); (try clear hi); (try clear ho0)) | ((with_reducible refine gate_dst (N := 14) rfl ?_); (try (refine gate_guard (by rfl) ?_; dsimp only)); refine Kd.R_lit (Kd.int .u8) _ 23 ?hg (N := 14) ?hd (xs := ([1, 1, 1, 1, 1, 1, 1] : List Int)) (inner := [.int .u8 1, .int .u8 1, .int .u8 1, .int .u8 1, .int .u8 1, .int .u8 1, .int .u8 1]) (ok := fun _ => True) (okp := fun _ => True) ?hr ?hp (fun _ hk => hk) trivial (Below.refl _ _) (Nat.le_refl _) (by simp) ?_; (case hd => rfl); (case hg => rfl); (case hr => first | (go_simp; done) | (go_simp; rfl)); (case hp => exact (Reps.one (show Kd.M (Kd.int .u8) _ _ _ 1 [.int .u8 1] from rfl) (Reps.one (show Kd.M (Kd.int .u8) _ _ _ 1 [.int .u8 1] from rfl) (Reps.one (show Kd.M (Kd.int .u8) _ _ _ 1 [.int .u8 1] from rfl) (Reps.one (show Kd.M (Kd.int .u8) _ _ _ 1 [.int .u8 1] from rfl) (Reps.one (show Kd.M (Kd.int .u8) _ _ _ 1 [.int .u8 1] from rfl) (Reps.one (show Kd.M (Kd.int .u8) _ _ _ 1 [.int .u8 1] from rfl) (Reps.one (show Kd.M (Kd.int .u8) _ _ _ 1 [.int .u8 1] from rfl) (Reps.none _ _))))))))); intro v312 w46 ho47 hb hg_ hnew_; clear hg_ hnew_; (first | rw [← Ny311.out] at ho47 | (simp only [Int.reduceToNat] at ho47; rw [← Ny311.out] at ho47)); have n0_ := Aside0.mk (Kd.R_elder' (mvR HO297) (Kd.R_base ho47) hb); have n1_ := Aside0.mk (Kd.R_elder' (mvR HO300) (Kd.R_base ho47) hb); have n2_ := Aside0.mk (Kd.R_elder' (mvR HO303) (Kd.R_base ho47) hb); have n3_ := Aside0.mk (Kd.R_elder' (mvR HO307) (Kd.R_base ho47) hb); have n4_ := Aside0.mk (Kd.R_elder' (mvR HO310) (Kd.R_base ho47) hb); have n5_ := Aside0.mk (Kd.R_lower (Kd.R_new' (Kd.R_new' (Kd.R_new' (Kd.R_new' (Kd.R_new' ho47 (Kd.R_lt (mvR HO297))) (Kd.R_lt (mvR HO300))) (Kd.R_lt (mvR HO303))) (Kd.R_lt (mvR HO307))) (Kd.R_lt (mvR HO310))) (below_size (mvB HB))); have n6_ := Aside0.mk (below_step (mvB HB) hb); clear HO297; clear HO300; clear HO303; clear HO307; clear HO310; clear HB; have HO297 := n0_; have HO300 := n1_; have HO303 := n2_; have HO307 := n3_; have HO310 := n4_; have HO313 := n5_; have HB := n6_; clear n0_ n1_ n2_ n3_ n4_ n5_ n6_; clear hb ho47; obtain ⟨Ao48, co48, eo48⟩ := Kd.R_slice HO310.out; subst eo48; obtain ⟨Ao49, co49, eo49⟩ := Kd.R_slice HO313.out; subst eo49) | (go_at_call 11; (with_reducible refine (selvedgelaw16_is.calls k _ _ t308 _ _ y311 false _ ?side1 ?side2 ?side3 ?side4 A6.out).mono ?_); (case side1 => repeat (first | exact (Kd.R_reads' HO310.out).2.2 | (with_reducible refine Kd.C_alloc ?_ _) | (with_reducible refine Kd.C_drewN ?_ _) | (with_reducible refine Kd.C_drew ?_))); (case side2 => exact (Kd.R_reads' HO310.out).2.1); (case side3 => repeat (first | exact (Kd.R_reads' HO313.out).2.2 | (with_reducible refine Kd.C_alloc ?_ _) | (with_reducible refine Kd.C_drewN ?_ _) | (with_reducible refine Kd.C_drew ?_))); (case side4 => exact (Kd.R_reads' HO313.out).2.1); rintro e w' ⟨rfl, ⟨nd, rfl⟩⟩))
    go_meet
    case rel => exact ⟨_, (false), (by first | rfl | (simp; done) | (simp [*]; done)), H', ⟨by first | omega | exact Nat.le_refl _⟩, ⟨mvB HB⟩⟩
  ·replace c4 := Bool.eq_false_iff.mpr c4
   subst c4
   have H1 : (selvedgelaw16_WeakKnown.j0 k false) = some r := by rw [if_neg (show ¬ (false = true) by decide)] at H; exact H
   clear H
   have H := H1
   clear H1
   have H' := Aside0.mk H
   clear H
   go_wp2_with (first | ((with_reducible refine gate_dst (N := 7) rfl ?_); (try (refine gate_guard (by rfl) ?_; dsimp only)); refine Kd.R_lit (Kd.int .u8) _ 23 ?hg (N := 7) ?hd (xs := ([9, 21, 9, 23, 9] : List Int)) (inner := [.int .u8 9, .int .u8 21, .int .u8 9, .int .u8 23, .int .u8 9]) (ok := fun _ => True) (okp := fun _ => True) ?hr ?hp (fun _ hk => hk) trivial (Below.refl _ _) (Nat.le_refl _) (by simp) ?_; (case hd => rfl); (case hg => rfl); (case hr => first | (go_simp; done) | (go_simp; rfl)); (case hp => exact (Reps.one (show Kd.M (Kd.int .u8) _ _ _ 9 [.int .u8 9] from rfl) (Reps.one (show Kd.M (Kd.int .u8) _ _ _ 21 [.int .u8 21] from rfl) (Reps.one (show Kd.M (Kd.int .u8) _ _ _ 9 [.int .u8 9] from rfl) (Reps.one (show Kd.M (Kd.int .u8) _ _ _ 23 [.int .u8 23] from rfl) (Reps.one (show Kd.M (Kd.int .u8) _ _ _ 9 [.int .u8 9] from rfl) (Reps.none _ _))))))); intro v296 w50 ho51 hb hg_ hnew_; clear hg_ hnew_; (first | rw [← Ny295.out] at ho51 | (simp only [Int.reduceToNat] at ho51; rw [← Ny295.out] at ho51)); have n0_ := Aside0.mk (Kd.R_lower ho51 (below_size (mvB HB))); have n1_ := Aside0.mk (below_step (mvB HB) hb); clear HB; have HO297 := n0_; have HB := n1_; clear n0_ n1_; clear hb ho51; obtain ⟨Ao52, co52, eo52⟩ := Kd.R_slice HO297.out; subst eo52) | ((with_reducible refine gate_callee (f := 12) rfl ?_); refine goesL_ (some 8) rfl rfl Try.func12 (by kernel_rfl) rfl #[.slice Ao52 y295.length co52, .int .u8 2] rfl (by (try simp only [List.map_toArray, List.map_cons, List.map_nil]); first | done | rfl | (simp only [List.length_drop, List.length_take]; rfl)) ?_; (with_reducible refine (weak_Resolve.calls _ _ y295 2 t298 _ ?side1 ?side2 A2.out).mono ?_); (case side1 => repeat (first | exact (Kd.R_reads' HO297.out).2.2 | (with_reducible refine Kd.C_alloc ?_ _) | (with_reducible refine Kd.C_drewN ?_ _) | (with_reducible refine Kd.C_drew ?_))); (case side2 => exact (Kd.R_reads' HO297.out).2.1); rintro e w53 ⟨v299, rfl, ho0, hb⟩; refine ⟨_, rfl, ?_⟩; have n0_ := Aside0.mk (Kd.R_elder' (mvR HO297) (Kd.R_base ho0) hb); have n1_ := Aside0.mk (Kd.R_lower (Kd.R_new' ho0 (Kd.R_lt (mvR HO297))) (below_size (mvB HB))); have n2_ := Aside0.mk (below_step (mvB HB) hb); clear HO297; clear HB; have HO297 := n0_; have HO300 := n1_; have HB := n2_; clear n0_ n1_ n2_; (try clear hb); (try clear hb2); (try clear hk); (try clear hi); (try clear ho0)) | ((with_reducible refine gate_dst (N := 9) rfl ?_); (try (refine gate_guard (by rfl) ?_; dsimp only)); refine Kd.R_lit (Kd.int .u8) _ 23 ?hg (N := 9) ?hd (xs := ([2, 21, 14, 23, 14] : List Int)) (inner := [.int .u8 2, .int .u8 21, .int .u8 14, .int .u8 23, .int .u8 14]) (ok := fun _ => True) (okp := fun _ => True) ?hr ?hp (fun _ hk => hk) trivial (Below.refl _ _) (Nat.le_refl _) (by simp) ?_; (case hd => rfl); (case hg => rfl); (case hr => first | (go_simp; done) | (go_simp; rfl)); (case hp => exact (Reps.one (show Kd.M (Kd.int .u8) _ _ _ 2 [.int .u8 2] from rfl) (Reps.one (show Kd.M (Kd.int .u8) _ _ _ 21 [.int .u8 21] from rfl) (Reps.one (show Kd.M (Kd.int .u8) _ _ _ 14 [.int .u8 14] from rfl) (Reps.one (show Kd.M (Kd.int .u8) _ _ _ 23 [.int .u8 23] from rfl) (Reps.one (show Kd.M (Kd.int .u8) _ _ _ 14 [.int .u8 14] from rfl) (Reps.none _ _))))))); intro v302 w54 ho55 hb hg_ hnew_; clear hg_ hnew_; (first | rw [← Ny301.out] at ho55 | (simp only [Int.reduceToNat] at ho55; rw [← Ny301.out] at ho55)); have n0_ := Aside0.mk (Kd.R_elder' (mvR HO297) (Kd.R_base ho55) hb); have n1_ := Aside0.mk (Kd.R_elder' (mvR HO300) (Kd.R_base ho55) hb); have n2_ := Aside0.mk (Kd.R_lower (Kd.R_new' (Kd.R_new' ho55 (Kd.R_lt (mvR HO297))) (Kd.R_lt (mvR HO300))) (below_size (mvB HB))); have n3_ := Aside0.mk (below_step (mvB HB) hb); clear HO297; clear HO300; clear HB; have HO297 := n0_; have HO300 := n1_; have HO303 := n2_; have HB := n3_; clear n0_ n1_ n2_ n3_; clear hb ho55; obtain ⟨Ao56, co56, eo56⟩ := Kd.R_slice HO300.out; subst eo56; obtain ⟨Ao57, co57, eo57⟩ := Kd.R_slice HO303.out; subst eo57) | ((with_reducible refine gate_callee (f := 11) rfl ?_); refine goesL_ (some 10) rfl rfl Try.func11 (by kernel_rfl) rfl #[.slice Ao56 t298.length co56, .slice Ao57 y301.length co57] rfl (by (try simp only [List.map_toArray, List.map_cons, List.map_nil]); first | done | rfl | (simp only [List.length_drop, List.length_take]; rfl)) ?_; (with_reducible refine (selvedgelaw16_is.calls k _ _ t298 _ _ y301 false _ ?side1 ?side2 ?side3 ?side4 A3.out).mono ?_); (case side1 => repeat (first | exact (Kd.R_reads' HO300.out).2.2 | (with_reducible refine Kd.C_alloc ?_ _) | (with_reducible refine Kd.C_drewN ?_ _) | (with_reducible refine Kd.C_drew ?_))); (case side2 => exact (Kd.R_reads' HO300.out).2.1); (case side3 => repeat (first | exact (Kd.R_reads' HO303.out).2.2 | (with_reducible refine Kd.C_alloc ?_ _) | (with_reducible refine Kd.C_drewN ?_ _) | (with_reducible refine Kd.C_drew ?_))); (case side4 => exact (Kd.R_reads' HO303.out).2.1); rintro e w' ⟨rfl, ⟨nd, rfl⟩⟩; refine ⟨_, rfl, ?_⟩))
   go_meet
   case rel => exact ⟨_, (false), (by first | rfl | (simp; done) | (simp [*]; done)), H', ⟨by first | omega | exact Nat.le_refl _⟩, ⟨mvB HB⟩⟩
 case rest =>
  clear HC1
  try clear c1
  try clear p2
  try clear c4
  try clear c7
  try clear c8
  try clear c11
  try clear c12
  obtain ⟨kq, x1_0, rfl, HA, HJ0, HB⟩ := hcut
  cases kq with
  | zero => exact absurd HA.out (by simp [selvedgelaw16_WeakKnown.j0])
  | succ kj0 =>
   have H := HA.out
   clear HA
   simp only [selvedgelaw16_WeakKnown.j0] at H
   have HC58 := Aside0.mk H
   clear H
   go_upto_region 2 with (fail)
   go_cut [2] (fun v2 wc => ∃ (kq : Nat) (x2_57 : Bool), v2 = .bool x2_57 ∧ Aside0 (selvedgelaw16_WeakKnown.j1 kq x1_0 x2_57 = some r) ∧ Aside0 (kq ≤ kj0) ∧ Aside0 (Below w.heap.size w wc))
   case first =>
    have H := HC58.out
    clear HC58
    obtain ⟨y325, hy325⟩ : ∃ y_ : List Int, y_ = (([4, 10, 8, 10, 4, 10, 6] : List Int)) := ⟨_, rfl⟩
    replace H : ((weak_Resolve.f y325 1).bind fun t328 => ((selvedgelaw16_is.f kj0 t328 (([1, 10, 1, 10, 1, 10, 1] : List Int))).bind fun t334 => (if t334 = true then ((weak_Resolve.f (([6, 10, 6, 5] : List Int)) 2).bind fun t338 => ((selvedgelaw16_is.f kj0 t338 (([14, 10, 14, 14] : List Int))).bind fun t344 => (if t344 = true then ((weak_Resolve.f ([] : List Int) 1).bind fun t345 => (selvedgelaw16_WeakKnown.j1 kj0 x1_0 ((t345.length : Int) == 0))) else (selvedgelaw16_WeakKnown.j1 kj0 x1_0 false)))) else (selvedgelaw16_WeakKnown.j1 kj0 x1_0 false)))) = some r := by first | (rw [hy325]; with_reducible exact H) | (have H2_ := (Option.bind_some _ _).symm.trans H; rw [hy325]; with_reducible exact H2_) | (have H2_ := (Option.bind_some _ _).symm.trans H; with_reducible exact H2_) | with_reducible exact H | (rw [hy325]; exact H) | exact H
    have Ny325 := Aside0.mk hy325
    clear hy325
    replace H := Option.bind_eq_some_iff.mp H
    obtain ⟨t328, A590, H⟩ := H
    replace H : ((selvedgelaw16_is.f kj0 t328 (([1, 10, 1, 10, 1, 10, 1] : List Int))).bind fun t334 => (if t334 = true then ((weak_Resolve.f (([6, 10, 6, 5] : List Int)) 2).bind fun t338 => ((selvedgelaw16_is.f kj0 t338 (([14, 10, 14, 14] : List Int))).bind fun t344 => (if t344 = true then ((weak_Resolve.f ([] : List Int) 1).bind fun t345 => (selvedgelaw16_WeakKnown.j1 kj0 x1_0 ((t345.length : Int) == 0))) else (selvedgelaw16_WeakKnown.j1 kj0 x1_0 false)))) else (selvedgelaw16_WeakKnown.j1 kj0 x1_0 false))) = some r := H
    have A59 := Aside0.mk A590
    clear A590
    obtain ⟨y331, hy331⟩ : ∃ y_ : List Int, y_ = (([1, 10, 1, 10, 1, 10, 1] : List Int)) := ⟨_, rfl⟩
    replace H : ((selvedgelaw16_is.f kj0 t328 y331).bind fun t334 => (if t334 = true then ((weak_Resolve.f (([6, 10, 6, 5] : List Int)) 2).bind fun t338 => ((selvedgelaw16_is.f kj0 t338 (([14, 10, 14, 14] : List Int))).bind fun t344 => (if t344 = true then ((weak_Resolve.f ([] : List Int) 1).bind fun t345 => (selvedgelaw16_WeakKnown.j1 kj0 x1_0 ((t345.length : Int) == 0))) else (selvedgelaw16_WeakKnown.j1 kj0 x1_0 false)))) else (selvedgelaw16_WeakKnown.j1 kj0 x1_0 false))) = some r := by first | (rw [hy331]; with_reducible exact H) | (have H2_ := (Option.bind_some _ _).symm.trans H; rw [hy331]; with_reducible exact H2_) | (have H2_ := (Option.bind_some _ _).symm.trans H; with_reducible exact H2_) | with_reducible exact H | (rw [hy331]; exact H) | exact H
    have Ny331 := Aside0.mk hy331
    clear hy331
    replace H := Option.bind_eq_some_iff.mp H
    obtain ⟨t334, A600, H⟩ := H
    replace H : (if t334 = true then ((weak_Resolve.f (([6, 10, 6, 5] : List Int)) 2).bind fun t338 => ((selvedgelaw16_is.f kj0 t338 (([14, 10, 14, 14] : List Int))).bind fun t344 => (if t344 = true then ((weak_Resolve.f ([] : List Int) 1).bind fun t345 => (selvedgelaw16_WeakKnown.j1 kj0 x1_0 ((t345.length : Int) == 0))) else (selvedgelaw16_WeakKnown.j1 kj0 x1_0 false)))) else (selvedgelaw16_WeakKnown.j1 kj0 x1_0 false)) = some r := H
    have A60 := Aside0.mk A600
    clear A600
    by_cases c61 : t334 = true
    ·subst c61
     have H1 : ((weak_Resolve.f (([6, 10, 6, 5] : List Int)) 2).bind fun t338 => ((selvedgelaw16_is.f kj0 t338 (([14, 10, 14, 14] : List Int))).bind fun t344 => (if t344 = true then ((weak_Resolve.f ([] : List Int) 1).bind fun t345 => (selvedgelaw16_WeakKnown.j1 kj0 x1_0 ((t345.length : Int) == 0))) else (selvedgelaw16_WeakKnown.j1 kj0 x1_0 false)))) = some r := by rw [if_pos rfl] at H; exact H
     clear H
     have H := H1
     clear H1
     obtain ⟨y335, hy335⟩ : ∃ y_ : List Int, y_ = (([6, 10, 6, 5] : List Int)) := ⟨_, rfl⟩
     replace H : ((weak_Resolve.f y335 2).bind fun t338 => ((selvedgelaw16_is.f kj0 t338 (([14, 10, 14, 14] : List Int))).bind fun t344 => (if t344 = true then ((weak_Resolve.f ([] : List Int) 1).bind fun t345 => (selvedgelaw16_WeakKnown.j1 kj0 x1_0 ((t345.length : Int) == 0))) else (selvedgelaw16_WeakKnown.j1 kj0 x1_0 false)))) = some r := by first | (rw [hy335]; with_reducible exact H) | (have H2_ := (Option.bind_some _ _).symm.trans H; rw [hy335]; with_reducible exact H2_) | (have H2_ := (Option.bind_some _ _).symm.trans H; with_reducible exact H2_) | with_reducible exact H | (rw [hy335]; exact H) | exact H
     have Ny335 := Aside0.mk hy335
     clear hy335
     replace H := Option.bind_eq_some_iff.mp H
     obtain ⟨t338, A620, H⟩ := H
     replace H : ((selvedgelaw16_is.f kj0 t338 (([14, 10, 14, 14] : List Int))).bind fun t344 => (if t344 = true then ((weak_Resolve.f ([] : List Int) 1).bind fun t345 => (selvedgelaw16_WeakKnown.j1 kj0 x1_0 ((t345.length : Int) == 0))) else (selvedgelaw16_WeakKnown.j1 kj0 x1_0 false))) = some r := H
     have A62 := Aside0.mk A620
     clear A620
     obtain ⟨y341, hy341⟩ : ∃ y_ : List Int, y_ = (([14, 10, 14, 14] : List Int)) := ⟨_, rfl⟩
     replace H : ((selvedgelaw16_is.f kj0 t338 y341).bind fun t344 => (if t344 = true then ((weak_Resolve.f ([] : List Int) 1).bind fun t345 => (selvedgelaw16_WeakKnown.j1 kj0 x1_0 ((t345.length : Int) == 0))) else (selvedgelaw16_WeakKnown.j1 kj0 x1_0 false))) = some r := by first | (rw [hy341]; with_reducible exact H) | (have H2_ := (Option.bind_some _ _).symm.trans H; rw [hy341]; with_reducible exact H2_) | (have H2_ := (Option.bind_some _ _).symm.trans H; with_reducible exact H2_) | with_reducible exact H | (rw [hy341]; exact H) | exact H
     have Ny341 := Aside0.mk hy341
     clear hy341
     replace H := Option.bind_eq_some_iff.mp H
     obtain ⟨t344, A630, H⟩ := H
     replace H : (if t344 = true then ((weak_Resolve.f ([] : List Int) 1).bind fun t345 => (selvedgelaw16_WeakKnown.j1 kj0 x1_0 ((t345.length : Int) == 0))) else (selvedgelaw16_WeakKnown.j1 kj0 x1_0 false)) = some r := H
     have A63 := Aside0.mk A630
     clear A630
     by_cases c64 : t344 = true
     ·subst c64
      have H1 : ((weak_Resolve.f ([] : List Int) 1).bind fun t345 => (selvedgelaw16_WeakKnown.j1 kj0 x1_0 ((t345.length : Int) == 0))) = some r := by rw [if_pos rfl] at H; exact H
      clear H
      have H := H1
      clear H1
      replace H := Option.bind_eq_some_iff.mp H
      obtain ⟨t345, A650, H⟩ := H
      replace H : (selvedgelaw16_WeakKnown.j1 kj0 x1_0 ((t345.length : Int) == 0)) = some r := H
      have A65 := Aside0.mk A650
      clear A650
      have H' := Aside0.mk H
      clear H
      go_wp2_with (first | ((with_reducible refine gate_dst (N := 23) rfl ?_); (try (refine gate_guard (by rfl) ?_; dsimp only)); refine Kd.R_lit (Kd.int .u8) _ 23 ?hg (N := 23) ?hd (xs := ([4, 10, 8, 10, 4, 10, 6] : List Int)) (inner := [.int .u8 4, .int .u8 10, .int .u8 8, .int .u8 10, .int .u8 4, .int .u8 10, .int .u8 6]) (ok := fun _ => True) (okp := fun _ => True) ?hr ?hp (fun _ hk => hk) trivial (Below.refl _ _) (Nat.le_refl _) (by simp) ?_; (case hd => rfl); (case hg => rfl); (case hr => first | (go_simp; done) | (go_simp; rfl)); (case hp => exact (Reps.one (show Kd.M (Kd.int .u8) _ _ _ 4 [.int .u8 4] from rfl) (Reps.one (show Kd.M (Kd.int .u8) _ _ _ 10 [.int .u8 10] from rfl) (Reps.one (show Kd.M (Kd.int .u8) _ _ _ 8 [.int .u8 8] from rfl) (Reps.one (show Kd.M (Kd.int .u8) _ _ _ 10 [.int .u8 10] from rfl) (Reps.one (show Kd.M (Kd.int .u8) _ _ _ 4 [.int .u8 4] from rfl) (Reps.one (show Kd.M (Kd.int .u8) _ _ _ 10 [.int .u8 10] from rfl) (Reps.one (show Kd.M (Kd.int .u8) _ _ _ 6 [.int .u8 6] from rfl) (Reps.none _ _))))))))); intro v326 w66 ho67 hb hg_ hnew_; clear hg_ hnew_; (first | rw [← Ny325.out] at ho67 | (simp only [Int.reduceToNat] at ho67; rw [← Ny325.out] at ho67)); have n0_ := Aside0.mk (Kd.R_lower ho67 (below_size (mvB HB))); have n1_ := Aside0.mk (below_step (mvB HB) hb); clear HB; have HO327 := n0_; have HB := n1_; clear n0_ n1_; clear hb ho67; obtain ⟨Ao68, co68, eo68⟩ := Kd.R_slice HO327.out; subst eo68) | ((with_reducible refine gate_callee (f := 12) rfl ?_); refine goesL_ (some 24) rfl rfl Try.func12 (by kernel_rfl) rfl #[.slice Ao68 y325.length co68, .int .u8 1] rfl (by (try simp only [List.map_toArray, List.map_cons, List.map_nil]); first | done | rfl | (simp only [List.length_drop, List.length_take]; rfl)) ?_; (with_reducible refine (weak_Resolve.calls _ _ y325 1 t328 _ ?side1 ?side2 A59.out).mono ?_); (case side1 => repeat (first | exact (Kd.R_reads' HO327.out).2.2 | (with_reducible refine Kd.C_alloc ?_ _) | (with_reducible refine Kd.C_drewN ?_ _) | (with_reducible refine Kd.C_drew ?_))); (case side2 => exact (Kd.R_reads' HO327.out).2.1); rintro e w69 ⟨v329, rfl, ho0, hb⟩; refine ⟨_, rfl, ?_⟩; have n0_ := Aside0.mk (Kd.R_elder' (mvR HO327) (Kd.R_base ho0) hb); have n1_ := Aside0.mk (Kd.R_lower (Kd.R_new' ho0 (Kd.R_lt (mvR HO327))) (below_size (mvB HB))); have n2_ := Aside0.mk (below_step (mvB HB) hb); clear HO327; clear HB; have HO327 := n0_; have HO330 := n1_; have HB := n2_; clear n0_ n1_ n2_; (try clear hb); (try clear hb2); (try clear hk); (try clear hi); (try clear ho0)) | ((with_reducible refine gate_dst (N := 25) rfl ?_); (try (refine gate_guard (by rfl) ?_; dsimp only)); refine Kd.R_lit (Kd.int .u8) _ 23 ?hg (N := 25) ?hd (xs := ([1, 10, 1, 10, 1, 10, 1] : List Int)) (inner := [.int .u8 1, .int .u8 10, .int .u8 1, .int .u8 10, .int .u8 1, .int .u8 10, .int .u8 1]) (ok := fun _ => True) (okp := fun _ => True) ?hr ?hp (fun _ hk => hk) trivial (Below.refl _ _) (Nat.le_refl _) (by simp) ?_; (case hd => rfl); (case hg => rfl); (case hr => first | (go_simp; done) | (go_simp; rfl)); (case hp => exact (Reps.one (show Kd.M (Kd.int .u8) _ _ _ 1 [.int .u8 1] from rfl) (Reps.one (show Kd.M (Kd.int .u8) _ _ _ 10 [.int .u8 10] from rfl) (Reps.one (show Kd.M (Kd.int .u8) _ _ _ 1 [.int .u8 1] from rfl) (Reps.one (show Kd.M (Kd.int .u8) _ _ _ 10 [.int .u8 10] from rfl) (Reps.one (show Kd.M (Kd.int .u8) _ _ _ 1 [.int .u8 1] from rfl) (Reps.one (show Kd.M (Kd.int .u8) _ _ _ 10 [.int .u8 10] from rfl) (Reps.one (show Kd.M (Kd.int .u8) _ _ _ 1 [.int .u8 1] from rfl) (Reps.none _ _))))))))); intro v332 w70 ho71 hb hg_ hnew_; clear hg_ hnew_; (first | rw [← Ny331.out] at ho71 | (simp only [Int.reduceToNat] at ho71; rw [← Ny331.out] at ho71)); have n0_ := Aside0.mk (Kd.R_elder' (mvR HO327) (Kd.R_base ho71) hb); have n1_ := Aside0.mk (Kd.R_elder' (mvR HO330) (Kd.R_base ho71) hb); have n2_ := Aside0.mk (Kd.R_lower (Kd.R_new' (Kd.R_new' ho71 (Kd.R_lt (mvR HO327))) (Kd.R_lt (mvR HO330))) (below_size (mvB HB))); have n3_ := Aside0.mk (below_step (mvB HB) hb); clear HO327; clear HO330; clear HB; have HO327 := n0_; have HO330 := n1_; have HO333 := n2_; have HB := n3_; clear n0_ n1_ n2_ n3_; clear hb ho71; obtain ⟨Ao72, co72, eo72⟩ := Kd.R_slice HO330.out; subst eo72; obtain ⟨Ao73, co73, eo73⟩ := Kd.R_slice HO333.out; subst eo73) | ((with_reducible refine gate_callee (f := 11) rfl ?_); refine goesL_ (some 26) rfl rfl Try.func11 (by kernel_rfl) rfl #[.slice Ao72 t328.length co72, .slice Ao73 y331.length co73] rfl (by (try simp only [List.map_toArray, List.map_cons, List.map_nil]); first | done | rfl | (simp only [List.length_drop, List.length_take]; rfl)) ?_; (with_reducible refine (selvedgelaw16_is.calls kj0 _ _ t328 _ _ y331 true _ ?side1 ?side2 ?side3 ?side4 A60.out).mono ?_); (case side1 => repeat (first | exact (Kd.R_reads' HO330.out).2.2 | (with_reducible refine Kd.C_alloc ?_ _) | (with_reducible refine Kd.C_drewN ?_ _) | (with_reducible refine Kd.C_drew ?_))); (case side2 => exact (Kd.R_reads' HO330.out).2.1); (case side3 => repeat (first | exact (Kd.R_reads' HO333.out).2.2 | (with_reducible refine Kd.C_alloc ?_ _) | (with_reducible refine Kd.C_drewN ?_ _) | (with_reducible refine Kd.C_drew ?_))); (case side4 => exact (Kd.R_reads' HO333.out).2.1); rintro e w' ⟨rfl, ⟨nd, rfl⟩⟩; refine ⟨_, rfl, ?_⟩) | ((with_reducible refine gate_dst (N := 28) rfl ?_); (try (refine gate_guard (by rfl) ?_; dsimp only)); refine Kd.R_lit (Kd.int .u8) _ 23 ?hg (N := 28) ?hd (xs := ([6, 10, 6, 5] : List Int)) (inner := [.int .u8 6, .int .u8 10, .int .u8 6, .int .u8 5]) (ok := fun _ => True) (okp := fun _ => True) ?hr ?hp (fun _ hk => hk) trivial (Below.refl _ _) (Nat.le_refl _) (by simp) ?_; (case hd => rfl); (case hg => rfl); (case hr => first | (go_simp; done) | (go_simp; rfl)); (case hp => exact (Reps.one (show Kd.M (Kd.int .u8) _ _ _ 6 [.int .u8 6] from rfl) (Reps.one (show Kd.M (Kd.int .u8) _ _ _ 10 [.int .u8 10] from rfl) (Reps.one (show Kd.M (Kd.int .u8) _ _ _ 6 [.int .u8 6] from rfl) (Reps.one (show Kd.M (Kd.int .u8) _ _ _ 5 [.int .u8 5] from rfl) (Reps.none _ _)))))); intro v336 w74 ho75 hb hg_ hnew_; clear hg_ hnew_; (first | rw [← Ny335.out] at ho75 | (simp only [Int.reduceToNat] at ho75; rw [← Ny335.out] at ho75)); have n0_ := Aside0.mk (Kd.R_elder' (mvR HO327) (Kd.R_base ho75) hb); have n1_ := Aside0.mk (Kd.R_elder' (mvR HO330) (Kd.R_base ho75) hb); have n2_ := Aside0.mk (Kd.R_elder' (mvR HO333) (Kd.R_base ho75) hb); have n3_ := Aside0.mk (Kd.R_lower (Kd.R_new' (Kd.R_new' (Kd.R_new' ho75 (Kd.R_lt (mvR HO327))) (Kd.R_lt (mvR HO330))) (Kd.R_lt (mvR HO333))) (below_size (mvB HB))); have n4_ := Aside0.mk (below_step (mvB HB) hb); clear HO327; clear HO330; clear HO333; clear HB; have HO327 := n0_; have HO330 := n1_; have HO333 := n2_; have HO337 := n3_; have HB := n4_; clear n0_ n1_ n2_ n3_ n4_; clear hb ho75; obtain ⟨Ao76, co76, eo76⟩ := Kd.R_slice HO337.out; subst eo76) | (go_at_call 12; (with_reducible refine (weak_Resolve.calls _ _ y335 2 t338 _ ?side1 ?side2 A62.out).mono ?_); (case side1 => repeat (first | exact (Kd.R_reads' HO337.out).2.2 | (with_reducible refine Kd.C_alloc ?_ _) | (with_reducible refine Kd.C_drewN ?_ _) | (with_reducible refine Kd.C_drew ?_))); (case side2 => exact (Kd.R_reads' HO337.out).2.1); rintro e w77 ⟨v339, rfl, ho0, hb⟩; have n0_ := Aside0.mk (Kd.R_elder' (mvR HO327) (Kd.R_base ho0) hb); have n1_ := Aside0.mk (Kd.R_elder' (mvR HO330) (Kd.R_base ho0) hb); have n2_ := Aside0.mk (Kd.R_elder' (mvR HO333) (Kd.R_base ho0) hb); have n3_ := Aside0.mk (Kd.R_elder' (mvR HO337) (Kd.R_base ho0) hb); have n4_ := Aside0.mk (Kd.R_lower (Kd.R_new' (Kd.R_new' (Kd.R_new' (Kd.R_new' ho0 (Kd.R_lt (mvR HO327))) (Kd.R_lt (mvR HO330))) (Kd.R_lt (mvR HO333))) (Kd.R_lt (mvR HO337))) (below_size (mvB HB))); have n5_ := Aside0.mk (below_step (mvB HB) hb); clear HO327; clear HO330; clear HO333; clear HO337; clear HB; have HO327 := n0_; have HO330 := n1_; have HO333 := n2_; have HO337 := n3_; have HO340 := n4_; have HB := n5_; clear n0_ n1_ n2_ n3_ n4_ n5_; (try clear hb); (try clear hb2); (try clear hk); (try clear hi); (try clear ho0)) | ((with_reducible refine gate_dst (N := 30) rfl ?_); (try (refine gate_guard (by rfl) ?_; dsimp only)); refine Kd.R_lit (Kd.int .u8) _ 23 ?hg (N := 30) ?hd (xs := ([14, 10, 14, 14] : List Int)) (inner := [.int .u8 14, .int .u8 10, .int .u8 14, .int .u8 14]) (ok := fun _ => True) (okp := fun _ => True) ?hr ?hp (fun _ hk => hk) trivial (Below.refl _ _) (Nat.le_refl _) (by simp) ?_; (case hd => rfl); (case hg => rfl); (case hr => first | (go_simp; done) | (go_simp; rfl)); (case hp => exact (Reps.one (show Kd.M (Kd.int .u8) _ _ _ 14 [.int .u8 14] from rfl) (Reps.one (show Kd.M (Kd.int .u8) _ _ _ 10 [.int .u8 10] from rfl) (Reps.one (show Kd.M (Kd.int .u8) _ _ _ 14 [.int .u8 14] from rfl) (Reps.one (show Kd.M (Kd.int .u8) _ _ _ 14 [.int .u8 14] from rfl) (Reps.none _ _)))))); intro v342 w78 ho79 hb hg_ hnew_; clear hg_ hnew_; (first | rw [← Ny341.out] at ho79 | (simp only [Int.reduceToNat] at ho79; rw [← Ny341.out] at ho79)); have n0_ := Aside0.mk (Kd.R_elder' (mvR HO327) (Kd.R_base ho79) hb); have n1_ := Aside0.mk (Kd.R_elder' (mvR HO330) (Kd.R_base ho79) hb); have n2_ := Aside0.mk (Kd.R_elder' (mvR HO333) (Kd.R_base ho79) hb); have n3_ := Aside0.mk (Kd.R_elder' (mvR HO337) (Kd.R_base ho79) hb); have n4_ := Aside0.mk (Kd.R_elder' (mvR HO340) (Kd.R_base ho79) hb); have n5_ := Aside0.mk (Kd.R_lower (Kd.R_new' (Kd.R_new' (Kd.R_new' (Kd.R_new' (Kd.R_new' ho79 (Kd.R_lt (mvR HO327))) (Kd.R_lt (mvR HO330))) (Kd.R_lt (mvR HO333))) (Kd.R_lt (mvR HO337))) (Kd.R_lt (mvR HO340))) (below_size (mvB HB))); have n6_ := Aside0.mk (below_step (mvB HB) hb); clear HO327; clear HO330; clear HO333; clear HO337; clear HO340; clear HB; have HO327 := n0_; have HO330 := n1_; have HO333 := n2_; have HO337 := n3_; have HO340 := n4_; have HO343 := n5_; have HB := n6_; clear n0_ n1_ n2_ n3_ n4_ n5_ n6_; clear hb ho79; obtain ⟨Ao80, co80, eo80⟩ := Kd.R_slice HO340.out; subst eo80; obtain ⟨Ao81, co81, eo81⟩ := Kd.R_slice HO343.out; subst eo81) | (go_at_call 11; (with_reducible refine (selvedgelaw16_is.calls kj0 _ _ t338 _ _ y341 true _ ?side1 ?side2 ?side3 ?side4 A63.out).mono ?_); (case side1 => repeat (first | exact (Kd.R_reads' HO340.out).2.2 | (with_reducible refine Kd.C_alloc ?_ _) | (with_reducible refine Kd.C_drewN ?_ _) | (with_reducible refine Kd.C_drew ?_))); (case side2 => exact (Kd.R_reads' HO340.out).2.1); (case side3 => repeat (first | exact (Kd.R_reads' HO343.out).2.2 | (with_reducible refine Kd.C_alloc ?_ _) | (with_reducible refine Kd.C_drewN ?_ _) | (with_reducible refine Kd.C_drew ?_))); (case side4 => exact (Kd.R_reads' HO343.out).2.1); rintro e w' ⟨rfl, ⟨nd, rfl⟩⟩) | (go_at_call 12; (refine (weak_Resolve.calls _ _ ([] : List Int) 1 t345 _ ?side1 ?side2 A65.out).mono ?_); (case side1 => exact Kd.C_nil _ _); (case side2 => exact Nat.le_refl _); rintro e w82 ⟨v346, rfl, ho0, hb⟩; have n0_ := Aside0.mk (Kd.R_elder' (mvR HO327) (Kd.R_base ho0) hb); have n1_ := Aside0.mk (Kd.R_elder' (mvR HO330) (Kd.R_base ho0) hb); have n2_ := Aside0.mk (Kd.R_elder' (mvR HO333) (Kd.R_base ho0) hb); have n3_ := Aside0.mk (Kd.R_elder' (mvR HO337) (Kd.R_base ho0) hb); have n4_ := Aside0.mk (Kd.R_elder' (mvR HO340) (Kd.R_base ho0) hb); have n5_ := Aside0.mk (Kd.R_elder' (mvR HO343) (Kd.R_base ho0) hb); have n6_ := Aside0.mk (Kd.R_lower (Kd.R_new' (Kd.R_new' (Kd.R_new' (Kd.R_new' (Kd.R_new' (Kd.R_new' ho0 (Kd.R_lt (mvR HO327))) (Kd.R_lt (mvR HO330))) (Kd.R_lt (mvR HO333))) (Kd.R_lt (mvR HO337))) (Kd.R_lt (mvR HO340))) (Kd.R_lt (mvR HO343))) (below_size (mvB HB))); have n7_ := Aside0.mk (below_step (mvB HB) hb); clear HO327; clear HO330; clear HO333; clear HO337; clear HO340; clear HO343; clear HB; have HO327 := n0_; have HO330 := n1_; have HO333 := n2_; have HO337 := n3_; have HO340 := n4_; have HO343 := n5_; have HO347 := n6_; have HB := n7_; clear n0_ n1_ n2_ n3_ n4_ n5_ n6_ n7_; (try clear hb); (try clear hb2); (try clear hk); (try clear hi); (try clear ho0); obtain ⟨Ao83, co83, eo83⟩ := Kd.R_slice HO347.out; subst eo83))
      go_meet
      case rel => exact ⟨_, (((t345.length : Int) == 0)), (by first | rfl | (simp; done) | (simp [*]; done)), H', ⟨by have := HJ0.out; first | omega | exact Nat.le_refl _⟩, ⟨mvB HB⟩⟩
     ·replace c64 := Bool.eq_false_iff.mpr c64
      subst c64
      have H1 : (selvedgelaw16_WeakKnown.j1 kj0 x1_0 false) = some r := by rw [if_neg (show ¬ (false = true) by decide)] at H; exact H
      clear H
      have H := H1
      clear H1
      have H' := Aside0.mk H
      clear H
      go_wp2_with (first | ((with_reducible refine gate_dst (N := 23) rfl ?_); (try (refine gate_guard (by rfl) ?_; dsimp only)); refine Kd.R_lit (Kd.int .u8) _ 23 ?hg (N := 23) ?hd (xs := ([4, 10, 8, 10, 4, 10, 6] : List Int)) (inner := [.int .u8 4, .int .u8 10, .int .u8 8, .int .u8 10, .int .u8 4, .int .u8 10, .int .u8 6]) (ok := fun _ => True) (okp := fun _ => True) ?hr ?hp (fun _ hk => hk) trivial (Below.refl _ _) (Nat.le_refl _) (by simp) ?_; (case hd => rfl); (case hg => rfl); (case hr => first | (go_simp; done) | (go_simp; rfl)); (case hp => exact (Reps.one (show Kd.M (Kd.int .u8) _ _ _ 4 [.int .u8 4] from rfl) (Reps.one (show Kd.M (Kd.int .u8) _ _ _ 10 [.int .u8 10] from rfl) (Reps.one (show Kd.M (Kd.int .u8) _ _ _ 8 [.int .u8 8] from rfl) (Reps.one (show Kd.M (Kd.int .u8) _ _ _ 10 [.int .u8 10] from rfl) (Reps.one (show Kd.M (Kd.int .u8) _ _ _ 4 [.int .u8 4] from rfl) (Reps.one (show Kd.M (Kd.int .u8) _ _ _ 10 [.int .u8 10] from rfl) (Reps.one (show Kd.M (Kd.int .u8) _ _ _ 6 [.int .u8 6] from rfl) (Reps.none _ _))))))))); intro v326 w84 ho85 hb hg_ hnew_; clear hg_ hnew_; (first | rw [← Ny325.out] at ho85 | (simp only [Int.reduceToNat] at ho85; rw [← Ny325.out] at ho85)); have n0_ := Aside0.mk (Kd.R_lower ho85 (below_size (mvB HB))); have n1_ := Aside0.mk (below_step (mvB HB) hb); clear HB; have HO327 := n0_; have HB := n1_; clear n0_ n1_; clear hb ho85; obtain ⟨Ao86, co86, eo86⟩ := Kd.R_slice HO327.out; subst eo86) | ((with_reducible refine gate_callee (f := 12) rfl ?_); refine goesL_ (some 24) rfl rfl Try.func12 (by kernel_rfl) rfl #[.slice Ao86 y325.length co86, .int .u8 1] rfl (by (try simp only [List.map_toArray, List.map_cons, List.map_nil]); first | done | rfl | (simp only [List.length_drop, List.length_take]; rfl)) ?_; (with_reducible refine (weak_Resolve.calls _ _ y325 1 t328 _ ?side1 ?side2 A59.out).mono ?_); (case side1 => repeat (first | exact (Kd.R_reads' HO327.out).2.2 | (with_reducible refine Kd.C_alloc ?_ _) | (with_reducible refine Kd.C_drewN ?_ _) | (with_reducible refine Kd.C_drew ?_))); (case side2 => exact (Kd.R_reads' HO327.out).2.1); rintro e w87 ⟨v329, rfl, ho0, hb⟩; refine ⟨_, rfl, ?_⟩; have n0_ := Aside0.mk (Kd.R_elder' (mvR HO327) (Kd.R_base ho0) hb); have n1_ := Aside0.mk (Kd.R_lower (Kd.R_new' ho0 (Kd.R_lt (mvR HO327))) (below_size (mvB HB))); have n2_ := Aside0.mk (below_step (mvB HB) hb); clear HO327; clear HB; have HO327 := n0_; have HO330 := n1_; have HB := n2_; clear n0_ n1_ n2_; (try clear hb); (try clear hb2); (try clear hk); (try clear hi); (try clear ho0)) | ((with_reducible refine gate_dst (N := 25) rfl ?_); (try (refine gate_guard (by rfl) ?_; dsimp only)); refine Kd.R_lit (Kd.int .u8) _ 23 ?hg (N := 25) ?hd (xs := ([1, 10, 1, 10, 1, 10, 1] : List Int)) (inner := [.int .u8 1, .int .u8 10, .int .u8 1, .int .u8 10, .int .u8 1, .int .u8 10, .int .u8 1]) (ok := fun _ => True) (okp := fun _ => True) ?hr ?hp (fun _ hk => hk) trivial (Below.refl _ _) (Nat.le_refl _) (by simp) ?_; (case hd => rfl); (case hg => rfl); (case hr => first | (go_simp; done) | (go_simp; rfl)); (case hp => exact (Reps.one (show Kd.M (Kd.int .u8) _ _ _ 1 [.int .u8 1] from rfl) (Reps.one (show Kd.M (Kd.int .u8) _ _ _ 10 [.int .u8 10] from rfl) (Reps.one (show Kd.M (Kd.int .u8) _ _ _ 1 [.int .u8 1] from rfl) (Reps.one (show Kd.M (Kd.int .u8) _ _ _ 10 [.int .u8 10] from rfl) (Reps.one (show Kd.M (Kd.int .u8) _ _ _ 1 [.int .u8 1] from rfl) (Reps.one (show Kd.M (Kd.int .u8) _ _ _ 10 [.int .u8 10] from rfl) (Reps.one (show Kd.M (Kd.int .u8) _ _ _ 1 [.int .u8 1] from rfl) (Reps.none _ _))))))))); intro v332 w88 ho89 hb hg_ hnew_; clear hg_ hnew_; (first | rw [← Ny331.out] at ho89 | (simp only [Int.reduceToNat] at ho89; rw [← Ny331.out] at ho89)); have n0_ := Aside0.mk (Kd.R_elder' (mvR HO327) (Kd.R_base ho89) hb); have n1_ := Aside0.mk (Kd.R_elder' (mvR HO330) (Kd.R_base ho89) hb); have n2_ := Aside0.mk (Kd.R_lower (Kd.R_new' (Kd.R_new' ho89 (Kd.R_lt (mvR HO327))) (Kd.R_lt (mvR HO330))) (below_size (mvB HB))); have n3_ := Aside0.mk (below_step (mvB HB) hb); clear HO327; clear HO330; clear HB; have HO327 := n0_; have HO330 := n1_; have HO333 := n2_; have HB := n3_; clear n0_ n1_ n2_ n3_; clear hb ho89; obtain ⟨Ao90, co90, eo90⟩ := Kd.R_slice HO330.out; subst eo90; obtain ⟨Ao91, co91, eo91⟩ := Kd.R_slice HO333.out; subst eo91) | ((with_reducible refine gate_callee (f := 11) rfl ?_); refine goesL_ (some 26) rfl rfl Try.func11 (by kernel_rfl) rfl #[.slice Ao90 t328.length co90, .slice Ao91 y331.length co91] rfl (by (try simp only [List.map_toArray, List.map_cons, List.map_nil]); first | done | rfl | (simp only [List.length_drop, List.length_take]; rfl)) ?_; (with_reducible refine (selvedgelaw16_is.calls kj0 _ _ t328 _ _ y331 true _ ?side1 ?side2 ?side3 ?side4 A60.out).mono ?_); (case side1 => repeat (first | exact (Kd.R_reads' HO330.out).2.2 | (with_reducible refine Kd.C_alloc ?_ _) | (with_reducible refine Kd.C_drewN ?_ _) | (with_reducible refine Kd.C_drew ?_))); (case side2 => exact (Kd.R_reads' HO330.out).2.1); (case side3 => repeat (first | exact (Kd.R_reads' HO333.out).2.2 | (with_reducible refine Kd.C_alloc ?_ _) | (with_reducible refine Kd.C_drewN ?_ _) | (with_reducible refine Kd.C_drew ?_))); (case side4 => exact (Kd.R_reads' HO333.out).2.1); rintro e w' ⟨rfl, ⟨nd, rfl⟩⟩; refine ⟨_, rfl, ?_⟩) | ((with_reducible refine gate_dst (N := 28) rfl ?_); (try (refine gate_guard (by rfl) ?_; dsimp only)); refine Kd.R_lit (Kd.int .u8) _ 23 ?hg (N := 28) ?hd (xs := ([6, 10, 6, 5] : List Int)) (inner := [.int .u8 6, .int .u8 10, .int .u8 6, .int .u8 5]) (ok := fun _ => True) (okp := fun _ => True) ?hr ?hp (fun _ hk => hk) trivial (Below.refl _ _) (Nat.le_refl _) (by simp) ?_; (case hd => rfl); (case hg => rfl); (case hr => first | (go_simp; done) | (go_simp; rfl)); (case hp => exact (Reps.one (show Kd.M (Kd.int .u8) _ _ _ 6 [.int .u8 6] from rfl) (Reps.one (show Kd.M (Kd.int .u8) _ _ _ 10 [.int .u8 10] from rfl) (Reps.one (show Kd.M (Kd.int .u8) _ _ _ 6 [.int .u8 6] from rfl) (Reps.one (show Kd.M (Kd.int .u8) _ _ _ 5 [.int .u8 5] from rfl) (Reps.none _ _)))))); intro v336 w92 ho93 hb hg_ hnew_; clear hg_ hnew_; (first | rw [← Ny335.out] at ho93 | (simp only [Int.reduceToNat] at ho93; rw [← Ny335.out] at ho93)); have n0_ := Aside0.mk (Kd.R_elder' (mvR HO327) (Kd.R_base ho93) hb); have n1_ := Aside0.mk (Kd.R_elder' (mvR HO330) (Kd.R_base ho93) hb); have n2_ := Aside0.mk (Kd.R_elder' (mvR HO333) (Kd.R_base ho93) hb); have n3_ := Aside0.mk (Kd.R_lower (Kd.R_new' (Kd.R_new' (Kd.R_new' ho93 (Kd.R_lt (mvR HO327))) (Kd.R_lt (mvR HO330))) (Kd.R_lt (mvR HO333))) (below_size (mvB HB))); have n4_ := Aside0.mk (below_step (mvB HB) hb); clear HO327; clear HO330; clear HO333; clear HB; have HO327 := n0_; have HO330 := n1_; have HO333 := n2_; have HO337 := n3_; have HB := n4_; clear n0_ n1_ n2_ n3_ n4_; clear hb ho93; obtain ⟨Ao94, co94, eo94⟩ := Kd.R_slice HO337.out; subst eo94) | (go_at_call 12; (with_reducible refine (weak_Resolve.calls _ _ y335 2 t338 _ ?side1 ?side2 A62.out).mono ?_); (case side1 => repeat (first | exact (Kd.R_reads' HO337.out).2.2 | (with_reducible refine Kd.C_alloc ?_ _) | (with_reducible refine Kd.C_drewN ?_ _) | (with_reducible refine Kd.C_drew ?_))); (case side2 => exact (Kd.R_reads' HO337.out).2.1); rintro e w95 ⟨v339, rfl, ho0, hb⟩; have n0_ := Aside0.mk (Kd.R_elder' (mvR HO327) (Kd.R_base ho0) hb); have n1_ := Aside0.mk (Kd.R_elder' (mvR HO330) (Kd.R_base ho0) hb); have n2_ := Aside0.mk (Kd.R_elder' (mvR HO333) (Kd.R_base ho0) hb); have n3_ := Aside0.mk (Kd.R_elder' (mvR HO337) (Kd.R_base ho0) hb); have n4_ := Aside0.mk (Kd.R_lower (Kd.R_new' (Kd.R_new' (Kd.R_new' (Kd.R_new' ho0 (Kd.R_lt (mvR HO327))) (Kd.R_lt (mvR HO330))) (Kd.R_lt (mvR HO333))) (Kd.R_lt (mvR HO337))) (below_size (mvB HB))); have n5_ := Aside0.mk (below_step (mvB HB) hb); clear HO327; clear HO330; clear HO333; clear HO337; clear HB; have HO327 := n0_; have HO330 := n1_; have HO333 := n2_; have HO337 := n3_; have HO340 := n4_; have HB := n5_; clear n0_ n1_ n2_ n3_ n4_ n5_; (try clear hb); (try clear hb2); (try clear hk); (try clear hi); (try clear ho0)) | ((with_reducible refine gate_dst (N := 30) rfl ?_); (try (refine gate_guard (by rfl) ?_; dsimp only)); refine Kd.R_lit (Kd.int .u8) _ 23 ?hg (N := 30) ?hd (xs := ([14, 10, 14, 14] : List Int)) (inner := [.int .u8 14, .int .u8 10, .int .u8 14, .int .u8 14]) (ok := fun _ => True) (okp := fun _ => True) ?hr ?hp (fun _ hk => hk) trivial (Below.refl _ _) (Nat.le_refl _) (by simp) ?_; (case hd => rfl); (case hg => rfl); (case hr => first | (go_simp; done) | (go_simp; rfl)); (case hp => exact (Reps.one (show Kd.M (Kd.int .u8) _ _ _ 14 [.int .u8 14] from rfl) (Reps.one (show Kd.M (Kd.int .u8) _ _ _ 10 [.int .u8 10] from rfl) (Reps.one (show Kd.M (Kd.int .u8) _ _ _ 14 [.int .u8 14] from rfl) (Reps.one (show Kd.M (Kd.int .u8) _ _ _ 14 [.int .u8 14] from rfl) (Reps.none _ _)))))); intro v342 w96 ho97 hb hg_ hnew_; clear hg_ hnew_; (first | rw [← Ny341.out] at ho97 | (simp only [Int.reduceToNat] at ho97; rw [← Ny341.out] at ho97)); have n0_ := Aside0.mk (Kd.R_elder' (mvR HO327) (Kd.R_base ho97) hb); have n1_ := Aside0.mk (Kd.R_elder' (mvR HO330) (Kd.R_base ho97) hb); have n2_ := Aside0.mk (Kd.R_elder' (mvR HO333) (Kd.R_base ho97) hb); have n3_ := Aside0.mk (Kd.R_elder' (mvR HO337) (Kd.R_base ho97) hb); have n4_ := Aside0.mk (Kd.R_elder' (mvR HO340) (Kd.R_base ho97) hb); have n5_ := Aside0.mk (Kd.R_lower (Kd.R_new' (Kd.R_new' (Kd.R_new' (Kd.R_new' (Kd.R_new' ho97 (Kd.R_lt (mvR HO327))) (Kd.R_lt (mvR HO330))) (Kd.R_lt (mvR HO333))) (Kd.R_lt (mvR HO337))) (Kd.R_lt (mvR HO340))) (below_size (mvB HB))); have n6_ := Aside0.mk (below_step (mvB HB) hb); clear HO327; clear HO330; clear HO333; clear HO337; clear HO340; clear HB; have HO327 := n0_; have HO330 := n1_; have HO333 := n2_; have HO337 := n3_; have HO340 := n4_; have HO343 := n5_; have HB := n6_; clear n0_ n1_ n2_ n3_ n4_ n5_ n6_; clear hb ho97; obtain ⟨Ao98, co98, eo98⟩ := Kd.R_slice HO340.out; subst eo98; obtain ⟨Ao99, co99, eo99⟩ := Kd.R_slice HO343.out; subst eo99) | (go_at_call 11; (with_reducible refine (selvedgelaw16_is.calls kj0 _ _ t338 _ _ y341 false _ ?side1 ?side2 ?side3 ?side4 A63.out).mono ?_); (case side1 => repeat (first | exact (Kd.R_reads' HO340.out).2.2 | (with_reducible refine Kd.C_alloc ?_ _) | (with_reducible refine Kd.C_drewN ?_ _) | (with_reducible refine Kd.C_drew ?_))); (case side2 => exact (Kd.R_reads' HO340.out).2.1); (case side3 => repeat (first | exact (Kd.R_reads' HO343.out).2.2 | (with_reducible refine Kd.C_alloc ?_ _) | (with_reducible refine Kd.C_drewN ?_ _) | (with_reducible refine Kd.C_drew ?_))); (case side4 => exact (Kd.R_reads' HO343.out).2.1); rintro e w' ⟨rfl, ⟨nd, rfl⟩⟩))
      go_meet
      case rel => exact ⟨_, (false), (by first | rfl | (simp; done) | (simp [*]; done)), H', ⟨by have := HJ0.out; first | omega | exact Nat.le_refl _⟩, ⟨mvB HB⟩⟩
    ·replace c61 := Bool.eq_false_iff.mpr c61
     subst c61
     have H1 : (selvedgelaw16_WeakKnown.j1 kj0 x1_0 false) = some r := by rw [if_neg (show ¬ (false = true) by decide)] at H; exact H
     clear H
     have H := H1
     clear H1
     have H' := Aside0.mk H
     clear H
     go_wp2_with (first | ((with_reducible refine gate_dst (N := 23) rfl ?_); (try (refine gate_guard (by rfl) ?_; dsimp only)); refine Kd.R_lit (Kd.int .u8) _ 23 ?hg (N := 23) ?hd (xs := ([4, 10, 8, 10, 4, 10, 6] : List Int)) (inner := [.int .u8 4, .int .u8 10, .int .u8 8, .int .u8 10, .int .u8 4, .int .u8 10, .int .u8 6]) (ok := fun _ => True) (okp := fun _ => True) ?hr ?hp (fun _ hk => hk) trivial (Below.refl _ _) (Nat.le_refl _) (by simp) ?_; (case hd => rfl); (case hg => rfl); (case hr => first | (go_simp; done) | (go_simp; rfl)); (case hp => exact (Reps.one (show Kd.M (Kd.int .u8) _ _ _ 4 [.int .u8 4] from rfl) (Reps.one (show Kd.M (Kd.int .u8) _ _ _ 10 [.int .u8 10] from rfl) (Reps.one (show Kd.M (Kd.int .u8) _ _ _ 8 [.int .u8 8] from rfl) (Reps.one (show Kd.M (Kd.int .u8) _ _ _ 10 [.int .u8 10] from rfl) (Reps.one (show Kd.M (Kd.int .u8) _ _ _ 4 [.int .u8 4] from rfl) (Reps.one (show Kd.M (Kd.int .u8) _ _ _ 10 [.int .u8 10] from rfl) (Reps.one (show Kd.M (Kd.int .u8) _ _ _ 6 [.int .u8 6] from rfl) (Reps.none _ _))))))))); intro v326 w100 ho101 hb hg_ hnew_; clear hg_ hnew_; (first | rw [← Ny325.out] at ho101 | (simp only [Int.reduceToNat] at ho101; rw [← Ny325.out] at ho101)); have n0_ := Aside0.mk (Kd.R_lower ho101 (below_size (mvB HB))); have n1_ := Aside0.mk (below_step (mvB HB) hb); clear HB; have HO327 := n0_; have HB := n1_; clear n0_ n1_; clear hb ho101; obtain ⟨Ao102, co102, eo102⟩ := Kd.R_slice HO327.out; subst eo102) | ((with_reducible refine gate_callee (f := 12) rfl ?_); refine goesL_ (some 24) rfl rfl Try.func12 (by kernel_rfl) rfl #[.slice Ao102 y325.length co102, .int .u8 1] rfl (by (try simp only [List.map_toArray, List.map_cons, List.map_nil]); first | done | rfl | (simp only [List.length_drop, List.length_take]; rfl)) ?_; (with_reducible refine (weak_Resolve.calls _ _ y325 1 t328 _ ?side1 ?side2 A59.out).mono ?_); (case side1 => repeat (first | exact (Kd.R_reads' HO327.out).2.2 | (with_reducible refine Kd.C_alloc ?_ _) | (with_reducible refine Kd.C_drewN ?_ _) | (with_reducible refine Kd.C_drew ?_))); (case side2 => exact (Kd.R_reads' HO327.out).2.1); rintro e w103 ⟨v329, rfl, ho0, hb⟩; refine ⟨_, rfl, ?_⟩; have n0_ := Aside0.mk (Kd.R_elder' (mvR HO327) (Kd.R_base ho0) hb); have n1_ := Aside0.mk (Kd.R_lower (Kd.R_new' ho0 (Kd.R_lt (mvR HO327))) (below_size (mvB HB))); have n2_ := Aside0.mk (below_step (mvB HB) hb); clear HO327; clear HB; have HO327 := n0_; have HO330 := n1_; have HB := n2_; clear n0_ n1_ n2_; (try clear hb); (try clear hb2); (try clear hk); (try clear hi); (try clear ho0)) | ((with_reducible refine gate_dst (N := 25) rfl ?_); (try (refine gate_guard (by rfl) ?_; dsimp only)); refine Kd.R_lit (Kd.int .u8) _ 23 ?hg (N := 25) ?hd (xs := ([1, 10, 1, 10, 1, 10, 1] : List Int)) (inner := [.int .u8 1, .int .u8 10, .int .u8 1, .int .u8 10, .int .u8 1, .int .u8 10, .int .u8 1]) (ok := fun _ => True) (okp := fun _ => True) ?hr ?hp (fun _ hk => hk) trivial (Below.refl _ _) (Nat.le_refl _) (by simp) ?_; (case hd => rfl); (case hg => rfl); (case hr => first | (go_simp; done) | (go_simp; rfl)); (case hp => exact (Reps.one (show Kd.M (Kd.int .u8) _ _ _ 1 [.int .u8 1] from rfl) (Reps.one (show Kd.M (Kd.int .u8) _ _ _ 10 [.int .u8 10] from rfl) (Reps.one (show Kd.M (Kd.int .u8) _ _ _ 1 [.int .u8 1] from rfl) (Reps.one (show Kd.M (Kd.int .u8) _ _ _ 10 [.int .u8 10] from rfl) (Reps.one (show Kd.M (Kd.int .u8) _ _ _ 1 [.int .u8 1] from rfl) (Reps.one (show Kd.M (Kd.int .u8) _ _ _ 10 [.int .u8 10] from rfl) (Reps.one (show Kd.M (Kd.int .u8) _ _ _ 1 [.int .u8 1] from rfl) (Reps.none _ _))))))))); intro v332 w104 ho105 hb hg_ hnew_; clear hg_ hnew_; (first | rw [← Ny331.out] at ho105 | (simp only [Int.reduceToNat] at ho105; rw [← Ny331.out] at ho105)); have n0_ := Aside0.mk (Kd.R_elder' (mvR HO327) (Kd.R_base ho105) hb); have n1_ := Aside0.mk (Kd.R_elder' (mvR HO330) (Kd.R_base ho105) hb); have n2_ := Aside0.mk (Kd.R_lower (Kd.R_new' (Kd.R_new' ho105 (Kd.R_lt (mvR HO327))) (Kd.R_lt (mvR HO330))) (below_size (mvB HB))); have n3_ := Aside0.mk (below_step (mvB HB) hb); clear HO327; clear HO330; clear HB; have HO327 := n0_; have HO330 := n1_; have HO333 := n2_; have HB := n3_; clear n0_ n1_ n2_ n3_; clear hb ho105; obtain ⟨Ao106, co106, eo106⟩ := Kd.R_slice HO330.out; subst eo106; obtain ⟨Ao107, co107, eo107⟩ := Kd.R_slice HO333.out; subst eo107) | ((with_reducible refine gate_callee (f := 11) rfl ?_); refine goesL_ (some 26) rfl rfl Try.func11 (by kernel_rfl) rfl #[.slice Ao106 t328.length co106, .slice Ao107 y331.length co107] rfl (by (try simp only [List.map_toArray, List.map_cons, List.map_nil]); first | done | rfl | (simp only [List.length_drop, List.length_take]; rfl)) ?_; (with_reducible refine (selvedgelaw16_is.calls kj0 _ _ t328 _ _ y331 false _ ?side1 ?side2 ?side3 ?side4 A60.out).mono ?_); (case side1 => repeat (first | exact (Kd.R_reads' HO330.out).2.2 | (with_reducible refine Kd.C_alloc ?_ _) | (with_reducible refine Kd.C_drewN ?_ _) | (with_reducible refine Kd.C_drew ?_))); (case side2 => exact (Kd.R_reads' HO330.out).2.1); (case side3 => repeat (first | exact (Kd.R_reads' HO333.out).2.2 | (with_reducible refine Kd.C_alloc ?_ _) | (with_reducible refine Kd.C_drewN ?_ _) | (with_reducible refine Kd.C_drew ?_))); (case side4 => exact (Kd.R_reads' HO333.out).2.1); rintro e w' ⟨rfl, ⟨nd, rfl⟩⟩; refine ⟨_, rfl, ?_⟩))
     go_meet
     case rel => exact ⟨_, (false), (by first | rfl | (simp; done) | (simp [*]; done)), H', ⟨by have := HJ0.out; first | omega | exact Nat.le_refl _⟩, ⟨mvB HB⟩⟩
   case rest =>
    clear HC58
    try clear c1
    try clear p2
    try clear c4
    try clear c6
    try clear c7
    try clear c8
    try clear c11
    try clear c12
    try clear c61
    try clear c64
    try clear p2
    obtain ⟨kq, x2_57, rfl, HA, HJ57, HB⟩ := hcut
    cases kq with
    | zero => exact absurd HA.out (by simp [selvedgelaw16_WeakKnown.j1])
    | succ kj57 =>
     have H := HA.out
     clear HA
     simp only [selvedgelaw16_WeakKnown.j1] at H
     have H' := Aside0.mk H
     clear H
     go_wp2
     go_loopg [3, 4] kj57 (fun kq v3 v4 w' => ∃ (x3_3 : List Int) (x4_3 : Int), v4 = .int .u8 x4_3 ∧ Aside0 (selvedgelaw16_WeakKnown.l0 kq x1_0 x2_57 x3_3 x4_3 = some r) ∧ Aside0 (kq ≤ kj57) ∧ Aside0 (Kd.R (Kd.int .u8) 23 w' w.heap.size (fun _ => True) v3 x3_3) ∧ Aside0 (Below w.heap.size w w'))
     case atStart => exact ⟨(([] : List Int)), (1), (by first | rfl | (simp; done) | (simp [*]; done)), H', ⟨Nat.le_refl _⟩, ⟨by first | exact Kd.R_nil _ _ _ _ _ | exact Kd.N_nil _ _ _ _ _ | exact Kd.V_nil _ _ _ _ _ | exact Kd.Q_nil _ _ _ _ _ | exact Kd.S_nil _ _ _ _ _⟩, ⟨mvB HB⟩⟩
     case round =>
      clear H'
      try clear c1
      try clear p2
      try clear c4
      try clear c6
      try clear c7
      try clear c8
      try clear c11
      try clear c12
      try clear c61
      try clear c64
      try clear p2
      obtain ⟨x3_3, x4_3, rfl, HA, HK3, HO_3, HB⟩ := hrel
      cases gk with
      | zero => exact absurd HA.out (by simp [selvedgelaw16_WeakKnown.l0])
      | succ k3 =>
       have H := HA.out
       clear HA
       simp only [selvedgelaw16_WeakKnown.l0] at H
       by_cases c108 : x4_3 ≤ 23
       ·rw [if_pos c108] at H
        have c108b0 : decide (x4_3 ≤ 23) = true := decide_eq_true c108
        clear c108
        have H' := Aside0.mk H
        clear H
        go_wp2
        go_loopg [3, 5] k3 (fun kq v3 v5 w' => ∃ (x3_4 : List Int) (x5_4 : Int), v5 = .int .u8 x5_4 ∧ Aside0 (selvedgelaw16_WeakKnown.l1 kq x1_0 x2_57 x3_4 x4_3 x5_4 = some r) ∧ Aside0 (kq ≤ k3) ∧ Aside0 (Kd.R (Kd.int .u8) 23 w' w.heap.size (fun _ => True) v3 x3_4) ∧ Aside0 (Below w.heap.size w w'))
        case atStart => exact ⟨(x3_3), (1), (by first | rfl | (simp; done) | (simp [*]; done)), H', ⟨Nat.le_refl _⟩, ⟨mvR HO_3⟩, ⟨mvB HB⟩⟩
        case round =>
         clear H'
         try clear c1
         try clear p2
         try clear c4
         try clear c6
         try clear c7
         try clear c8
         try clear c10
         try clear c11
         try clear c12
         try clear c61
         try clear c64
         try clear c108
         try clear c108b0
         try clear p2
         obtain ⟨x3_4, x5_4, rfl, HA, HK4, HO_3, HB⟩ := hrel
         cases gk with
         | zero => exact absurd HA.out (by simp [selvedgelaw16_WeakKnown.l1])
         | succ k4 =>
          have H := HA.out
          clear HA
          simp only [selvedgelaw16_WeakKnown.l1] at H
          by_cases c109 : x5_4 ≤ 23
          ·rw [if_pos c109] at H
           have c109b0 : decide (x5_4 ≤ 23) = true := decide_eq_true c109
           clear c109
           have H' := Aside0.mk H
           clear H
           go_wp2
           go_loopg [3, 6] k4 (fun kq v3 v6 w' => ∃ (x3_5 : List Int) (x6_5 : Int), v6 = .int .u8 x6_5 ∧ Aside0 (selvedgelaw16_WeakKnown.l2 kq x1_0 x2_57 x3_5 x4_3 x5_4 x6_5 = some r) ∧ Aside0 (kq ≤ k4) ∧ Aside0 (Kd.R (Kd.int .u8) 23 w' w.heap.size (fun _ => True) v3 x3_5) ∧ Aside0 (Below w.heap.size w w'))
           case atStart => exact ⟨(x3_4), (1), (by first | rfl | (simp; done) | (simp [*]; done)), H', ⟨Nat.le_refl _⟩, ⟨mvR HO_3⟩, ⟨mvB HB⟩⟩
           case round =>
            clear H'
            try clear c1
            try clear p2
            try clear c4
            try clear c6
            try clear c7
            try clear c8
            try clear c10
            try clear c11
            try clear c12
            try clear c61
            try clear c64
            try clear c108
            try clear c108b0
            try clear c109
            try clear c109b0
            try clear p2
            obtain ⟨x3_5, x6_5, rfl, HA, HK5, HO_3, HB⟩ := hrel
            cases gk with
            | zero => exact absurd HA.out (by simp [selvedgelaw16_WeakKnown.l2])
            | succ k5 =>
             have H := HA.out
             clear HA
             simp only [selvedgelaw16_WeakKnown.l2] at H
             by_cases c110 : x6_5 ≤ 23
             ·rw [if_pos c110] at H
              have c110b0 : decide (x6_5 ≤ 23) = true := decide_eq_true c110
              clear c110
              obtain ⟨y348, hy348⟩ : ∃ y_ : List Int, y_ = (([x4_3, x5_4, x6_5] : List Int)) := ⟨_, rfl⟩
              replace H : (if x3_5.length + y348.length < 140737488355328 then (selvedgelaw16_WeakKnown.l2 k5 x1_0 x2_57 (x3_5 ++ y348) x4_3 x5_4 ((x6_5 + 2) % 256)) else (none)) = some r := by first | (rw [hy348]; with_reducible exact H) | (have H2_ := (Option.bind_some _ _).symm.trans H; rw [hy348]; with_reducible exact H2_) | (have H2_ := (Option.bind_some _ _).symm.trans H; with_reducible exact H2_) | with_reducible exact H | (rw [hy348]; exact H) | exact H
              have Ny348 := Aside0.mk hy348
              clear hy348
              by_cases c111 : x3_5.length + y348.length < 140737488355328
              ·rw [if_pos c111] at H
               have LMc111 := Aside0.mk c111
               clear c111
               obtain ⟨y351, hy351⟩ : ∃ y_ : List Int, y_ = (x3_5 ++ y348) := ⟨_, rfl⟩
               replace H : (selvedgelaw16_WeakKnown.l2 k5 x1_0 x2_57 y351 x4_3 x5_4 ((x6_5 + 2) % 256)) = some r := by first | (rw [hy351]; with_reducible exact H) | (have H2_ := (Option.bind_some _ _).symm.trans H; rw [hy351]; with_reducible exact H2_) | (have H2_ := (Option.bind_some _ _).symm.trans H; with_reducible exact H2_) | with_reducible exact H | (rw [hy351]; exact H) | exact H
               have Ny351 := Aside0.mk hy351
               clear hy351
               have H' := Aside0.mk H
               clear H
               go_wp2_with (first | ((with_reducible refine gate_dst (N := 54) rfl ?_); (try (refine gate_guard (by rfl) ?_; dsimp only)); refine Kd.R_lit (Kd.int .u8) _ 23 ?hg (N := 54) ?hd (xs := ([x4_3, x5_4, x6_5] : List Int)) (inner := [.int .u8 x4_3, .int .u8 x5_4, .int .u8 x6_5]) (ok := fun _ => True) (okp := fun _ => True) ?hr ?hp (fun _ hk => hk) trivial (Below.refl _ _) (Nat.le_refl _) (by simp) ?_; (case hd => rfl); (case hg => rfl); (case hr => first | (go_simp; done) | (go_simp; rfl)); (case hp => exact (Reps.one (show Kd.M (Kd.int .u8) _ _ _ x4_3 [.int .u8 x4_3] from rfl) (Reps.one (show Kd.M (Kd.int .u8) _ _ _ x5_4 [.int .u8 x5_4] from rfl) (Reps.one (show Kd.M (Kd.int .u8) _ _ _ x6_5 [.int .u8 x6_5] from rfl) (Reps.none _ _))))); intro v349 w112 ho113 hb hg_ hnew_; clear hg_ hnew_; (first | rw [← Ny348.out] at ho113 | (simp only [Int.reduceToNat] at ho113; rw [← Ny348.out] at ho113)); have n0_ := Aside0.mk (Kd.R_elder' (mvR HO_3) (Kd.R_base ho113) hb); have n1_ := Aside0.mk (Kd.R_lower (Kd.R_new' ho113 (Kd.R_lt (mvR HO_3))) (below_size (mvB HB))); have n2_ := Aside0.mk (below_step (mvB HB) hb); clear HO_3; clear HB; have HO_3 := n0_; have HO350 := n1_; have HB := n2_; clear n0_ n1_ n2_; clear hb ho113; obtain ⟨Ao115, co115, eo115⟩ := Kd.R_slice HO350.out; subst eo115) | ((with_reducible refine gate_builtin (b := .append) (xs := #[.tmp 50, .tmp 54]) rfl ?_); (try (refine gate_guard (by rfl) ?_; dsimp only)); at_builtin; refine Kd.R_append_rows (Kd.int .u8) (w0 := w) w.heap.size rfl (.tmp 50) (.tmp 54) 22 23 (.int .u8 0) 1 rfl Try.underlying22 info23 rfl (by decide) (by omega) u3 x3_5 y348 _ _ _ (fun k_ => some k_ ≠ (.slice Ao115 y348.length co115 : Value).ownBlock) (fun _ => False) rfl rfl ?aO ?aR (fun _ _ h => h) (fun _ h => h.elim) ?aF ?aB ?aS ?aL ?_; (case aR => repeat (first | exact (Kd.R_reads' HO350.out).2.2 | (with_reducible refine Kd.C_alloc ?_ _) | (with_reducible refine Kd.C_drewN ?_ _) | (with_reducible refine Kd.C_drew ?_))); (case aB => exact (mvB HB)); (case aF => exact (fun k_ hk => Kd.fresh' (Kd.R_lt (mvR HO350)) k_ hk)); (case aO => exact (by (with_reducible repeat (first | apply Kd.R_alloc | apply Kd.R_drewN | apply Kd.R_drew)); exact Kd.R_mono HO_3.out (fun _ hk => hk.2))); (case aS => exact (below_size (mvB HB))); (case aL => have := LMc111.out; omega); intro v352 w114 ho hb hg hat; rw [← Ny351.out] at ho; have n0_ := Aside0.mk (Kd.R_after (ok := (fun _ => True)) (mvR HO350) hg hat); have n1_ := Aside0.mk (hb); have n2_ := Aside0.mk (ho); clear HO350; clear HB; clear HO_3; have HO350 := n0_; have HB := n1_; have HO353 := n2_; clear n0_ n1_ n2_; clear ho hb hg hat))
               go_roundg k5
               case measure => have := HJ0.out; have := HJ57.out; have := HK3.out; have := HK4.out; have := HK5.out; omega
               case rel => exact ⟨(y351), ((x6_5 + 2) % 256), (by first | rfl | (simp; done) | (simp [*]; done)), H', ⟨by have := HJ0.out; have := HJ57.out; have := HK3.out; have := HK4.out; have := HK5.out; omega⟩, ⟨by (with_reducible repeat (first | apply Kd.R_alloc | apply Kd.R_drewN | apply Kd.R_drew)); exact Kd.R_mono HO353.out (fun _ hk => trivial)⟩, ⟨mvB HB⟩⟩
              ·rw [if_neg c111] at H
               exact absurd H (by simp)
             ·rw [if_neg c110] at H
              have c110b0 : decide (x6_5 ≤ 23) = false := decide_eq_false c110
              clear c110
              obtain ⟨y354, hy354⟩ : ∃ y_ : List Int, y_ = (([x4_3, x5_4, x4_3] : List Int)) := ⟨_, rfl⟩
              replace H : ((selvedgelaw16_WeakResolves.f k5 y354 x4_3).bind fun t357 => (if t357 = true then ((selvedgelaw16_WeakEnds.f k5 (([x4_3, x5_4, 4, x5_4] : List Int)) 2).bind fun t361 => (if t361 = true then (selvedgelaw16_WeakKnown.l1 k5 x1_0 x2_57 x3_5 x4_3 ((x5_4 + 1) % 256)) else (some false))) else (some false))) = some r := by first | (rw [hy354]; with_reducible exact H) | (have H2_ := (Option.bind_some _ _).symm.trans H; rw [hy354]; with_reducible exact H2_) | (have H2_ := (Option.bind_some _ _).symm.trans H; with_reducible exact H2_) | with_reducible exact H | (rw [hy354]; exact H) | exact H
              have Ny354 := Aside0.mk hy354
              clear hy354
              replace H := Option.bind_eq_some_iff.mp H
              obtain ⟨t357, A1160, H⟩ := H
              replace H : (if t357 = true then ((selvedgelaw16_WeakEnds.f k5 (([x4_3, x5_4, 4, x5_4] : List Int)) 2).bind fun t361 => (if t361 = true then (selvedgelaw16_WeakKnown.l1 k5 x1_0 x2_57 x3_5 x4_3 ((x5_4 + 1) % 256)) else (some false))) else (some false)) = some r := H
              have A116 := Aside0.mk A1160
              clear A1160
              by_cases c117 : t357 = true
              ·subst c117
               have H1 : ((selvedgelaw16_WeakEnds.f k5 (([x4_3, x5_4, 4, x5_4] : List Int)) 2).bind fun t361 => (if t361 = true then (selvedgelaw16_WeakKnown.l1 k5 x1_0 x2_57 x3_5 x4_3 ((x5_4 + 1) % 256)) else (some false))) = some r := by rw [if_pos rfl] at H; exact H
               clear H
               have H := H1
               clear H1
               obtain ⟨y358, hy358⟩ : ∃ y_ : List Int, y_ = (([x4_3, x5_4, 4, x5_4] : List Int)) := ⟨_, rfl⟩
               replace H : ((selvedgelaw16_WeakEnds.f k5 y358 2).bind fun t361 => (if t361 = true then (selvedgelaw16_WeakKnown.l1 k5 x1_0 x2_57 x3_5 x4_3 ((x5_4 + 1) % 256)) else (some false))) = some r := by first | (rw [hy358]; with_reducible exact H) | (have H2_ := (Option.bind_some _ _).symm.trans H; rw [hy358]; with_reducible exact H2_) | (have H2_ := (Option.bind_some _ _).symm.trans H; with_reducible exact H2_) | with_reducible exact H | (rw [hy358]; exact H) | exact H
               have Ny358 := Aside0.mk hy358
               clear hy358
               replace H := Option.bind_eq_some_iff.mp H
               obtain ⟨t361, A1180, H⟩ := H
               replace H : (if t361 = true then (selvedgelaw16_WeakKnown.l1 k5 x1_0 x2_57 x3_5 x4_3 ((x5_4 + 1) % 256)) else (some false)) = some r := H
               have A118 := Aside0.mk A1180
               clear A1180
               by_cases c119 : t361 = true
               ·subst c119
                have H1 : (selvedgelaw16_WeakKnown.l1 k5 x1_0 x2_57 x3_5 x4_3 ((x5_4 + 1) % 256)) = some r := by rw [if_pos rfl] at H; exact H
                clear H
                have H := H1
                clear H1
                have H' := Aside0.mk H
                clear H
                go_wp2_with (first | ((with_reducible refine gate_dst (N := 59) rfl ?_); (try (refine gate_guard (by rfl) ?_; dsimp only)); refine Kd.R_lit (Kd.int .u8) _ 23 ?hg (N := 59) ?hd (xs := ([x4_3, x5_4, x4_3] : List Int)) (inner := [.int .u8 x4_3, .int .u8 x5_4, .int .u8 x4_3]) (ok := fun _ => True) (okp := fun _ => True) ?hr ?hp (fun _ hk => hk) trivial (Below.refl _ _) (Nat.le_refl _) (by simp) ?_; (case hd => rfl); (case hg => rfl); (case hr => first | (go_simp; done) | (go_simp; rfl)); (case hp => exact (Reps.one (show Kd.M (Kd.int .u8) _ _ _ x4_3 [.int .u8 x4_3] from rfl) (Reps.one (show Kd.M (Kd.int .u8) _ _ _ x5_4 [.int .u8 x5_4] from rfl) (Reps.one (show Kd.M (Kd.int .u8) _ _ _ x4_3 [.int .u8 x4_3] from rfl) (Reps.none _ _))))); intro v355 w120 ho121 hb hg_ hnew_; clear hg_ hnew_; (first | rw [← Ny354.out] at ho121 | (simp only [Int.reduceToNat] at ho121; rw [← Ny354.out] at ho121)); have n0_ := Aside0.mk (Kd.R_elder' (mvR HO_3) (Kd.R_base ho121) hb); have n1_ := Aside0.mk (Kd.R_lower (Kd.R_new' ho121 (Kd.R_lt (mvR HO_3))) (below_size (mvB HB))); have n2_ := Aside0.mk (below_step (mvB HB) hb); clear HO_3; clear HB; have HO_3 := n0_; have HO356 := n1_; have HB := n2_; clear n0_ n1_ n2_; clear hb ho121; obtain ⟨Ao122, co122, eo122⟩ := Kd.R_slice HO356.out; subst eo122) | ((with_reducible refine gate_callee (f := 3) rfl ?_); refine goesL_ (some 61) rfl rfl Try.func3 (by kernel_rfl) rfl #[.slice Ao122 y354.length co122, .int .u8 x4_3] rfl (by (try simp only [List.map_toArray, List.map_cons, List.map_nil]); first | done | rfl | (simp only [List.length_drop, List.length_take]; rfl)) ?_; (with_reducible refine (selvedgelaw16_WeakResolves.calls k5 _ _ y354 x4_3 true _ ?side1 ?side2 A116.out).mono ?_); (case side1 => repeat (first | exact (Kd.R_reads' HO356.out).2.2 | (with_reducible refine Kd.C_alloc ?_ _) | (with_reducible refine Kd.C_drewN ?_ _) | (with_reducible refine Kd.C_drew ?_))); (case side2 => exact (Kd.R_reads' HO356.out).2.1); rintro e w123 ⟨rfl, hb⟩; refine ⟨_, rfl, ?_⟩; have n0_ := Aside0.mk (Kd.R_below (mvR HO_3) hb); have n1_ := Aside0.mk (Kd.R_below (mvR HO356) hb); have n2_ := Aside0.mk (below_step (mvB HB) hb); clear HO_3; clear HO356; clear HB; have HO_3 := n0_; have HO356 := n1_; have HB := n2_; clear n0_ n1_ n2_; (try clear hb); (try clear hb2); (try clear hk); (try clear hi)) | ((with_reducible refine gate_dst (N := 67) rfl ?_); (try (refine gate_guard (by rfl) ?_; dsimp only)); refine Kd.R_lit (Kd.int .u8) _ 23 ?hg (N := 67) ?hd (xs := ([x4_3, x5_4, 4, x5_4] : List Int)) (inner := [.int .u8 x4_3, .int .u8 x5_4, .int .u8 4, .int .u8 x5_4]) (ok := fun _ => True) (okp := fun _ => True) ?hr ?hp (fun _ hk => hk) trivial (Below.refl _ _) (Nat.le_refl _) (by simp) ?_; (case hd => rfl); (case hg => rfl); (case hr => first | (go_simp; done) | (go_simp; rfl)); (case hp => exact (Reps.one (show Kd.M (Kd.int .u8) _ _ _ x4_3 [.int .u8 x4_3] from rfl) (Reps.one (show Kd.M (Kd.int .u8) _ _ _ x5_4 [.int .u8 x5_4] from rfl) (Reps.one (show Kd.M (Kd.int .u8) _ _ _ 4 [.int .u8 4] from rfl) (Reps.one (show Kd.M (Kd.int .u8) _ _ _ x5_4 [.int .u8 x5_4] from rfl) (Reps.none _ _)))))); intro v359 w124 ho125 hb hg_ hnew_; clear hg_ hnew_; (first | rw [← Ny358.out] at ho125 | (simp only [Int.reduceToNat] at ho125; rw [← Ny358.out] at ho125)); have n0_ := Aside0.mk (Kd.R_elder' (mvR HO_3) (Kd.R_base ho125) hb); have n1_ := Aside0.mk (Kd.R_elder' (mvR HO356) (Kd.R_base ho125) hb); have n2_ := Aside0.mk (Kd.R_lower (Kd.R_new' (Kd.R_new' ho125 (Kd.R_lt (mvR HO_3))) (Kd.R_lt (mvR HO356))) (below_size (mvB HB))); have n3_ := Aside0.mk (below_step (mvB HB) hb); clear HO_3; clear HO356; clear HB; have HO_3 := n0_; have HO356 := n1_; have HO360 := n2_; have HB := n3_; clear n0_ n1_ n2_ n3_; clear hb ho125; obtain ⟨Ao126, co126, eo126⟩ := Kd.R_slice HO360.out; subst eo126) | (go_at_call 4; (with_reducible refine (selvedgelaw16_WeakEnds.calls k5 _ _ y358 2 true _ ?side1 ?side2 A118.out).mono ?_); (case side1 => repeat (first | exact (Kd.R_reads' HO360.out).2.2 | (with_reducible refine Kd.C_alloc ?_ _) | (with_reducible refine Kd.C_drewN ?_ _) | (with_reducible refine Kd.C_drew ?_))); (case side2 => exact (Kd.R_reads' HO360.out).2.1); rintro e w127 ⟨rfl, hb⟩; have n0_ := Aside0.mk (Kd.R_below (mvR HO_3) hb); have n1_ := Aside0.mk (Kd.R_below (mvR HO356) hb); have n2_ := Aside0.mk (Kd.R_below (mvR HO360) hb); have n3_ := Aside0.mk (below_step (mvB HB) hb); clear HO_3; clear HO356; clear HO360; clear HB; have HO_3 := n0_; have HO356 := n1_; have HO360 := n2_; have HB := n3_; clear n0_ n1_ n2_ n3_; (try clear hb); (try clear hb2); (try clear hk); (try clear hi)))
                go_roundg k5
                case measure => have := HJ0.out; have := HJ57.out; have := HK3.out; have := HK4.out; have := HK5.out; omega
                case rel => exact ⟨(x3_5), ((x5_4 + 1) % 256), (by first | rfl | (simp; done) | (simp [*]; done)), H', ⟨by have := HJ0.out; have := HJ57.out; have := HK3.out; have := HK4.out; have := HK5.out; omega⟩, ⟨by (with_reducible repeat (first | apply Kd.R_alloc | apply Kd.R_drewN | apply Kd.R_drew)); exact Kd.R_mono HO_3.out (fun _ hk => trivial)⟩, ⟨mvB HB⟩⟩
               ·replace c119 := Bool.eq_false_iff.mpr c119
                subst c119
                have H1 : (some false) = some r := by rw [if_neg (show ¬ (false = true) by decide)] at H; exact H
                clear H
                have H := H1
                clear H1
                obtain rfl := Option.some.inj H
                go_wp2_with (first | ((with_reducible refine gate_dst (N := 59) rfl ?_); (try (refine gate_guard (by rfl) ?_; dsimp only)); refine Kd.R_lit (Kd.int .u8) _ 23 ?hg (N := 59) ?hd (xs := ([x4_3, x5_4, x4_3] : List Int)) (inner := [.int .u8 x4_3, .int .u8 x5_4, .int .u8 x4_3]) (ok := fun _ => True) (okp := fun _ => True) ?hr ?hp (fun _ hk => hk) trivial (Below.refl _ _) (Nat.le_refl _) (by simp) ?_; (case hd => rfl); (case hg => rfl); (case hr => first | (go_simp; done) | (go_simp; rfl)); (case hp => exact (Reps.one (show Kd.M (Kd.int .u8) _ _ _ x4_3 [.int .u8 x4_3] from rfl) (Reps.one (show Kd.M (Kd.int .u8) _ _ _ x5_4 [.int .u8 x5_4] from rfl) (Reps.one (show Kd.M (Kd.int .u8) _ _ _ x4_3 [.int .u8 x4_3] from rfl) (Reps.none _ _))))); intro v355 w128 ho129 hb hg_ hnew_; clear hg_ hnew_; (first | rw [← Ny354.out] at ho129 | (simp only [Int.reduceToNat] at ho129; rw [← Ny354.out] at ho129)); have n0_ := Aside0.mk (Kd.R_elder' (mvR HO_3) (Kd.R_base ho129) hb); have n1_ := Aside0.mk (Kd.R_lower (Kd.R_new' ho129 (Kd.R_lt (mvR HO_3))) (below_size (mvB HB))); have n2_ := Aside0.mk (below_step (mvB HB) hb); clear HO_3; clear HB; have HO_3 := n0_; have HO356 := n1_; have HB := n2_; clear n0_ n1_ n2_; clear hb ho129; obtain ⟨Ao130, co130, eo130⟩ := Kd.R_slice HO356.out; subst eo130) | ((with_reducible refine gate_callee (f := 3) rfl ?_); refine goesL_ (some 61) rfl rfl Try.func3 (by kernel_rfl) rfl #[.slice Ao130 y354.length co130, .int .u8 x4_3] rfl (by (try simp only [List.map_toArray, List.map_cons, List.map_nil]); first | done | rfl | (simp only [List.length_drop, List.length_take]; rfl)) ?_; (with_reducible refine (selvedgelaw16_WeakResolves.calls k5 _ _ y354 x4_3 true _ ?side1 ?side2 A116.out).mono ?_); (case side1 => repeat (first | exact (Kd.R_reads' HO356.out).2.2 | (with_reducible refine Kd.C_alloc ?_ _) | (with_reducible refine Kd.C_drewN ?_ _) | (with_reducible refine Kd.C_drew ?_))); (case side2 => exact (Kd.R_reads' HO356.out).2.1); rintro e w131 ⟨rfl, hb⟩; refine ⟨_, rfl, ?_⟩; have n0_ := Aside0.mk (Kd.R_below (mvR HO_3) hb); have n1_ := Aside0.mk (Kd.R_below (mvR HO356) hb); have n2_ := Aside0.mk (below_step (mvB HB) hb); clear HO_3; clear HO356; clear HB; have HO_3 := n0_; have HO356 := n1_; have HB := n2_; clear n0_ n1_ n2_; (try clear hb); (try clear hb2); (try clear hk); (try clear hi)) | ((with_reducible refine gate_dst (N := 67) rfl ?_); (try (refine gate_guard (by rfl) ?_; dsimp only)); refine Kd.R_lit (Kd.int .u8) _ 23 ?hg (N := 67) ?hd (xs := ([x4_3, x5_4, 4, x5_4] : List Int)) (inner := [.int .u8 x4_3, .int .u8 x5_4, .int .u8 4, .int .u8 x5_4]) (ok := fun _ => True) (okp := fun _ => True) ?hr ?hp (fun _ hk => hk) trivial (Below.refl _ _) (Nat.le_refl _) (by simp) ?_; (case hd => rfl); (case hg => rfl); (case hr => first | (go_simp; done) | (go_simp; rfl)); (case hp => exact (Reps.one (show Kd.M (Kd.int .u8) _ _ _ x4_3 [.int .u8 x4_3] from rfl) (Reps.one (show Kd.M (Kd.int .u8) _ _ _ x5_4 [.int .u8 x5_4] from rfl) (Reps.one (show Kd.M (Kd.int .u8) _ _ _ 4 [.int .u8 4] from rfl) (Reps.one (show Kd.M (Kd.int .u8) _ _ _ x5_4 [.int .u8 x5_4] from rfl) (Reps.none _ _)))))); intro v359 w132 ho133 hb hg_ hnew_; clear hg_ hnew_; (first | rw [← Ny358.out] at ho133 | (simp only [Int.reduceToNat] at ho133; rw [← Ny358.out] at ho133)); have n0_ := Aside0.mk (Kd.R_elder' (mvR HO_3) (Kd.R_base ho133) hb); have n1_ := Aside0.mk (Kd.R_elder' (mvR HO356) (Kd.R_base ho133) hb); have n2_ := Aside0.mk (Kd.R_lower (Kd.R_new' (Kd.R_new' ho133 (Kd.R_lt (mvR HO_3))) (Kd.R_lt (mvR HO356))) (below_size (mvB HB))); have n3_ := Aside0.mk (below_step (mvB HB) hb); clear HO_3; clear HO356; clear HB; have HO_3 := n0_; have HO356 := n1_; have HO360 := n2_; have HB := n3_; clear n0_ n1_ n2_ n3_; clear hb ho133; obtain ⟨Ao134, co134, eo134⟩ := Kd.R_slice HO360.out; subst eo134) | (go_at_call 4; (with_reducible refine (selvedgelaw16_WeakEnds.calls k5 _ _ y358 2 false _ ?side1 ?side2 A118.out).mono ?_); (case side1 => repeat (first | exact (Kd.R_reads' HO360.out).2.2 | (with_reducible refine Kd.C_alloc ?_ _) | (with_reducible refine Kd.C_drewN ?_ _) | (with_reducible refine Kd.C_drew ?_))); (case side2 => exact (Kd.R_reads' HO360.out).2.1); rintro e w135 ⟨rfl, hb⟩; have n0_ := Aside0.mk (Kd.R_below (mvR HO_3) hb); have n1_ := Aside0.mk (Kd.R_below (mvR HO356) hb); have n2_ := Aside0.mk (Kd.R_below (mvR HO360) hb); have n3_ := Aside0.mk (below_step (mvB HB) hb); clear HO_3; clear HO356; clear HO360; clear HB; have HO_3 := n0_; have HO356 := n1_; have HO360 := n2_; have HB := n3_; clear n0_ n1_ n2_ n3_; (try clear hb); (try clear hb2); (try clear hk); (try clear hi)))
                go_ret
                exact ⟨by first | rfl | (simp [errW_none, errW_some] <;> rfl) | (simp [*, errW_none, errW_some] <;> rfl), mvB HB⟩
              ·replace c117 := Bool.eq_false_iff.mpr c117
               subst c117
               have H1 : (some false) = some r := by rw [if_neg (show ¬ (false = true) by decide)] at H; exact H
               clear H
               have H := H1
               clear H1
               obtain rfl := Option.some.inj H
               go_wp2_with (first | ((with_reducible refine gate_dst (N := 59) rfl ?_); (try (refine gate_guard (by rfl) ?_; dsimp only)); refine Kd.R_lit (Kd.int .u8) _ 23 ?hg (N := 59) ?hd (xs := ([x4_3, x5_4, x4_3] : List Int)) (inner := [.int .u8 x4_3, .int .u8 x5_4, .int .u8 x4_3]) (ok := fun _ => True) (okp := fun _ => True) ?hr ?hp (fun _ hk => hk) trivial (Below.refl _ _) (Nat.le_refl _) (by simp) ?_; (case hd => rfl); (case hg => rfl); (case hr => first | (go_simp; done) | (go_simp; rfl)); (case hp => exact (Reps.one (show Kd.M (Kd.int .u8) _ _ _ x4_3 [.int .u8 x4_3] from rfl) (Reps.one (show Kd.M (Kd.int .u8) _ _ _ x5_4 [.int .u8 x5_4] from rfl) (Reps.one (show Kd.M (Kd.int .u8) _ _ _ x4_3 [.int .u8 x4_3] from rfl) (Reps.none _ _))))); intro v355 w136 ho137 hb hg_ hnew_; clear hg_ hnew_; (first | rw [← Ny354.out] at ho137 | (simp only [Int.reduceToNat] at ho137; rw [← Ny354.out] at ho137)); have n0_ := Aside0.mk (Kd.R_elder' (mvR HO_3) (Kd.R_base ho137) hb); have n1_ := Aside0.mk (Kd.R_lower (Kd.R_new' ho137 (Kd.R_lt (mvR HO_3))) (below_size (mvB HB))); have n2_ := Aside0.mk (below_step (mvB HB) hb); clear HO_3; clear HB; have HO_3 := n0_; have HO356 := n1_; have HB := n2_; clear n0_ n1_ n2_; clear hb ho137; obtain ⟨Ao138, co138, eo138⟩ := Kd.R_slice HO356.out; subst eo138) | ((with_reducible refine gate_callee (f := 3) rfl ?_); refine goesL_ (some 61) rfl rfl Try.func3 (by kernel_rfl) rfl #[.slice Ao138 y354.length co138, .int .u8 x4_3] rfl (by (try simp only [List.map_toArray, List.map_cons, List.map_nil]); first | done | rfl | (simp only [List.length_drop, List.length_take]; rfl)) ?_; (with_reducible refine (selvedgelaw16_WeakResolves.calls k5 _ _ y354 x4_3 false _ ?side1 ?side2 A116.out).mono ?_); (case side1 => repeat (first | exact (Kd.R_reads' HO356.out).2.2 | (with_reducible refine Kd.C_alloc ?_ _) | (with_reducible refine Kd.C_drewN ?_ _) | (with_reducible refine Kd.C_drew ?_))); (case side2 => exact (Kd.R_reads' HO356.out).2.1); rintro e w139 ⟨rfl, hb⟩; refine ⟨_, rfl, ?_⟩; have n0_ := Aside0.mk (Kd.R_below (mvR HO_3) hb); have n1_ := Aside0.mk (Kd.R_below (mvR HO356) hb); have n2_ := Aside0.mk (below_step (mvB HB) hb); clear HO_3; clear HO356; clear HB; have HO_3 := n0_; have HO356 := n1_; have HB := n2_; clear n0_ n1_ n2_; (try clear hb); (try clear hb2); (try clear hk); (try clear hi)))
               go_ret
               exact ⟨by first | rfl | (simp [errW_none, errW_some] <;> rfl) | (simp [*, errW_none, errW_some] <;> rfl), mvB HB⟩
          ·rw [if_neg c109] at H
           have c109b0 : decide (x5_4 ≤ 23) = false := decide_eq_false c109
           clear c109
           have H' := Aside0.mk H
           clear H
           go_wp2
           go_roundg k4
           case measure => have := HJ0.out; have := HJ57.out; have := HK3.out; have := HK4.out; omega
           case rel => exact ⟨(x3_4), ((x4_3 + 1) % 256), (by first | rfl | (simp; done) | (simp [*]; done)), H', ⟨by have := HJ0.out; have := HJ57.out; have := HK3.out; have := HK4.out; omega⟩, ⟨mvR HO_3⟩, ⟨mvB HB⟩⟩
       ·rw [if_neg c108] at H
        have c108b0 : decide (x4_3 ≤ 23) = false := decide_eq_false c108
        clear c108
        by_cases c140 : x1_0 = true
        ·subst c140
         have H1 : (if x2_57 = true then (if 2999 ≤ (x3_3.length : Int) then ((selvedgelaw16_WeakResolves.f k3 (x3_3.take 2999) 2).bind fun t366 => (if t366 = true then (if 3000 ≤ 6000 then (if 6000 ≤ (x3_3.length : Int) then ((selvedgelaw16_WeakResolves.f k3 ((x3_3.take 6000).drop 3000) 1).bind fun t371 => (if t371 = true then ((selvedgelaw16_WeakResolves.f k3 (([0, 99, 255, 9] : List Int)) 77).bind fun t375 => (if t375 = true then ((selvedgelaw16_works.f k3).bind fun t376 => (some t376)) else (some false))) else (some false))) else (none)) else (none)) else (some false))) else (none)) else (some false)) = some r := by rw [if_pos rfl] at H; exact H
         clear H
         have H := H1
         clear H1
         by_cases c141 : x2_57 = true
         ·subst c141
          have H1 : (if 2999 ≤ (x3_3.length : Int) then ((selvedgelaw16_WeakResolves.f k3 (x3_3.take 2999) 2).bind fun t366 => (if t366 = true then (if 3000 ≤ 6000 then (if 6000 ≤ (x3_3.length : Int) then ((selvedgelaw16_WeakResolves.f k3 ((x3_3.take 6000).drop 3000) 1).bind fun t371 => (if t371 = true then ((selvedgelaw16_WeakResolves.f k3 (([0, 99, 255, 9] : List Int)) 77).bind fun t375 => (if t375 = true then ((selvedgelaw16_works.f k3).bind fun t376 => (some t376)) else (some false))) else (some false))) else (none)) else (none)) else (some false))) else (none)) = some r := by rw [if_pos rfl] at H; exact H
          clear H
          have H := H1
          clear H1
          by_cases c142 : 2999 ≤ (x3_3.length : Int)
          ·rw [if_pos c142] at H
           have c142b0 := eq_true c142
           have c142b1 : decide (2999 ≤ (x3_3.length : Int)) = true := decide_eq_true c142
           clear c142
           obtain ⟨y362, hy362⟩ : ∃ y_ : List Int, y_ = (x3_3.take 2999) := ⟨_, rfl⟩
           replace H : ((selvedgelaw16_WeakResolves.f k3 y362 2).bind fun t366 => (if t366 = true then (if 3000 ≤ 6000 then (if 6000 ≤ (x3_3.length : Int) then ((selvedgelaw16_WeakResolves.f k3 ((x3_3.take 6000).drop 3000) 1).bind fun t371 => (if t371 = true then ((selvedgelaw16_WeakResolves.f k3 (([0, 99, 255, 9] : List Int)) 77).bind fun t375 => (if t375 = true then ((selvedgelaw16_works.f k3).bind fun t376 => (some t376)) else (some false))) else (some false))) else (none)) else (none)) else (some false))) = some r := by first | (rw [hy362]; with_reducible exact H) | (have H2_ := (Option.bind_some _ _).symm.trans H; rw [hy362]; with_reducible exact H2_) | (have H2_ := (Option.bind_some _ _).symm.trans H; with_reducible exact H2_) | with_reducible exact H | (rw [hy362]; exact H) | exact H
           have Ny362 := Aside0.mk hy362
           clear hy362
           replace H := Option.bind_eq_some_iff.mp H
           obtain ⟨t366, A1430, H⟩ := H
           replace H : (if t366 = true then (if 3000 ≤ 6000 then (if 6000 ≤ (x3_3.length : Int) then ((selvedgelaw16_WeakResolves.f k3 ((x3_3.take 6000).drop 3000) 1).bind fun t371 => (if t371 = true then ((selvedgelaw16_WeakResolves.f k3 (([0, 99, 255, 9] : List Int)) 77).bind fun t375 => (if t375 = true then ((selvedgelaw16_works.f k3).bind fun t376 => (some t376)) else (some false))) else (some false))) else (none)) else (none)) else (some false)) = some r := H
           have A143 := Aside0.mk A1430
           clear A1430
           by_cases c144 : t366 = true
           ·subst c144
            have H1 : (if 3000 ≤ 6000 then (if 6000 ≤ (x3_3.length : Int) then ((selvedgelaw16_WeakResolves.f k3 ((x3_3.take 6000).drop 3000) 1).bind fun t371 => (if t371 = true then ((selvedgelaw16_WeakResolves.f k3 (([0, 99, 255, 9] : List Int)) 77).bind fun t375 => (if t375 = true then ((selvedgelaw16_works.f k3).bind fun t376 => (some t376)) else (some false))) else (some false))) else (none)) else (none)) = some r := by rw [if_pos rfl] at H; exact H
            clear H
            have H := H1
            clear H1
            by_cases c145 : 3000 ≤ 6000
            ·rw [if_pos c145] at H
             have c145b0 := eq_true c145
             have c145b1 : decide (3000 ≤ 6000) = true := decide_eq_true c145
             clear c145
             by_cases c146 : 6000 ≤ (x3_3.length : Int)
             ·rw [if_pos c146] at H
              have c146b0 := eq_true c146
              have c146b1 : decide (6000 ≤ (x3_3.length : Int)) = true := decide_eq_true c146
              clear c146
              obtain ⟨y367, hy367⟩ : ∃ y_ : List Int, y_ = ((x3_3.take 6000).drop 3000) := ⟨_, rfl⟩
              replace H : ((selvedgelaw16_WeakResolves.f k3 y367 1).bind fun t371 => (if t371 = true then ((selvedgelaw16_WeakResolves.f k3 (([0, 99, 255, 9] : List Int)) 77).bind fun t375 => (if t375 = true then ((selvedgelaw16_works.f k3).bind fun t376 => (some t376)) else (some false))) else (some false))) = some r := by first | (rw [hy367]; with_reducible exact H) | (have H2_ := (Option.bind_some _ _).symm.trans H; rw [hy367]; with_reducible exact H2_) | (have H2_ := (Option.bind_some _ _).symm.trans H; with_reducible exact H2_) | with_reducible exact H | (rw [hy367]; exact H) | exact H
              have Ny367 := Aside0.mk hy367
              clear hy367
              replace H := Option.bind_eq_some_iff.mp H
              obtain ⟨t371, A1470, H⟩ := H
              replace H : (if t371 = true then ((selvedgelaw16_WeakResolves.f k3 (([0, 99, 255, 9] : List Int)) 77).bind fun t375 => (if t375 = true then ((selvedgelaw16_works.f k3).bind fun t376 => (some t376)) else (some false))) else (some false)) = some r := H
              have A147 := Aside0.mk A1470
              clear A1470
              by_cases c148 : t371 = true
              ·subst c148
               have H1 : ((selvedgelaw16_WeakResolves.f k3 (([0, 99, 255, 9] : List Int)) 77).bind fun t375 => (if t375 = true then ((selvedgelaw16_works.f k3).bind fun t376 => (some t376)) else (some false))) = some r := by rw [if_pos rfl] at H; exact H
               clear H
               have H := H1
               clear H1
               obtain ⟨y372, hy372⟩ : ∃ y_ : List Int, y_ = (([0, 99, 255, 9] : List Int)) := ⟨_, rfl⟩
               replace H : ((selvedgelaw16_WeakResolves.f k3 y372 77).bind fun t375 => (if t375 = true then ((selvedgelaw16_works.f k3).bind fun t376 => (some t376)) else (some false))) = some r := by first | (rw [hy372]; with_reducible exact H) | (have H2_ := (Option.bind_some _ _).symm.trans H; rw [hy372]; with_reducible exact H2_) | (have H2_ := (Option.bind_some _ _).symm.trans H; with_reducible exact H2_) | with_reducible exact H | (rw [hy372]; exact H) | exact H
               have Ny372 := Aside0.mk hy372
               clear hy372
               replace H := Option.bind_eq_some_iff.mp H
               obtain ⟨t375, A1490, H⟩ := H
               replace H : (if t375 = true then ((selvedgelaw16_works.f k3).bind fun t376 => (some t376)) else (some false)) = some r := H
               have A149 := Aside0.mk A1490
               clear A1490
               by_cases c150 : t375 = true
               ·subst c150
                have H1 : ((selvedgelaw16_works.f k3).bind fun t376 => (some t376)) = some r := by rw [if_pos rfl] at H; exact H
                clear H
                have H := H1
                clear H1
                replace H := Option.bind_eq_some_iff.mp H
                obtain ⟨t376, A1510, H⟩ := H
                replace H : (some t376) = some r := H
                have A151 := Aside0.mk A1510
                clear A1510
                obtain rfl := Option.some.inj H
                obtain ⟨Ao153, co153, eo153⟩ := Kd.R_slice HO_3.out
                subst eo153
                have q152 : (2999 : Int) ≤ ((x3_3.length : Int) : Int) := of_decide_eq_true (by first | (with_reducible assumption) | assumption)
                obtain ⟨i0152, hi0152, _, hsz152, _⟩ := info_parts info23
                have hroom152 : x3_3.length ≤ co153 := (Kd.R_reads' HO_3.out).2.1
                have hC152 : Kd.C (Kd.int .u8) _ Ao153 x3_3.length x3_3 := (Kd.R_reads' HO_3.out).2.2
                have hcut152 := cut_to (P := Try.prog) 22 23 .i64 Try.underlying22 hi0152 Ao153 x3_3.length co153 2999 (by omega) q152 hroom152
                have hr152 := Kd.C_take (m := 2999) hC152 (by omega)
                have hy152 : y362.length = (2999 : Int).toNat := (by rw [Ny362.out, List.length_take]; omega)
                rw [← Ny362.out] at hr152
                rw [← hy152] at hcut152
                have HR365 := Aside0.mk hr152
                have HC365 := Aside0.mk (show y362.length ≤ co153 from by omega)
                clear hr152 hC152 hroom152 hi0152 hsz152
                have KY152 := Aside0.mk hy152
                clear hy152
                have KL152 := Aside0.mk (show 2999 ≤ x3_3.length from by omega)
                replace q152 := eq_true q152
                go_wp2_with (first | (go_at_call 3; (with_reducible refine (selvedgelaw16_WeakResolves.calls k3 _ _ y362 2 true _ ?side1 ?side2 A143.out).mono ?_); (case side1 => repeat (first | exact (by repeat (first | (with_reducible exact HR365.out) | (with_reducible refine Kd.C_alloc ?_ _) | (with_reducible refine Kd.C_drewN ?_ _) | (with_reducible refine Kd.C_drew ?_) | exact HR365.out)) | (with_reducible refine Kd.C_alloc ?_ _) | (with_reducible refine Kd.C_drewN ?_ _) | (with_reducible refine Kd.C_drew ?_))); (case side2 => exact HC365.out); rintro e w154 ⟨rfl, hb⟩; have n0_ := Aside0.mk (Kd.R_below (mvR HO_3) hb); have n1_ := Aside0.mk (Kd.C_below (by repeat (first | (with_reducible exact HR365.out) | (with_reducible refine Kd.C_alloc ?_ _) | (with_reducible refine Kd.C_drewN ?_ _) | (with_reducible refine Kd.C_drew ?_) | exact HR365.out)) hb); have n2_ := Aside0.mk (below_step (mvB HB) hb); clear HO_3; clear HR365; clear HB; have HO_3 := n0_; have HR365 := n1_; have HB := n2_; clear n0_ n1_ n2_; (try clear hb); (try clear hb2); (try clear hk); (try clear hi); have q155 : (6000 : Int) ≤ ((x3_3.length : Int) : Int) := of_decide_eq_true (by first | (with_reducible assumption) | assumption); obtain ⟨i0155, hi0155, _, hsz155, _⟩ := info_parts info23; have hroom155 : x3_3.length ≤ co153 := (Kd.R_reads' HO_3.out).2.1; have hC155 : Kd.C (Kd.int .u8) _ Ao153 x3_3.length x3_3 := (Kd.R_reads' HO_3.out).2.2; have ql155 : (3000 : Int) ≤ (6000 : Int) := (by omega); have hcut155 := cut_mid (P := Try.prog) 22 23 .i64 .i64 Try.underlying22 hi0155 1 hsz155 Ao153 x3_3.length co153 3000 6000 (by omega) ql155 q155 hroom155; have hr155 := Kd.C_mid (lo := (3000 : Int).toNat) (hi := (6000 : Int).toNat) (c := co153) hC155 (by omega) (by omega) hroom155; obtain ⟨A155, hA155⟩ : ∃ A1, A1 = (if co153 = (3000 : Int).toNat then Ao153 else (Ao153 : Option Addr).map (·.add ((3000 : Int).toNat * 1))) := ⟨_, rfl⟩; obtain ⟨c155, hc155⟩ : ∃ c1, c1 = co153 - (3000 : Int).toNat := ⟨_, rfl⟩; have hy155 : y367.length = (6000 : Int).toNat - (3000 : Int).toNat := (by rw [Ny367.out, List.length_drop, List.length_take] <;> omega); rw [show ((x3_3).take (6000 : Int).toNat).drop (3000 : Int).toNat = y367 from Ny367.out.symm] at hr155; replace hr155 : Kd.C (Kd.int .u8) _ A155 y367.length y367 := (by rw [hA155]; exact hr155); rw [← hy155, ← hA155, ← hc155] at hcut155; have HR370 := Aside0.mk hr155; have HC370 := Aside0.mk (show y367.length ≤ c155 from by rw [hy155, hc155]; exact Nat.sub_le_sub_right (Nat.le_trans (by omega) hroom155) _); clear hr155 hC155 hroom155 hi0155 hsz155 hc155; have KY155 := Aside0.mk hy155; have KA155 := Aside0.mk hA155; clear hy155 hA155; have KL155 := Aside0.mk (show 6000 ≤ x3_3.length from by omega); have KM155 := Aside0.mk (show 3000 ≤ 6000 from by omega); replace q155 := eq_true q155) | (go_at_call 3; (with_reducible refine (selvedgelaw16_WeakResolves.calls k3 _ _ y367 1 true _ ?side1 ?side2 A147.out).mono ?_); (case side1 => repeat (first | exact (by repeat (first | (with_reducible exact HR370.out) | (with_reducible refine Kd.C_alloc ?_ _) | (with_reducible refine Kd.C_drewN ?_ _) | (with_reducible refine Kd.C_drew ?_) | exact HR370.out)) | (with_reducible refine Kd.C_alloc ?_ _) | (with_reducible refine Kd.C_drewN ?_ _) | (with_reducible refine Kd.C_drew ?_))); (case side2 => exact HC370.out); rintro e w156 ⟨rfl, hb⟩; have n0_ := Aside0.mk (Kd.R_below (mvR HO_3) hb); have n1_ := Aside0.mk (Kd.C_below (by repeat (first | (with_reducible exact HR365.out) | (with_reducible refine Kd.C_alloc ?_ _) | (with_reducible refine Kd.C_drewN ?_ _) | (with_reducible refine Kd.C_drew ?_) | exact HR365.out)) hb); have n2_ := Aside0.mk (Kd.C_below (by repeat (first | (with_reducible exact HR370.out) | (with_reducible refine Kd.C_alloc ?_ _) | (with_reducible refine Kd.C_drewN ?_ _) | (with_reducible refine Kd.C_drew ?_) | exact HR370.out)) hb); have n3_ := Aside0.mk (below_step (mvB HB) hb); clear HO_3; clear HR365; clear HR370; clear HB; have HO_3 := n0_; have HR365 := n1_; have HR370 := n2_; have HB := n3_; clear n0_ n1_ n2_ n3_; (try clear hb); (try clear hb2); (try clear hk); (try clear hi)) | ((with_reducible refine gate_dst (N := 86) rfl ?_); (try (refine gate_guard (by rfl) ?_; dsimp only)); refine Kd.R_lit (Kd.int .u8) _ 23 ?hg (N := 86) ?hd (xs := ([0, 99, 255, 9] : List Int)) (inner := [.int .u8 0, .int .u8 99, .int .u8 255, .int .u8 9]) (ok := fun _ => True) (okp := fun _ => True) ?hr ?hp (fun _ hk => hk) trivial (Below.refl _ _) (Nat.le_refl _) (by simp) ?_; (case hd => rfl); (case hg => rfl); (case hr => first | (go_simp; done) | (go_simp; rfl)); (case hp => exact (Reps.one (show Kd.M (Kd.int .u8) _ _ _ 0 [.int .u8 0] from rfl) (Reps.one (show Kd.M (Kd.int .u8) _ _ _ 99 [.int .u8 99] from rfl) (Reps.one (show Kd.M (Kd.int .u8) _ _ _ 255 [.int .u8 255] from rfl) (Reps.one (show Kd.M (Kd.int .u8) _ _ _ 9 [.int .u8 9] from rfl) (Reps.none _ _)))))); intro v373 w157 ho158 hb hg_ hnew_; clear hg_ hnew_; (first | rw [← Ny372.out] at ho158 | (simp only [Int.reduceToNat] at ho158; rw [← Ny372.out] at ho158)); have n0_ := Aside0.mk (Kd.R_elder' (mvR HO_3) (Kd.R_base ho158) hb); have n1_ := Aside0.mk (Kd.R_lower (Kd.R_new' ho158 (Kd.R_lt (mvR HO_3))) (below_size (mvB HB))); have n2_ := Aside0.mk (Kd.C_below (by repeat (first | (with_reducible exact HR365.out) | (with_reducible refine Kd.C_alloc ?_ _) | (with_reducible refine Kd.C_drewN ?_ _) | (with_reducible refine Kd.C_drew ?_) | exact HR365.out)) hb); have n3_ := Aside0.mk (Kd.C_below (by repeat (first | (with_reducible exact HR370.out) | (with_reducible refine Kd.C_alloc ?_ _) | (with_reducible refine Kd.C_drewN ?_ _) | (with_reducible refine Kd.C_drew ?_) | exact HR370.out)) hb); have n4_ := Aside0.mk (below_step (mvB HB) hb); clear HO_3; clear HR365; clear HR370; clear HB; have HO_3 := n0_; have HO374 := n1_; have HR365 := n2_; have HR370 := n3_; have HB := n4_; clear n0_ n1_ n2_ n3_ n4_; clear hb ho158; obtain ⟨Ao159, co159, eo159⟩ := Kd.R_slice HO374.out; subst eo159) | (go_at_call 3; (with_reducible refine (selvedgelaw16_WeakResolves.calls k3 _ _ y372 77 true _ ?side1 ?side2 A149.out).mono ?_); (case side1 => repeat (first | exact (Kd.R_reads' HO374.out).2.2 | (with_reducible refine Kd.C_alloc ?_ _) | (with_reducible refine Kd.C_drewN ?_ _) | (with_reducible refine Kd.C_drew ?_))); (case side2 => exact (Kd.R_reads' HO374.out).2.1); rintro e w160 ⟨rfl, hb⟩; have n0_ := Aside0.mk (Kd.R_below (mvR HO_3) hb); have n1_ := Aside0.mk (Kd.R_below (mvR HO374) hb); have n2_ := Aside0.mk (Kd.C_below (by repeat (first | (with_reducible exact HR365.out) | (with_reducible refine Kd.C_alloc ?_ _) | (with_reducible refine Kd.C_drewN ?_ _) | (with_reducible refine Kd.C_drew ?_) | exact HR365.out)) hb); have n3_ := Aside0.mk (Kd.C_below (by repeat (first | (with_reducible exact HR370.out) | (with_reducible refine Kd.C_alloc ?_ _) | (with_reducible refine Kd.C_drewN ?_ _) | (with_reducible refine Kd.C_drew ?_) | exact HR370.out)) hb); have n4_ := Aside0.mk (below_step (mvB HB) hb); clear HO_3; clear HO374; clear HR365; clear HR370; clear HB; have HO_3 := n0_; have HO374 := n1_; have HR365 := n2_; have HR370 := n3_; have HB := n4_; clear n0_ n1_ n2_ n3_ n4_; (try clear hb); (try clear hb2); (try clear hk); (try clear hi)) | (go_at_call 9; (with_reducible refine (selvedgelaw16_works.calls k3  t376 _ A151.out).mono ?_); rintro e w161 ⟨rfl, hb⟩; have n0_ := Aside0.mk (Kd.R_below (mvR HO_3) hb); have n1_ := Aside0.mk (Kd.R_below (mvR HO374) hb); have n2_ := Aside0.mk (Kd.C_below (by repeat (first | (with_reducible exact HR365.out) | (with_reducible refine Kd.C_alloc ?_ _) | (with_reducible refine Kd.C_drewN ?_ _) | (with_reducible refine Kd.C_drew ?_) | exact HR365.out)) hb); have n3_ := Aside0.mk (Kd.C_below (by repeat (first | (with_reducible exact HR370.out) | (with_reducible refine Kd.C_alloc ?_ _) | (with_reducible refine Kd.C_drewN ?_ _) | (with_reducible refine Kd.C_drew ?_) | exact HR370.out)) hb); have n4_ := Aside0.mk (below_step (mvB HB) hb); clear HO_3; clear HO374; clear HR365; clear HR370; clear HB; have HO_3 := n0_; have HO374 := n1_; have HR365 := n2_; have HR370 := n3_; have HB := n4_; clear n0_ n1_ n2_ n3_ n4_; (try clear hb); (try clear hb2); (try clear hk); (try clear hi)))
                go_ret
                exact ⟨by first | rfl | (simp [errW_none, errW_some] <;> rfl) | (simp [*, errW_none, errW_some] <;> rfl), mvB HB⟩
               ·replace c150 := Bool.eq_false_iff.mpr c150
                subst c150
                have H1 : (some false) = some r := by rw [if_neg (show ¬ (false = true) by decide)] at H; exact H
                clear H
                have H := H1
                clear H1
                obtain rfl := Option.some.inj H
                obtain ⟨Ao163, co163, eo163⟩ := Kd.R_slice HO_3.out
                subst eo163
                have q162 : (2999 : Int) ≤ ((x3_3.length : Int) : Int) := of_decide_eq_true (by first | (with_reducible assumption) | assumption)
                obtain ⟨i0162, hi0162, _, hsz162, _⟩ := info_parts info23
                have hroom162 : x3_3.length ≤ co163 := (Kd.R_reads' HO_3.out).2.1
                have hC162 : Kd.C (Kd.int .u8) _ Ao163 x3_3.length x3_3 := (Kd.R_reads' HO_3.out).2.2
                have hcut162 := cut_to (P := Try.prog) 22 23 .i64 Try.underlying22 hi0162 Ao163 x3_3.length co163 2999 (by omega) q162 hroom162
                have hr162 := Kd.C_take (m := 2999) hC162 (by omega)
                have hy162 : y362.length = (2999 : Int).toNat := (by rw [Ny362.out, List.length_take]; omega)
                rw [← Ny362.out] at hr162
                rw [← hy162] at hcut162
                have HR365 := Aside0.mk hr162
                have HC365 := Aside0.mk (show y362.length ≤ co163 from by omega)
                clear hr162 hC162 hroom162 hi0162 hsz162
                have KY162 := Aside0.mk hy162
                clear hy162
                have KL162 := Aside0.mk (show 2999 ≤ x3_3.length from by omega)
                replace q162 := eq_true q162
                go_wp2_with (first | (go_at_call 3; (with_reducible refine (selvedgelaw16_WeakResolves.calls k3 _ _ y362 2 true _ ?side1 ?side2 A143.out).mono ?_); (case side1 => repeat (first | exact (by repeat (first | (with_reducible exact HR365.out) | (with_reducible refine Kd.C_alloc ?_ _) | (with_reducible refine Kd.C_drewN ?_ _) | (with_reducible refine Kd.C_drew ?_) | exact HR365.out)) | (with_reducible refine Kd.C_alloc ?_ _) | (with_reducible refine Kd.C_drewN ?_ _) | (with_reducible refine Kd.C_drew ?_))); (case side2 => exact HC365.out); rintro e w164 ⟨rfl, hb⟩; have n0_ := Aside0.mk (Kd.R_below (mvR HO_3) hb); have n1_ := Aside0.mk (Kd.C_below (by repeat (first | (with_reducible exact HR365.out) | (with_reducible refine Kd.C_alloc ?_ _) | (with_reducible refine Kd.C_drewN ?_ _) | (with_reducible refine Kd.C_drew ?_) | exact HR365.out)) hb); have n2_ := Aside0.mk (below_step (mvB HB) hb); clear HO_3; clear HR365; clear HB; have HO_3 := n0_; have HR365 := n1_; have HB := n2_; clear n0_ n1_ n2_; (try clear hb); (try clear hb2); (try clear hk); (try clear hi); have q165 : (6000 : Int) ≤ ((x3_3.length : Int) : Int) := of_decide_eq_true (by first | (with_reducible assumption) | assumption); obtain ⟨i0165, hi0165, _, hsz165, _⟩ := info_parts info23; have hroom165 : x3_3.length ≤ co163 := (Kd.R_reads' HO_3.out).2.1; have hC165 : Kd.C (Kd.int .u8) _ Ao163 x3_3.length x3_3 := (Kd.R_reads' HO_3.out).2.2; have ql165 : (3000 : Int) ≤ (6000 : Int) := (by omega); have hcut165 := cut_mid (P := Try.prog) 22 23 .i64 .i64 Try.underlying22 hi0165 1 hsz165 Ao163 x3_3.length co163 3000 6000 (by omega) ql165 q165 hroom165; have hr165 := Kd.C_mid (lo := (3000 : Int).toNat) (hi := (6000 : Int).toNat) (c := co163) hC165 (by omega) (by omega) hroom165; obtain ⟨A165, hA165⟩ : ∃ A1, A1 = (if co163 = (3000 : Int).toNat then Ao163 else (Ao163 : Option Addr).map (·.add ((3000 : Int).toNat * 1))) := ⟨_, rfl⟩; obtain ⟨c165, hc165⟩ : ∃ c1, c1 = co163 - (3000 : Int).toNat := ⟨_, rfl⟩; have hy165 : y367.length = (6000 : Int).toNat - (3000 : Int).toNat := (by rw [Ny367.out, List.length_drop, List.length_take] <;> omega); rw [show ((x3_3).take (6000 : Int).toNat).drop (3000 : Int).toNat = y367 from Ny367.out.symm] at hr165; replace hr165 : Kd.C (Kd.int .u8) _ A165 y367.length y367 := (by rw [hA165]; exact hr165); rw [← hy165, ← hA165, ← hc165] at hcut165; have HR370 := Aside0.mk hr165; have HC370 := Aside0.mk (show y367.length ≤ c165 from by rw [hy165, hc165]; exact Nat.sub_le_sub_right (Nat.le_trans (by omega) hroom165) _); clear hr165 hC165 hroom165 hi0165 hsz165 hc165; have KY165 := Aside0.mk hy165; have KA165 := Aside0.mk hA165; clear hy165 hA165; have KL165 := Aside0.mk (show 6000 ≤ x3_3.length from by omega); have KM165 := Aside0.mk (show 3000 ≤ 6000 from by omega); replace q165 := eq_true q165) | (go_at_call 3; (with_reducible refine (selvedgelaw16_WeakResolves.calls k3 _ _ y367 1 true _ ?side1 ?side2 A147.out).mono ?_); (case side1 => repeat (first | exact (by repeat (first | (with_reducible exact HR370.out) | (with_reducible refine Kd.C_alloc ?_ _) | (with_reducible refine Kd.C_drewN ?_ _) | (with_reducible refine Kd.C_drew ?_) | exact HR370.out)) | (with_reducible refine Kd.C_alloc ?_ _) | (with_reducible refine Kd.C_drewN ?_ _) | (with_reducible refine Kd.C_drew ?_))); (case side2 => exact HC370.out); rintro e w166 ⟨rfl, hb⟩; have n0_ := Aside0.mk (Kd.R_below (mvR HO_3) hb); have n1_ := Aside0.mk (Kd.C_below (by repeat (first | (with_reducible exact HR365.out) | (with_reducible refine Kd.C_alloc ?_ _) | (with_reducible refine Kd.C_drewN ?_ _) | (with_reducible refine Kd.C_drew ?_) | exact HR365.out)) hb); have n2_ := Aside0.mk (Kd.C_below (by repeat (first | (with_reducible exact HR370.out) | (with_reducible refine Kd.C_alloc ?_ _) | (with_reducible refine Kd.C_drewN ?_ _) | (with_reducible refine Kd.C_drew ?_) | exact HR370.out)) hb); have n3_ := Aside0.mk (below_step (mvB HB) hb); clear HO_3; clear HR365; clear HR370; clear HB; have HO_3 := n0_; have HR365 := n1_; have HR370 := n2_; have HB := n3_; clear n0_ n1_ n2_ n3_; (try clear hb); (try clear hb2); (try clear hk); (try clear hi)) | ((with_reducible refine gate_dst (N := 86) rfl ?_); (try (refine gate_guard (by rfl) ?_; dsimp only)); refine Kd.R_lit (Kd.int .u8) _ 23 ?hg (N := 86) ?hd (xs := ([0, 99, 255, 9] : List Int)) (inner := [.int .u8 0, .int .u8 99, .int .u8 255, .int .u8 9]) (ok := fun _ => True) (okp := fun _ => True) ?hr ?hp (fun _ hk => hk) trivial (Below.refl _ _) (Nat.le_refl _) (by simp) ?_; (case hd => rfl); (case hg => rfl); (case hr => first | (go_simp; done) | (go_simp; rfl)); (case hp => exact (Reps.one (show Kd.M (Kd.int .u8) _ _ _ 0 [.int .u8 0] from rfl) (Reps.one (show Kd.M (Kd.int .u8) _ _ _ 99 [.int .u8 99] from rfl) (Reps.one (show Kd.M (Kd.int .u8) _ _ _ 255 [.int .u8 255] from rfl) (Reps.one (show Kd.M (Kd.int .u8) _ _ _ 9 [.int .u8 9] from rfl) (Reps.none _ _)))))); intro v373 w167 ho168 hb hg_ hnew_; clear hg_ hnew_; (first | rw [← Ny372.out] at ho168 | (simp only [Int.reduceToNat] at ho168; rw [← Ny372.out] at ho168)); have n0_ := Aside0.mk (Kd.R_elder' (mvR HO_3) (Kd.R_base ho168) hb); have n1_ := Aside0.mk (Kd.R_lower (Kd.R_new' ho168 (Kd.R_lt (mvR HO_3))) (below_size (mvB HB))); have n2_ := Aside0.mk (Kd.C_below (by repeat (first | (with_reducible exact HR365.out) | (with_reducible refine Kd.C_alloc ?_ _) | (with_reducible refine Kd.C_drewN ?_ _) | (with_reducible refine Kd.C_drew ?_) | exact HR365.out)) hb); have n3_ := Aside0.mk (Kd.C_below (by repeat (first | (with_reducible exact HR370.out) | (with_reducible refine Kd.C_alloc ?_ _) | (with_reducible refine Kd.C_drewN ?_ _) | (with_reducible refine Kd.C_drew ?_) | exact HR370.out)) hb); have n4_ := Aside0.mk (below_step (mvB HB) hb); clear HO_3; clear HR365; clear HR370; clear HB; have HO_3 := n0_; have HO374 := n1_; have HR365 := n2_; have HR370 := n3_; have HB := n4_; clear n0_ n1_ n2_ n3_ n4_; clear hb ho168; obtain ⟨Ao169, co169, eo169⟩ := Kd.R_slice HO374.out; subst eo169) | (go_at_call 3; (with_reducible refine (selvedgelaw16_WeakResolves.calls k3 _ _ y372 77 false _ ?side1 ?side2 A149.out).mono ?_); (case side1 => repeat (first | exact (Kd.R_reads' HO374.out).2.2 | (with_reducible refine Kd.C_alloc ?_ _) | (with_reducible refine Kd.C_drewN ?_ _) | (with_reducible refine Kd.C_drew ?_))); (case side2 => exact (Kd.R_reads' HO374.out).2.1); rintro e w170 ⟨rfl, hb⟩; have n0_ := Aside0.mk (Kd.R_below (mvR HO_3) hb); have n1_ := Aside0.mk (Kd.R_below (mvR HO374) hb); have n2_ := Aside0.mk (Kd.C_below (by repeat (first | (with_reducible exact HR365.out) | (with_reducible refine Kd.C_alloc ?_ _) | (with_reducible refine Kd.C_drewN ?_ _) | (with_reducible refine Kd.C_drew ?_) | exact HR365.out)) hb); have n3_ := Aside0.mk (Kd.C_below (by repeat (first | (with_reducible exact HR370.out) | (with_reducible refine Kd.C_alloc ?_ _) | (with_reducible refine Kd.C_drewN ?_ _) | (with_reducible refine Kd.C_drew ?_) | exact HR370.out)) hb); have n4_ := Aside0.mk (below_step (mvB HB) hb); clear HO_3; clear HO374; clear HR365; clear HR370; clear HB; have HO_3 := n0_; have HO374 := n1_; have HR365 := n2_; have HR370 := n3_; have HB := n4_; clear n0_ n1_ n2_ n3_ n4_; (try clear hb); (try clear hb2); (try clear hk); (try clear hi)))
                go_ret
                exact ⟨by first | rfl | (simp [errW_none, errW_some] <;> rfl) | (simp [*, errW_none, errW_some] <;> rfl), mvB HB⟩
              ·replace c148 := Bool.eq_false_iff.mpr c148
               subst c148
               have H1 : (some false) = some r := by rw [if_neg (show ¬ (false = true) by decide)] at H; exact H
               clear H
               have H := H1
               clear H1
               obtain rfl := Option.some.inj H
               obtain ⟨Ao172, co172, eo172⟩ := Kd.R_slice HO_3.out
               subst eo172
               have q171 : (2999 : Int) ≤ ((x3_3.length : Int) : Int) := of_decide_eq_true (by first | (with_reducible assumption) | assumption)
               obtain ⟨i0171, hi0171, _, hsz171, _⟩ := info_parts info23
               have hroom171 : x3_3.length ≤ co172 := (Kd.R_reads' HO_3.out).2.1
               have hC171 : Kd.C (Kd.int .u8) _ Ao172 x3_3.length x3_3 := (Kd.R_reads' HO_3.out).2.2
               have hcut171 := cut_to (P := Try.prog) 22 23 .i64 Try.underlying22 hi0171 Ao172 x3_3.length co172 2999 (by omega) q171 hroom171
               have hr171 := Kd.C_take (m := 2999) hC171 (by omega)
               have hy171 : y362.length = (2999 : Int).toNat := (by rw [Ny362.out, List.length_take]; omega)
               rw [← Ny362.out] at hr171
               rw [← hy171] at hcut171
               have HR365 := Aside0.mk hr171
               have HC365 := Aside0.mk (show y362.length ≤ co172 from by omega)
               clear hr171 hC171 hroom171 hi0171 hsz171
               have KY171 := Aside0.mk hy171
               clear hy171
               have KL171 := Aside0.mk (show 2999 ≤ x3_3.length from by omega)
               replace q171 := eq_true q171
               go_wp2_with (first | (go_at_call 3; (with_reducible refine (selvedgelaw16_WeakResolves.calls k3 _ _ y362 2 true _ ?side1 ?side2 A143.out).mono ?_); (case side1 => repeat (first | exact (by repeat (first | (with_reducible exact HR365.out) | (with_reducible refine Kd.C_alloc ?_ _) | (with_reducible refine Kd.C_drewN ?_ _) | (with_reducible refine Kd.C_drew ?_) | exact HR365.out)) | (with_reducible refine Kd.C_alloc ?_ _) | (with_reducible refine Kd.C_drewN ?_ _) | (with_reducible refine Kd.C_drew ?_))); (case side2 => exact HC365.out); rintro e w173 ⟨rfl, hb⟩; have n0_ := Aside0.mk (Kd.R_below (mvR HO_3) hb); have n1_ := Aside0.mk (Kd.C_below (by repeat (first | (with_reducible exact HR365.out) | (with_reducible refine Kd.C_alloc ?_ _) | (with_reducible refine Kd.C_drewN ?_ _) | (with_reducible refine Kd.C_drew ?_) | exact HR365.out)) hb); have n2_ := Aside0.mk (below_step (mvB HB) hb); clear HO_3; clear HR365; clear HB; have HO_3 := n0_; have HR365 := n1_; have HB := n2_; clear n0_ n1_ n2_; (try clear hb); (try clear hb2); (try clear hk); (try clear hi); have q174 : (6000 : Int) ≤ ((x3_3.length : Int) : Int) := of_decide_eq_true (by first | (with_reducible assumption) | assumption); obtain ⟨i0174, hi0174, _, hsz174, _⟩ := info_parts info23; have hroom174 : x3_3.length ≤ co172 := (Kd.R_reads' HO_3.out).2.1; have hC174 : Kd.C (Kd.int .u8) _ Ao172 x3_3.length x3_3 := (Kd.R_reads' HO_3.out).2.2; have ql174 : (3000 : Int) ≤ (6000 : Int) := (by omega); have hcut174 := cut_mid (P := Try.prog) 22 23 .i64 .i64 Try.underlying22 hi0174 1 hsz174 Ao172 x3_3.length co172 3000 6000 (by omega) ql174 q174 hroom174; have hr174 := Kd.C_mid (lo := (3000 : Int).toNat) (hi := (6000 : Int).toNat) (c := co172) hC174 (by omega) (by omega) hroom174; obtain ⟨A174, hA174⟩ : ∃ A1, A1 = (if co172 = (3000 : Int).toNat then Ao172 else (Ao172 : Option Addr).map (·.add ((3000 : Int).toNat * 1))) := ⟨_, rfl⟩; obtain ⟨c174, hc174⟩ : ∃ c1, c1 = co172 - (3000 : Int).toNat := ⟨_, rfl⟩; have hy174 : y367.length = (6000 : Int).toNat - (3000 : Int).toNat := (by rw [Ny367.out, List.length_drop, List.length_take] <;> omega); rw [show ((x3_3).take (6000 : Int).toNat).drop (3000 : Int).toNat = y367 from Ny367.out.symm] at hr174; replace hr174 : Kd.C (Kd.int .u8) _ A174 y367.length y367 := (by rw [hA174]; exact hr174); rw [← hy174, ← hA174, ← hc174] at hcut174; have HR370 := Aside0.mk hr174; have HC370 := Aside0.mk (show y367.length ≤ c174 from by rw [hy174, hc174]; exact Nat.sub_le_sub_right (Nat.le_trans (by omega) hroom174) _); clear hr174 hC174 hroom174 hi0174 hsz174 hc174; have KY174 := Aside0.mk hy174; have KA174 := Aside0.mk hA174; clear hy174 hA174; have KL174 := Aside0.mk (show 6000 ≤ x3_3.length from by omega); have KM174 := Aside0.mk (show 3000 ≤ 6000 from by omega); replace q174 := eq_true q174) | (go_at_call 3; (with_reducible refine (selvedgelaw16_WeakResolves.calls k3 _ _ y367 1 false _ ?side1 ?side2 A147.out).mono ?_); (case side1 => repeat (first | exact (by repeat (first | (with_reducible exact HR370.out) | (with_reducible refine Kd.C_alloc ?_ _) | (with_reducible refine Kd.C_drewN ?_ _) | (with_reducible refine Kd.C_drew ?_) | exact HR370.out)) | (with_reducible refine Kd.C_alloc ?_ _) | (with_reducible refine Kd.C_drewN ?_ _) | (with_reducible refine Kd.C_drew ?_))); (case side2 => exact HC370.out); rintro e w175 ⟨rfl, hb⟩; have n0_ := Aside0.mk (Kd.R_below (mvR HO_3) hb); have n1_ := Aside0.mk (Kd.C_below (by repeat (first | (with_reducible exact HR365.out) | (with_reducible refine Kd.C_alloc ?_ _) | (with_reducible refine Kd.C_drewN ?_ _) | (with_reducible refine Kd.C_drew ?_) | exact HR365.out)) hb); have n2_ := Aside0.mk (Kd.C_below (by repeat (first | (with_reducible exact HR370.out) | (with_reducible refine Kd.C_alloc ?_ _) | (with_reducible refine Kd.C_drewN ?_ _) | (with_reducible refine Kd.C_drew ?_) | exact HR370.out)) hb); have n3_ := Aside0.mk (below_step (mvB HB) hb); clear HO_3; clear HR365; clear HR370; clear HB; have HO_3 := n0_; have HR365 := n1_; have HR370 := n2_; have HB := n3_; clear n0_ n1_ n2_ n3_; (try clear hb); (try clear hb2); (try clear hk); (try clear hi)))
               go_ret
               exact ⟨by first | rfl | (simp [errW_none, errW_some] <;> rfl) | (simp [*, errW_none, errW_some] <;> rfl), mvB HB⟩
             ·rw [if_neg c146] at H
              exact absurd H (by simp)
            ·rw [if_neg c145] at H
             exact absurd H (by simp)
           ·replace c144 := Bool.eq_false_iff.mpr c144
            subst c144
            have H1 : (some false) = some r := by rw [if_neg (show ¬ (false = true) by decide)] at H; exact H
            clear H
            have H := H1
            clear H1
            obtain rfl := Option.some.inj H
            obtain ⟨Ao177, co177, eo177⟩ := Kd.R_slice HO_3.out
            subst eo177
            have q176 : (2999 : Int) ≤ ((x3_3.length : Int) : Int) := of_decide_eq_true (by first | (with_reducible assumption) | assumption)
            obtain ⟨i0176, hi0176, _, hsz176, _⟩ := info_parts info23
            have hroom176 : x3_3.length ≤ co177 := (Kd.R_reads' HO_3.out).2.1
            have hC176 : Kd.C (Kd.int .u8) _ Ao177 x3_3.length x3_3 := (Kd.R_reads' HO_3.out).2.2
            have hcut176 := cut_to (P := Try.prog) 22 23 .i64 Try.underlying22 hi0176 Ao177 x3_3.length co177 2999 (by omega) q176 hroom176
            have hr176 := Kd.C_take (m := 2999) hC176 (by omega)
            have hy176 : y362.length = (2999 : Int).toNat := (by rw [Ny362.out, List.length_take]; omega)
            rw [← Ny362.out] at hr176
            rw [← hy176] at hcut176
            have HR365 := Aside0.mk hr176
            have HC365 := Aside0.mk (show y362.length ≤ co177 from by omega)
            clear hr176 hC176 hroom176 hi0176 hsz176
            have KY176 := Aside0.mk hy176
            clear hy176
            have KL176 := Aside0.mk (show 2999 ≤ x3_3.length from by omega)
            replace q176 := eq_true q176
            go_wp2_with (first | (go_at_call 3; (with_reducible refine (selvedgelaw16_WeakResolves.calls k3 _ _ y362 2 false _ ?side1 ?side2 A143.out).mono ?_); (case side1 => repeat (first | exact (by repeat (first | (with_reducible exact HR365.out) | (with_reducible refine Kd.C_alloc ?_ _) | (with_reducible refine Kd.C_drewN ?_ _) | (with_reducible refine Kd.C_drew ?_) | exact HR365.out)) | (with_reducible refine Kd.C_alloc ?_ _) | (with_reducible refine Kd.C_drewN ?_ _) | (with_reducible refine Kd.C_drew ?_))); (case side2 => exact HC365.out); rintro e w178 ⟨rfl, hb⟩; have n0_ := Aside0.mk (Kd.R_below (mvR HO_3) hb); have n1_ := Aside0.mk (Kd.C_below (by repeat (first | (with_reducible exact HR365.out) | (with_reducible refine Kd.C_alloc ?_ _) | (with_reducible refine Kd.C_drewN ?_ _) | (with_reducible refine Kd.C_drew ?_) | exact HR365.out)) hb); have n2_ := Aside0.mk (below_step (mvB HB) hb); clear HO_3; clear HR365; clear HB; have HO_3 := n0_; have HR365 := n1_; have HB := n2_; clear n0_ n1_ n2_; (try clear hb); (try clear hb2); (try clear hk); (try clear hi)))
            go_ret
            exact ⟨by first | rfl | (simp [errW_none, errW_some] <;> rfl) | (simp [*, errW_none, errW_some] <;> rfl), mvB HB⟩
          ·rw [if_neg c142] at H
           exact absurd H (by simp)
         ·replace c141 := Bool.eq_false_iff.mpr c141
          subst c141
          have H1 : (some false) = some r := by rw [if_neg (show ¬ (false = true) by decide)] at H; exact H
          clear H
          have H := H1
          clear H1
          obtain rfl := Option.some.inj H
          go_wp2
          go_ret
          exact ⟨by first | rfl | (simp [errW_none, errW_some] <;> rfl) | (simp [*, errW_none, errW_some] <;> rfl), mvB HB⟩
        ·replace c140 := Bool.eq_false_iff.mpr c140
         subst c140
         have H1 : (some false) = some r := by rw [if_neg (show ¬ (false = true) by decide)] at H; exact H
         clear H
         have H := H1
         clear H1
         obtain rfl := Option.some.inj H
         go_wp2
         go_ret
         exact ⟨by first | rfl | (simp [errW_none, errW_some] <;> rfl) | (simp [*, errW_none, errW_some] <;> rfl), mvB HB⟩

/-- THE ONE PURE STATEMENT of selvedgelaw16_WeakKnown: yours. -/
def selvedgelaw16_WeakKnown.Pure : Prop := ∃ k, selvedgelaw16_WeakKnown.f k  = some true
theorem selvedgelaw16_WeakKnown.walk (P : selvedgelaw16_WeakKnown.Pure)  (w : World)  :
  Calls Try.prog 8 #[] w fun e w' => e = .returned (.bool true) ∧ Below w.heap.size w w' := by
 obtain ⟨k, h⟩ := P  
 refine (selvedgelaw16_WeakKnown.calls k  true w h).mono ?_
 rintro e w' ⟨rfl, hd⟩
 exact ⟨rfl, hd⟩

end Go.Proofs.Ytnpcfiahmadkjaa.X
