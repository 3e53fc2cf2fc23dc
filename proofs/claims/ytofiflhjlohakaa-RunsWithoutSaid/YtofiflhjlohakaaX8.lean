-- by xprint.py: the kit's printer over texts of this session
import Derived.Test.YtofiflhjlohakaaX0
import Derived.Test.YtofiflhjlohakaaX1
import Derived.Test.YtofiflhjlohakaaT9
namespace Go.Proofs.Ytofiflhjlohakaa.X
open Go.RowKit Go.Proofs.YtofiflhjlohakaaW.PrintWords Go.Proofs.YtofiflhjlohakaaW.PrintLast Go.Proofs.YtofiflhjlohakaaW.PrintMore
attribute [local go_sem] max2_int min2_int max_two min_two max_three min_three max_four min_four   -- for this text's walks alone
set_option linter.unusedVariables false
set_option linter.unusedSimpArgs false

/-! ### selvedgelaw15_RunsWithout: function 5 -/
mutual
def selvedgelaw15_RunsWithout.j0 : Nat → List Int → List Int → Int → List Int → Bool → Option (Bool)
 | 0, _, _, _, _, _ => none
 | k + 1, x0, x1, x2, x3, x35 => if x35 = true then ((selvedgelaw15_works.f k).bind fun t306 => (some t306)) else (selvedgelaw15_RunsWithout.l0 k x0 x1 x2 x3 ([] : List Int) ([] : List Int) ([] : List Int) 0)
def selvedgelaw15_RunsWithout.l0 : Nat → List Int → List Int → Int → List Int → List Int → List Int → List Int → Int → Option (Bool)
 | 0, _, _, _, _, _, _, _, _ => none
 | k + 1, x0, x1, x2, x3, x9, x10, x11, x12 => if x12 ≤ (x0.length : Int) then (selvedgelaw15_RunsWithout.l1 k x0 x1 x2 x3 x9 x10 x11 x12 0) else ((runs_Sequences.f x0 x1 x2).bind fun bt334 => ((runs_Sequences.f x9 x10 x2).bind fun bt338 => (if bt334.2 = 0 then (if bt338.2 = 0 then (selvedgelaw15_RunsWithout.j3 k x11 bt334.1 bt338.1 ((bt334.1.length : Int) != (bt338.1.length : Int))) else (selvedgelaw15_RunsWithout.j3 k x11 bt334.1 bt338.1 true)) else (selvedgelaw15_RunsWithout.j3 k x11 bt334.1 bt338.1 true))))
def selvedgelaw15_RunsWithout.l1 : Nat → List Int → List Int → Int → List Int → List Int → List Int → List Int → Int → Int → Option (Bool)
 | 0, _, _, _, _, _, _, _, _, _ => none
 | k + 1, x0, x1, x2, x3, x9, x10, x11, x12, x13 => if x13 < (x3.length : Int) then (if 0 ≤ x13 then (if (wrap64 ((x0.length : Int) + 1)) = 0 then (none) else (if (Int.tmod (wrap64 (rd x3 x13)) (wrap64 ((x0.length : Int) + 1))) = x12 then ((some (([10, 19, 16, 17] : List Int) : List Int)).bind fun y308 => (if 0 ≤ (Int.tmod (IntKind.u16.wrap (Int.tdiv (rd x3 x13) 7)) 4) then (if (Int.tmod (IntKind.u16.wrap (Int.tdiv (rd x3 x13) 7)) 4) < (y308.length : Int) then (if x9.length < 140737488355328 then (if x10.length < 140737488355328 then (if x11.length < 17592186044416 then (selvedgelaw15_RunsWithout.l1 k x0 x1 x2 x3 (x9 ++ [rd y308 (Int.tmod (IntKind.u16.wrap (Int.tdiv (rd x3 x13) 7)) 4)]) (x10 ++ [((rd x3 x13) / 256) % 256]) (x11 ++ [(-1)]) x12 (wrap64 (x13 + 1))) else (none)) else (none)) else (none)) else (none)) else (none))) else (selvedgelaw15_RunsWithout.l1 k x0 x1 x2 x3 x9 x10 x11 x12 (wrap64 (x13 + 1))))) else (none)) else (if x12 < (x0.length : Int) then (if 0 ≤ x12 then (if x9.length < 140737488355328 then (if x12 < (x1.length : Int) then (if x10.length < 140737488355328 then (if x11.length < 17592186044416 then (selvedgelaw15_RunsWithout.l0 k x0 x1 x2 x3 (x9 ++ [rd x0 x12]) (x10 ++ [rd x1 x12]) (x11 ++ [x12]) (wrap64 (x12 + 1))) else (none)) else (none)) else (none)) else (none)) else (none)) else (selvedgelaw15_RunsWithout.l0 k x0 x1 x2 x3 x9 x10 x11 (wrap64 (x12 + 1))))
def selvedgelaw15_RunsWithout.j3 : Nat → List Int → List (S36) → List (S36) → Bool → Option (Bool)
 | 0, _, _, _, _ => none
 | k + 1, x11, x14, x16, x132 => if x132 = true then (some false) else (selvedgelaw15_RunsWithout.l2 k x11 x14 x16 0)
def selvedgelaw15_RunsWithout.l2 : Nat → List Int → List (S36) → List (S36) → Int → Option (Bool)
 | 0, _, _, _, _ => none
 | k + 1, x11, x14, x16, x18 => if x18 < (x14.length : Int) then (if 0 ≤ x18 then (if x18 < (x16.length : Int) then (if (((rd_T36 x14 x18).f0).length : Int) = (((rd_T36 x16 x18).f0).length : Int) then (if ((rd_T36 x14 x18).f1) = ((rd_T36 x16 x18).f1) then (if ((rd_T36 x14 x18).f2) = ((rd_T36 x16 x18).f2) then (selvedgelaw15_RunsWithout.j5 k x11 x14 x16 x18 (((rd_T36 x14 x18).f3) != ((rd_T36 x16 x18).f3))) else (selvedgelaw15_RunsWithout.j5 k x11 x14 x16 x18 true)) else (selvedgelaw15_RunsWithout.j5 k x11 x14 x16 x18 true)) else (selvedgelaw15_RunsWithout.j5 k x11 x14 x16 x18 true)) else (none)) else (none)) else ((selvedgelaw15_works.f k).bind fun t342 => (some t342))
def selvedgelaw15_RunsWithout.j5 : Nat → List Int → List (S36) → List (S36) → Int → Bool → Option (Bool)
 | 0, _, _, _, _, _ => none
 | k + 1, x11, x14, x16, x18, x190 => if x190 = true then (some false) else (selvedgelaw15_RunsWithout.l3 k x11 x14 x16 x18 0)
def selvedgelaw15_RunsWithout.l3 : Nat → List Int → List (S36) → List (S36) → Int → Int → Option (Bool)
 | 0, _, _, _, _, _ => none
 | k + 1, x11, x14, x16, x18, x19 => if 0 ≤ x18 then (if x18 < (x14.length : Int) then (if x19 < (((rd_T36 x14 x18).f0).length : Int) then (if x18 < (x16.length : Int) then (if 0 ≤ x19 then (if x19 < (((rd_T36 x16 x18).f0).length : Int) then (if (rd ((rd_T36 x16 x18).f0) x19) < 0 then (some false) else (if (rd ((rd_T36 x16 x18).f0) x19) ≥ (x11.length : Int) then (some false) else (if 0 ≤ (rd ((rd_T36 x16 x18).f0) x19) then (if (rd ((rd_T36 x16 x18).f0) x19) < (x11.length : Int) then (if (rd x11 (rd ((rd_T36 x16 x18).f0) x19)) = (rd ((rd_T36 x14 x18).f0) x19) then (selvedgelaw15_RunsWithout.l3 k x11 x14 x16 x18 (wrap64 (x19 + 1))) else (some false)) else (none)) else (none)))) else (none)) else (none)) else (none)) else (selvedgelaw15_RunsWithout.l2 k x11 x14 x16 (wrap64 (x18 + 1)))) else (none)) else (none)
end
def selvedgelaw15_RunsWithout.f (k : Nat) (l0 : List Int) (l1 : List Int) (a2 : Int) (l3 : List Int) : Option (Bool) := if (l0.length : Int) > 1000 then (selvedgelaw15_RunsWithout.j0 k l0 l1 a2 l3 true) else (if (l3.length : Int) > 100 then (selvedgelaw15_RunsWithout.j0 k l0 l1 a2 l3 true) else (selvedgelaw15_RunsWithout.j0 k l0 l1 a2 l3 ((l0.length : Int) != (l1.length : Int))))
theorem selvedgelaw15_RunsWithout.mono_l : ∀ k, (∀ y0 y1 y2 y3 y4, LeO (selvedgelaw15_RunsWithout.j0 k y0 y1 y2 y3 y4) (selvedgelaw15_RunsWithout.j0 (k + 1) y0 y1 y2 y3 y4)) ∧ (∀ y0 y1 y2 y3 y4 y5 y6 y7, LeO (selvedgelaw15_RunsWithout.l0 k y0 y1 y2 y3 y4 y5 y6 y7) (selvedgelaw15_RunsWithout.l0 (k + 1) y0 y1 y2 y3 y4 y5 y6 y7)) ∧ (∀ y0 y1 y2 y3 y4 y5 y6 y7 y8, LeO (selvedgelaw15_RunsWithout.l1 k y0 y1 y2 y3 y4 y5 y6 y7 y8) (selvedgelaw15_RunsWithout.l1 (k + 1) y0 y1 y2 y3 y4 y5 y6 y7 y8)) ∧ (∀ y0 y1 y2 y3, LeO (selvedgelaw15_RunsWithout.j3 k y0 y1 y2 y3) (selvedgelaw15_RunsWithout.j3 (k + 1) y0 y1 y2 y3)) ∧ (∀ y0 y1 y2 y3, LeO (selvedgelaw15_RunsWithout.l2 k y0 y1 y2 y3) (selvedgelaw15_RunsWithout.l2 (k + 1) y0 y1 y2 y3)) ∧ (∀ y0 y1 y2 y3 y4, LeO (selvedgelaw15_RunsWithout.j5 k y0 y1 y2 y3 y4) (selvedgelaw15_RunsWithout.j5 (k + 1) y0 y1 y2 y3 y4)) ∧ (∀ y0 y1 y2 y3 y4, LeO (selvedgelaw15_RunsWithout.l3 k y0 y1 y2 y3 y4) (selvedgelaw15_RunsWithout.l3 (k + 1) y0 y1 y2 y3 y4))
 | 0 => ⟨fun _ _ _ _ _ r h => by simp [selvedgelaw15_RunsWithout.j0] at h, fun _ _ _ _ _ _ _ _ r h => by simp [selvedgelaw15_RunsWithout.l0] at h, fun _ _ _ _ _ _ _ _ _ r h => by simp [selvedgelaw15_RunsWithout.l1] at h, fun _ _ _ _ r h => by simp [selvedgelaw15_RunsWithout.j3] at h, fun _ _ _ _ r h => by simp [selvedgelaw15_RunsWithout.l2] at h, fun _ _ _ _ _ r h => by simp [selvedgelaw15_RunsWithout.j5] at h, fun _ _ _ _ _ r h => by simp [selvedgelaw15_RunsWithout.l3] at h⟩
 | k + 1 => by
  obtain ⟨ih0, ih1, ih2, ih3, ih4, ih5, ih6⟩ := selvedgelaw15_RunsWithout.mono_l k
  refine ⟨?_, ?_, ?_, ?_, ?_, ?_, ?_⟩
  ·intro y0 y1 y2 y3 y4
   unfold selvedgelaw15_RunsWithout.j0
   repeat' first
   | (with_reducible exact ih0 _ _ _ _ _)
   | (with_reducible exact ih1 _ _ _ _ _ _ _ _)
   | (with_reducible exact ih2 _ _ _ _ _ _ _ _ _)
   | (with_reducible exact ih3 _ _ _ _)
   | (with_reducible exact ih4 _ _ _ _)
   | (with_reducible exact ih5 _ _ _ _ _)
   | (with_reducible exact ih6 _ _ _ _ _)
   | (with_reducible exact selvedgelaw15_works.mono _)
   | (with_reducible exact LeO.refl _)
   | (with_reducible exact LeO.none _)
   | (with_reducible refine LeO.ite ?_ ?_)
   | (with_reducible refine LeO.bind ?_ (fun _ => ?_))
   | exact ih0 _ _ _ _ _
   | exact ih1 _ _ _ _ _ _ _ _
   | exact ih2 _ _ _ _ _ _ _ _ _
   | exact ih3 _ _ _ _
   | exact ih4 _ _ _ _
   | exact ih5 _ _ _ _ _
   | exact ih6 _ _ _ _ _
   | exact selvedgelaw15_works.mono _
   | exact LeO.none _
   | refine LeO.ite ?_ ?_
   | refine LeO.bind ?_ (fun _ => ?_)
  ·intro y0 y1 y2 y3 y4 y5 y6 y7
   unfold selvedgelaw15_RunsWithout.l0
   repeat' first
   | (with_reducible exact ih0 _ _ _ _ _)
   | (with_reducible exact ih1 _ _ _ _ _ _ _ _)
   | (with_reducible exact ih2 _ _ _ _ _ _ _ _ _)
   | (with_reducible exact ih3 _ _ _ _)
   | (with_reducible exact ih4 _ _ _ _)
   | (with_reducible exact ih5 _ _ _ _ _)
   | (with_reducible exact ih6 _ _ _ _ _)
   | (with_reducible exact selvedgelaw15_works.mono _)
   | (with_reducible exact LeO.refl _)
   | (with_reducible exact LeO.none _)
   | (with_reducible refine LeO.ite ?_ ?_)
   | (with_reducible refine LeO.bind ?_ (fun _ => ?_))
   | exact ih0 _ _ _ _ _
   | exact ih1 _ _ _ _ _ _ _ _
   | exact ih2 _ _ _ _ _ _ _ _ _
   | exact ih3 _ _ _ _
   | exact ih4 _ _ _ _
   | exact ih5 _ _ _ _ _
   | exact ih6 _ _ _ _ _
   | exact selvedgelaw15_works.mono _
   | exact LeO.none _
   | refine LeO.ite ?_ ?_
   | refine LeO.bind ?_ (fun _ => ?_)
  ·intro y0 y1 y2 y3 y4 y5 y6 y7 y8
   unfold selvedgelaw15_RunsWithout.l1
   repeat' first
   | (with_reducible exact ih0 _ _ _ _ _)
   | (with_reducible exact ih1 _ _ _ _ _ _ _ _)
   | (with_reducible exact ih2 _ _ _ _ _ _ _ _ _)
   | (with_reducible exact ih3 _ _ _ _)
   | (with_reducible exact ih4 _ _ _ _)
   | (with_reducible exact ih5 _ _ _ _ _)
   | (with_reducible exact ih6 _ _ _ _ _)
   | (with_reducible exact selvedgelaw15_works.mono _)
   | (with_reducible exact LeO.refl _)
   | (with_reducible exact LeO.none _)
   | (with_reducible refine LeO.ite ?_ ?_)
   | (with_reducible refine LeO.bind ?_ (fun _ => ?_))
   | exact ih0 _ _ _ _ _
   | exact ih1 _ _ _ _ _ _ _ _
   | exact ih2 _ _ _ _ _ _ _ _ _
   | exact ih3 _ _ _ _
   | exact ih4 _ _ _ _
   | exact ih5 _ _ _ _ _
   | exact ih6 _ _ _ _ _
   | exact selvedgelaw15_works.mono _
   | exact LeO.none _
   | refine LeO.ite ?_ ?_
   | refine LeO.bind ?_ (fun _ => ?_)
  ·intro y0 y1 y2 y3
   unfold selvedgelaw15_RunsWithout.j3
   repeat' first
   | (with_reducible exact ih0 _ _ _ _ _)
   | (with_reducible exact ih1 _ _ _ _ _ _ _ _)
   | (with_reducible exact ih2 _ _ _ _ _ _ _ _ _)
   | (with_reducible exact ih3 _ _ _ _)
   | (with_reducible exact ih4 _ _ _ _)
   | (with_reducible exact ih5 _ _ _ _ _)
   | (with_reducible exact ih6 _ _ _ _ _)
   | (with_reducible exact selvedgelaw15_works.mono _)
   | (with_reducible exact LeO.refl _)
   | (with_reducible exact LeO.none _)
   | (with_reducible refine LeO.ite ?_ ?_)
   | (with_reducible refine LeO.bind ?_ (fun _ => ?_))
   | exact ih0 _ _ _ _ _
   | exact ih1 _ _ _ _ _ _ _ _
   | exact ih2 _ _ _ _ _ _ _ _ _
   | exact ih3 _ _ _ _
   | exact ih4 _ _ _ _
   | exact ih5 _ _ _ _ _
   | exact ih6 _ _ _ _ _
   | exact selvedgelaw15_works.mono _
   | exact LeO.none _
   | refine LeO.ite ?_ ?_
   | refine LeO.bind ?_ (fun _ => ?_)
  ·intro y0 y1 y2 y3
   unfold selvedgelaw15_RunsWithout.l2
   repeat' first
   | (with_reducible exact ih0 _ _ _ _ _)
   | (with_reducible exact ih1 _ _ _ _ _ _ _ _)
   | (with_reducible exact ih2 _ _ _ _ _ _ _ _ _)
   | (with_reducible exact ih3 _ _ _ _)
   | (with_reducible exact ih4 _ _ _ _)
   | (with_reducible exact ih5 _ _ _ _ _)
   | (with_reducible exact ih6 _ _ _ _ _)
   | (with_reducible exact selvedgelaw15_works.mono _)
   | (with_reducible exact LeO.refl _)
   | (with_reducible exact LeO.none _)
   | (with_reducible refine LeO.ite ?_ ?_)
   | (with_reducible refine LeO.bind ?_ (fun _ => ?_))
   | exact ih0 _ _ _ _ _
   | exact ih1 _ _ _ _ _ _ _ _
   | exact ih2 _ _ _ _ _ _ _ _ _
   | exact ih3 _ _ _ _
   | exact ih4 _ _ _ _
   | exact ih5 _ _ _ _ _
   | exact ih6 _ _ _ _ _
   | exact selvedgelaw15_works.mono _
   | exact LeO.none _
   | refine LeO.ite ?_ ?_
   | refine LeO.bind ?_ (fun _ => ?_)
  ·intro y0 y1 y2 y3 y4
   unfold selvedgelaw15_RunsWithout.j5
   repeat' first
   | (with_reducible exact ih0 _ _ _ _ _)
   | (with_reducible exact ih1 _ _ _ _ _ _ _ _)
   | (with_reducible exact ih2 _ _ _ _ _ _ _ _ _)
   | (with_reducible exact ih3 _ _ _ _)
   | (with_reducible exact ih4 _ _ _ _)
   | (with_reducible exact ih5 _ _ _ _ _)
   | (with_reducible exact ih6 _ _ _ _ _)
   | (with_reducible exact selvedgelaw15_works.mono _)
   | (with_reducible exact LeO.refl _)
   | (with_reducible exact LeO.none _)
   | (with_reducible refine LeO.ite ?_ ?_)
   | (with_reducible refine LeO.bind ?_ (fun _ => ?_))
   | exact ih0 _ _ _ _ _
   | exact ih1 _ _ _ _ _ _ _ _
   | exact ih2 _ _ _ _ _ _ _ _ _
   | exact ih3 _ _ _ _
   | exact ih4 _ _ _ _
   | exact ih5 _ _ _ _ _
   | exact ih6 _ _ _ _ _
   | exact selvedgelaw15_works.mono _
   | exact LeO.none _
   | refine LeO.ite ?_ ?_
   | refine LeO.bind ?_ (fun _ => ?_)
  ·intro y0 y1 y2 y3 y4
   unfold selvedgelaw15_RunsWithout.l3
   repeat' first
   | (with_reducible exact ih0 _ _ _ _ _)
   | (with_reducible exact ih1 _ _ _ _ _ _ _ _)
   | (with_reducible exact ih2 _ _ _ _ _ _ _ _ _)
   | (with_reducible exact ih3 _ _ _ _)
   | (with_reducible exact ih4 _ _ _ _)
   | (with_reducible exact ih5 _ _ _ _ _)
   | (with_reducible exact ih6 _ _ _ _ _)
   | (with_reducible exact selvedgelaw15_works.mono _)
   | (with_reducible exact LeO.refl _)
   | (with_reducible exact LeO.none _)
   | (with_reducible refine LeO.ite ?_ ?_)
   | (with_reducible refine LeO.bind ?_ (fun _ => ?_))
   | exact ih0 _ _ _ _ _
   | exact ih1 _ _ _ _ _ _ _ _
   | exact ih2 _ _ _ _ _ _ _ _ _
   | exact ih3 _ _ _ _
   | exact ih4 _ _ _ _
   | exact ih5 _ _ _ _ _
   | exact ih6 _ _ _ _ _
   | exact selvedgelaw15_works.mono _
   | exact LeO.none _
   | refine LeO.ite ?_ ?_
   | refine LeO.bind ?_ (fun _ => ?_)
theorem selvedgelaw15_RunsWithout.mono : ∀ a0 a1 a2 a3 k, LeO (selvedgelaw15_RunsWithout.f k a0 a1 a2 a3) (selvedgelaw15_RunsWithout.f (k + 1) a0 a1 a2 a3) := by
 intro a0 a1 a2 a3 k
 obtain ⟨ih0, ih1, ih2, ih3, ih4, ih5, ih6⟩ := selvedgelaw15_RunsWithout.mono_l k
 unfold selvedgelaw15_RunsWithout.f
 repeat' first
   | (with_reducible exact ih0 _ _ _ _ _)
   | (with_reducible exact ih1 _ _ _ _ _ _ _ _)
   | (with_reducible exact ih2 _ _ _ _ _ _ _ _ _)
   | (with_reducible exact ih3 _ _ _ _)
   | (with_reducible exact ih4 _ _ _ _)
   | (with_reducible exact ih5 _ _ _ _ _)
   | (with_reducible exact ih6 _ _ _ _ _)
   | (with_reducible exact selvedgelaw15_works.mono _)
   | (with_reducible exact LeO.refl _)
   | (with_reducible exact LeO.none _)
   | (with_reducible refine LeO.ite ?_ ?_)
   | (with_reducible refine LeO.bind ?_ (fun _ => ?_))
   | exact ih0 _ _ _ _ _
   | exact ih1 _ _ _ _ _ _ _ _
   | exact ih2 _ _ _ _ _ _ _ _ _
   | exact ih3 _ _ _ _
   | exact ih4 _ _ _ _
   | exact ih5 _ _ _ _ _
   | exact ih6 _ _ _ _ _
   | exact selvedgelaw15_works.mono _
   | exact LeO.none _
   | refine LeO.ite ?_ ?_
   | refine LeO.bind ?_ (fun _ => ?_)
set_option maxHeartbeats 8000000 in
set_option maxRecDepth 100000 in
theorem selvedgelaw15_RunsWithout.calls (k : Nat) (A0 : Option Addr) (c0 : Nat) (l0 : List Int) (A1 : Option Addr) (c1 : Nat) (l1 : List Int) (a2 : Int) (A3 : Option Addr) (c3 : Nat) (l3 : List Int) (r : Bool) (w : World) (hr0 : Kd.C (Kd.int .u8) w A0 l0.length l0) (hc0 : l0.length ≤ c0) (hr1 : Kd.C (Kd.int .u8) w A1 l1.length l1) (hc1 : l1.length ≤ c1) (hr3 : Kd.C (Kd.int .u16) w A3 l3.length l3) (hc3 : l3.length ≤ c3) (h : selvedgelaw15_RunsWithout.f k l0 l1 a2 l3 = some r) :
  Calls Try.prog 5 #[.slice A0 l0.length c0, .slice A1 l1.length c1, .int .u8 a2, .slice A3 l3.length c3] w fun e w' => e = .returned (.bool r) ∧ Below w.heap.size w w' := by
 have HR0 := Aside0.mk hr0
 have HC0 := Aside0.mk hc0
 clear hr0 hc0
 have HR1 := Aside0.mk hr1
 have HC1 := Aside0.mk hc1
 clear hr1 hc1
 have HR3 := Aside0.mk hr3
 have HC3 := Aside0.mk hc3
 clear hr3 hc3
 have HB := Aside0.mk (Below.refl w.heap.size w)
 have H : (if (l0.length : Int) > 1000 then (selvedgelaw15_RunsWithout.j0 k l0 l1 a2 l3 true) else (if (l3.length : Int) > 100 then (selvedgelaw15_RunsWithout.j0 k l0 l1 a2 l3 true) else (selvedgelaw15_RunsWithout.j0 k l0 l1 a2 l3 ((l0.length : Int) != (l1.length : Int))))) = some r := h
 clear h
 have HC5 := Aside0.mk H
 clear H
 go_enter Try.func5, Try.ntmps5
 go_upto_region 1 with (fail)
 repeat (go_quiet (fail); go_upto_region 1 with (fail))
 go_cut [35] (fun v35 wc => ∃ (kq : Nat) (x35_4 : Bool), v35 = .bool x35_4 ∧ Aside0 (selvedgelaw15_RunsWithout.j0 kq l0 l1 a2 l3 x35_4 = some r) ∧ Aside0 (kq ≤ k) ∧ Aside0 (Below w.heap.size w wc))
 case first =>
  as_aux_lemma =>
  have H := HC5.out
  clear HC5
  by_cases c6 : (l0.length : Int) > 1000
  ·rw [if_pos c6] at H
   have c6b0 : decide (1000 < (l0.length : Int)) = true := decide_eq_true c6
   have c6b1 : decide (1000 < l0.length) = true := decide_eq_true (by omega)
   clear c6
   (first | rw [c6b0] | (simp only [i64_w, i32_w]; rw [c6b0]) | skip)
   have H' := Aside0.mk H
   clear H
   go_wp2
   repeat (go_quiet (fail); try go_wp2)
   go_meet
   case rel => exact ⟨_, (true), (by first | rfl | (simp; done) | (simp [*]; done)), H', ⟨by first | omega | exact Nat.le_refl _⟩, ⟨mvB HB⟩⟩
  ·rw [if_neg c6] at H
   have c6b0 : decide (1000 < (l0.length : Int)) = false := decide_eq_false c6
   have c6b1 : decide (1000 < l0.length) = false := decide_eq_false (by omega)
   clear c6
   (first | rw [c6b0] | (simp only [i64_w, i32_w]; rw [c6b0]) | skip)
   by_cases c7 : (l3.length : Int) > 100
   ·rw [if_pos c7] at H
    have c7b0 : decide (100 < (l3.length : Int)) = true := decide_eq_true c7
    have c7b1 : decide (100 < l3.length) = true := decide_eq_true (by omega)
    clear c7
    have H' := Aside0.mk H
    clear H
    go_wp2
    repeat (go_quiet (fail); try go_wp2)
    go_meet
    case rel => exact ⟨_, (true), (by first | rfl | (simp; done) | (simp [*]; done)), H', ⟨by first | omega | exact Nat.le_refl _⟩, ⟨mvB HB⟩⟩
   ·rw [if_neg c7] at H
    have c7b0 : decide (100 < (l3.length : Int)) = false := decide_eq_false c7
    have c7b1 : decide (100 < l3.length) = false := decide_eq_false (by omega)
    clear c7
    have H' := Aside0.mk H
    clear H
    go_wp2
    repeat (go_quiet (fail); try go_wp2)
    go_meet
    case rel => exact ⟨_, (((l0.length : Int) != (l1.length : Int))), (by first | rfl | (simp; done) | (simp [*]; done)), H', ⟨by first | omega | exact Nat.le_refl _⟩, ⟨mvB HB⟩⟩
 case rest =>
  as_aux_lemma =>
  clear HC5
  try clear c1
  try clear p2
  try clear c3
  try clear c5
  try clear c6
  try clear c6b0
  try clear c6b1
  try clear c7
  try clear c7b0
  try clear c7b1
  obtain ⟨kq, x35_4, rfl, HA, HJ4, HB⟩ := hcut
  cases kq with
  | zero => exact absurd HA.out (by simp [selvedgelaw15_RunsWithout.j0])
  | succ kj4 =>
   have H := HA.out
   clear HA
   simp only [selvedgelaw15_RunsWithout.j0] at H
   by_cases c8 : x35_4 = true
   ·subst c8
    have H1 : ((selvedgelaw15_works.f kj4).bind fun t306 => (some t306)) = some r := by rw [if_pos rfl] at H; exact H
    clear H
    have H := H1
    clear H1
    replace H := Option.bind_eq_some_iff.mp H
    obtain ⟨t306, A90, H⟩ := H
    replace H : (some t306) = some r := H
    have A9 := Aside0.mk A90
    clear A90
    obtain rfl := Option.some.inj H
    go_wp2_with (first | (go_at_call 8; (with_reducible refine (selvedgelaw15_works.calls kj4  t306 _ A9.out).mono ?_); rintro e w10 ⟨rfl, hb⟩; have n0_ := Aside0.mk (below_step (mvB HB) hb); clear HB; have HB := n0_; clear n0_; (try clear hb); (try clear hb2); (try clear hk); (try clear hi)))
    repeat (go_quiet (first | (go_at_call 8; (with_reducible refine (selvedgelaw15_works.calls kj4  t306 _ A9.out).mono ?_); rintro e w10 ⟨rfl, hb⟩; have n0_ := Aside0.mk (below_step (mvB HB) hb); clear HB; have HB := n0_; clear n0_; (try clear hb); (try clear hb2); (try clear hk); (try clear hi))); try go_wp2_with (first | (go_at_call 8; (with_reducible refine (selvedgelaw15_works.calls kj4  t306 _ A9.out).mono ?_); rintro e w10 ⟨rfl, hb⟩; have n0_ := Aside0.mk (below_step (mvB HB) hb); clear HB; have HB := n0_; clear n0_; (try clear hb); (try clear hb2); (try clear hk); (try clear hi))))
    go_ret
    exact ⟨by first | rfl | (simp [errW_none, errW_some] <;> rfl) | (simp [*, errW_none, errW_some] <;> rfl), mvB HB⟩
   ·replace c8 := Bool.eq_false_iff.mpr c8
    subst c8
    have H1 : (selvedgelaw15_RunsWithout.l0 kj4 l0 l1 a2 l3 ([] : List Int) ([] : List Int) ([] : List Int) 0) = some r := by rw [if_neg (show ¬ (false = true) by decide)] at H; exact H
    clear H
    have H := H1
    clear H1
    have H' := Aside0.mk H
    clear H
    go_wp2
    repeat (go_quiet (fail); try go_wp2)
    go_loopg [9, 10, 11, 12] kj4 (fun kq v9 v10 v11 v12 w' => ∃ (x9_2 : List Int) (x10_2 : List Int) (x11_2 : List Int) (x12_2 : Int), v12 = .int .i64 x12_2 ∧ Aside0 (selvedgelaw15_RunsWithout.l0 kq l0 l1 a2 l3 x9_2 x10_2 x11_2 x12_2 = some r) ∧ Aside0 (kq ≤ kj4) ∧ Aside0 (Kd.R (Kd.int .u8) 34 w' w.heap.size (fun _ => True) v9 x9_2) ∧ Aside0 (Kd.R (Kd.int .u8) 5 w' w.heap.size (fun _ => True) v10 x10_2) ∧ Aside0 (Kd.R (Kd.int .i64) 3 w' w.heap.size (fun _ => True) v11 x11_2) ∧ Aside0 (Below w.heap.size w w'))
    case atStart => exact ⟨(([] : List Int)), (([] : List Int)), (([] : List Int)), (0), (by first | rfl | (simp; done) | (simp [*]; done)), H', ⟨Nat.le_refl _⟩, ⟨by first | exact Kd.R_nil _ _ _ _ _ | exact Kd.N_nil _ _ _ _ _ | exact Kd.V_nil _ _ _ _ _ | exact Kd.Q_nil _ _ _ _ _ | exact Kd.S_nil _ _ _ _ _⟩, ⟨by first | exact Kd.R_nil _ _ _ _ _ | exact Kd.N_nil _ _ _ _ _ | exact Kd.V_nil _ _ _ _ _ | exact Kd.Q_nil _ _ _ _ _ | exact Kd.S_nil _ _ _ _ _⟩, ⟨by first | exact Kd.R_nil _ _ _ _ _ | exact Kd.N_nil _ _ _ _ _ | exact Kd.V_nil _ _ _ _ _ | exact Kd.Q_nil _ _ _ _ _ | exact Kd.S_nil _ _ _ _ _⟩, ⟨mvB HB⟩⟩
    case round =>
     as_aux_lemma =>
     clear H'
     try clear c1
     try clear p2
     try clear c3
     try clear c5
     try clear c6
     try clear c6b0
     try clear c6b1
     try clear c7
     try clear c7b0
     try clear c7b1
     try clear c8
     try clear p2
     obtain ⟨x9_2, x10_2, x11_2, x12_2, rfl, HA, HK2, HO_9, HO_10, HO_11, HB⟩ := hrel
     cases gk with
     | zero => exact absurd HA.out (by simp [selvedgelaw15_RunsWithout.l0])
     | succ k2 =>
      have H := HA.out
      clear HA
      simp only [selvedgelaw15_RunsWithout.l0] at H
      by_cases c11 : x12_2 ≤ (l0.length : Int)
      ·rw [if_pos c11] at H
       have c11b0 : decide (x12_2 ≤ (l0.length : Int)) = true := decide_eq_true c11
       clear c11
       have H' := Aside0.mk H
       clear H
       go_wp2
       repeat (go_quiet (fail); try go_wp2)
       go_loopg [9, 10, 11, 13] k2 (fun kq v9 v10 v11 v13 w' => ∃ (x9_3 : List Int) (x10_3 : List Int) (x11_3 : List Int) (x13_3 : Int), v13 = .int .i64 x13_3 ∧ Aside0 (selvedgelaw15_RunsWithout.l1 kq l0 l1 a2 l3 x9_3 x10_3 x11_3 x12_2 x13_3 = some r) ∧ Aside0 (kq ≤ k2) ∧ Aside0 (Kd.R (Kd.int .u8) 34 w' w.heap.size (fun _ => True) v9 x9_3) ∧ Aside0 (Kd.R (Kd.int .u8) 5 w' w.heap.size (fun _ => True) v10 x10_3) ∧ Aside0 (Kd.R (Kd.int .i64) 3 w' w.heap.size (fun _ => True) v11 x11_3) ∧ Aside0 (Below w.heap.size w w'))
       case atStart => exact ⟨(x9_2), (x10_2), (x11_2), (0), (by first | rfl | (simp; done) | (simp [*]; done)), H', ⟨Nat.le_refl _⟩, ⟨mvR HO_9⟩, ⟨mvR HO_10⟩, ⟨mvR HO_11⟩, ⟨mvB HB⟩⟩
       case round =>
        as_aux_lemma =>
        clear H'
        try clear c1
        try clear p2
        try clear c3
        try clear c5
        try clear c6
        try clear c6b0
        try clear c6b1
        try clear c7
        try clear c7b0
        try clear c7b1
        try clear c8
        try clear c11
        try clear c11b0
        try clear p2
        obtain ⟨x9_3, x10_3, x11_3, x13_3, rfl, HA, HK3, HO_9, HO_10, HO_11, HB⟩ := hrel
        cases gk with
        | zero => exact absurd HA.out (by simp [selvedgelaw15_RunsWithout.l1])
        | succ k3 =>
         have H := HA.out
         clear HA
         simp only [selvedgelaw15_RunsWithout.l1] at H
         by_cases c12 : x13_3 < (l3.length : Int)
         ·rw [if_pos c12] at H
          have c12b0 : decide (x13_3 < (l3.length : Int)) = true := decide_eq_true c12
          clear c12
          by_cases c13 : 0 ≤ x13_3
          ·rw [if_pos c13] at H
           have c13b0 : decide (0 ≤ x13_3) = true := decide_eq_true c13
           clear c13
           by_cases c14 : (wrap64 ((l0.length : Int) + 1)) = 0
           ·rw [if_pos c14] at H
            exact absurd H (by simp)
           ·rw [if_neg c14] at H
            have c14b0 : ((wrap64 ((l0.length : Int) + 1)) == 0) = false := beq_eq_false_iff_ne.mpr c14
            have c14b1 : ((wrap64 ((l0.length : Int) + 1)) != 0) = true := bne_iff_ne.mpr c14
            by_cases c15 : (Int.tmod (wrap64 (rd l3 x13_3)) (wrap64 ((l0.length : Int) + 1))) = x12_2
            ·rw [if_pos c15] at H
             have c15b0 : ((Int.tmod (wrap64 (rd l3 x13_3)) (wrap64 ((l0.length : Int) + 1))) == x12_2) = true := beq_iff_eq.mpr c15
             have c15b1 : ((Int.tmod (wrap64 (rd l3 x13_3)) (wrap64 ((l0.length : Int) + 1))) != x12_2) = false := bne_eq_false_iff_eq.mpr c15
             clear c15
             obtain ⟨y308, hy308⟩ : ∃ y_ : List Int, y_ = (([10, 19, 16, 17] : List Int)) := ⟨_, rfl⟩
             replace H : (if 0 ≤ (Int.tmod (IntKind.u16.wrap (Int.tdiv (rd l3 x13_3) 7)) 4) then (if (Int.tmod (IntKind.u16.wrap (Int.tdiv (rd l3 x13_3) 7)) 4) < (y308.length : Int) then (if x9_3.length < 140737488355328 then (if x10_3.length < 140737488355328 then (if x11_3.length < 17592186044416 then (selvedgelaw15_RunsWithout.l1 k3 l0 l1 a2 l3 (x9_3 ++ [rd y308 (Int.tmod (IntKind.u16.wrap (Int.tdiv (rd l3 x13_3) 7)) 4)]) (x10_3 ++ [((rd l3 x13_3) / 256) % 256]) (x11_3 ++ [(-1)]) x12_2 (wrap64 (x13_3 + 1))) else (none)) else (none)) else (none)) else (none)) else (none)) = some r := by first | (rw [hy308]; with_reducible exact H) | (have H2_ := (Option.bind_some _ _).symm.trans H; rw [hy308]; with_reducible exact H2_) | (have H2_ := (Option.bind_some _ _).symm.trans H; with_reducible exact H2_) | with_reducible exact H | (rw [hy308]; exact H) | exact H
             have Ny308 := Aside0.mk hy308
             clear hy308
             obtain ⟨ji16, hji16⟩ : ∃ j_ : Int, (Int.tmod (IntKind.u16.wrap (Int.tdiv (rd l3 x13_3) 7)) 4) = j_ := ⟨_, rfl⟩
             replace H : (if 0 ≤ (ji16) then (if (ji16) < (y308.length : Int) then (if x9_3.length < 140737488355328 then (if x10_3.length < 140737488355328 then (if x11_3.length < 17592186044416 then (selvedgelaw15_RunsWithout.l1 k3 l0 l1 a2 l3 (x9_3 ++ [rd y308 (ji16)]) (x10_3 ++ [((rd l3 x13_3) / 256) % 256]) (x11_3 ++ [(-1)]) x12_2 (wrap64 (x13_3 + 1))) else (none)) else (none)) else (none)) else (none)) else (none)) = some r := by first | (rw [hji16] at H; exact H) | (simp only [hji16] at H ⊢; exact H)
             by_cases c17 : 0 ≤ (ji16)
             ·rw [if_pos c17] at H
              have c17b0 : decide (0 ≤ (ji16)) = true := decide_eq_true c17
              clear c17
              by_cases c18 : (ji16) < (y308.length : Int)
              ·rw [if_pos c18] at H
               have c18b0 : decide ((ji16) < (y308.length : Int)) = true := decide_eq_true c18
               clear c18
               by_cases c19 : x9_3.length < 140737488355328
               ·rw [if_pos c19] at H
                have LMc19 := Aside0.mk c19
                clear c19
                obtain ⟨y313, hy313⟩ : ∃ y_ : List Int, y_ = (x9_3 ++ [rd y308 (ji16)]) := ⟨_, rfl⟩
                replace H : (if x10_3.length < 140737488355328 then (if x11_3.length < 17592186044416 then (selvedgelaw15_RunsWithout.l1 k3 l0 l1 a2 l3 y313 (x10_3 ++ [((rd l3 x13_3) / 256) % 256]) (x11_3 ++ [(-1)]) x12_2 (wrap64 (x13_3 + 1))) else (none)) else (none)) = some r := by first | (rw [hy313]; with_reducible exact H) | (have H2_ := (Option.bind_some _ _).symm.trans H; rw [hy313]; with_reducible exact H2_) | (have H2_ := (Option.bind_some _ _).symm.trans H; with_reducible exact H2_) | with_reducible exact H | (rw [hy313]; exact H) | exact H
                have Ny313 := Aside0.mk hy313
                clear hy313
                by_cases c20 : x10_3.length < 140737488355328
                ·rw [if_pos c20] at H
                 have LMc20 := Aside0.mk c20
                 clear c20
                 obtain ⟨y317, hy317⟩ : ∃ y_ : List Int, y_ = (x10_3 ++ [((rd l3 x13_3) / 256) % 256]) := ⟨_, rfl⟩
                 replace H : (if x11_3.length < 17592186044416 then (selvedgelaw15_RunsWithout.l1 k3 l0 l1 a2 l3 y313 y317 (x11_3 ++ [(-1)]) x12_2 (wrap64 (x13_3 + 1))) else (none)) = some r := by first | (rw [hy317]; with_reducible exact H) | (have H2_ := (Option.bind_some _ _).symm.trans H; rw [hy317]; with_reducible exact H2_) | (have H2_ := (Option.bind_some _ _).symm.trans H; with_reducible exact H2_) | with_reducible exact H | (rw [hy317]; exact H) | exact H
                 have Ny317 := Aside0.mk hy317
                 clear hy317
                 by_cases c21 : x11_3.length < 17592186044416
                 ·rw [if_pos c21] at H
                  have LMc21 := Aside0.mk c21
                  clear c21
                  obtain ⟨y320, hy320⟩ : ∃ y_ : List Int, y_ = (x11_3 ++ [(-1)]) := ⟨_, rfl⟩
                  replace H : (selvedgelaw15_RunsWithout.l1 k3 l0 l1 a2 l3 y313 y317 y320 x12_2 (wrap64 (x13_3 + 1))) = some r := by first | (rw [hy320]; with_reducible exact H) | (have H2_ := (Option.bind_some _ _).symm.trans H; rw [hy320]; with_reducible exact H2_) | (have H2_ := (Option.bind_some _ _).symm.trans H; with_reducible exact H2_) | with_reducible exact H | (rw [hy320]; exact H) | exact H
                  have Ny320 := Aside0.mk hy320
                  clear hy320
                  have H' := Aside0.mk H
                  clear H
                  obtain ⟨ad307, e307, hx307_0, p307, q307⟩ := atI HR3.out x13_3
                  cases e307
                  replace hx307_0 := (HB.out.cell (World.block_lt_of_cell? w _ hx307_0)).trans hx307_0
                  go_wp2_with (first | ((with_reducible refine gate_dst (N := 61) rfl ?_); (try (refine gate_guard (by rfl) ?_; dsimp only)); refine Kd.R_lit (Kd.int .u8) _ 34 ?hg (N := 61) ?hd (xs := ([10, 19, 16, 17] : List Int)) (inner := [.int .u8 10, .int .u8 19, .int .u8 16, .int .u8 17]) (ok := fun _ => True) (okp := fun _ => True) ?hr ?hp (fun _ hk => hk) trivial (Below.refl _ _) (Nat.le_refl _) (by simp) ?_; (case hd => rfl); (case hg => rfl); (case hr => first | (go_simp; done) | (go_simp; rfl)); (case hp => exact (Reps.one (show Kd.M (Kd.int .u8) _ _ _ 10 [.int .u8 10] from rfl) (Reps.one (show Kd.M (Kd.int .u8) _ _ _ 19 [.int .u8 19] from rfl) (Reps.one (show Kd.M (Kd.int .u8) _ _ _ 16 [.int .u8 16] from rfl) (Reps.one (show Kd.M (Kd.int .u8) _ _ _ 17 [.int .u8 17] from rfl) (Reps.none _ _)))))); intro v309 w22 ho23 hb hg_ hnew_; clear hg_ hnew_; (first | rw [← Ny308.out] at ho23 | (simp only [Int.reduceToNat] at ho23; rw [← Ny308.out] at ho23)); have n0_ := Aside0.mk (Kd.R_elder' (mvR HO_9) (Kd.R_base ho23) hb); have n1_ := Aside0.mk (Kd.R_below (mvR HO_10) hb); have n2_ := Aside0.mk (Kd.R_below (mvR HO_11) hb); have n3_ := Aside0.mk (Kd.R_lower (Kd.R_new' ho23 (Kd.R_lt (mvR HO_9))) (below_size (mvB HB))); have n4_ := Aside0.mk (below_step (mvB HB) hb); clear HO_9; clear HO_10; clear HO_11; clear HB; have HO_9 := n0_; have HO_10 := n1_; have HO_11 := n2_; have HO310 := n3_; have HB := n4_; clear n0_ n1_ n2_ n3_ n4_; clear hb ho23; obtain ⟨ad311, e311, hx311_0, p311, q311⟩ := atI HR3.out x13_3; obtain rfl : ad307 = ad311 := (by injection e311); replace hx311_0 := (HB.out.cell (World.block_lt_of_cell? w _ hx311_0)).trans hx311_0; obtain ⟨Ao24, co24, eo24⟩ := Kd.R_slice HO310.out; subst eo24; obtain ⟨ad312, e312, hx312_0, p312, q312⟩ := atI (Kd.R_reads' HO310.out).2.2 (ji16); cases e312) | ((with_reducible refine gate_builtin (b := .append) (xs := #[.tmp 60, .tmp 70]) rfl ?_); (try (refine gate_guard (by rfl) ?_; dsimp only)); at_builtin; refine Kd.R_append (Kd.int .u8) (w0 := w) w.heap.size rfl (.tmp 60) (.tmp 70) 22 34 (.int .u8 0) 1 rfl Try.underlying22 info34 rfl (by decide) (by omega) u9 x9_3 (rd y308 (ji16)) [.int .u8 (rd y308 (ji16))] (fun k_ => some k_ ≠ (.slice (some ad312) y308.length co24 : Value).ownBlock) (fun _ => False) rfl rfl ?aP (fun _ hk => hk.elim) ?aF ?aO ?aB ?aS ?aL ?_; (case aP => exact rfl); (case aB => exact (mvB HB)); (case aF => exact (fun k_ hk => Kd.fresh' (Kd.R_lt (mvR HO310)) k_ hk)); (case aO => exact (by (with_reducible repeat (first | apply Kd.R_alloc | apply Kd.R_drewN | apply Kd.R_drew)); exact Kd.R_mono HO_9.out (fun _ hk => hk.2))); (case aS => exact (below_size (mvB HB))); (case aL => have := LMc19.out; omega); intro v314 w25 ho hb hg hat; rw [← Ny313.out] at ho; have n0_ := Aside0.mk (Kd.R_over' (mvR HO_10) (Kd.R_typed (mvR HO_9)) (by decide) hg); have n1_ := Aside0.mk (Kd.R_over' (mvR HO_11) (Kd.R_typed (mvR HO_9)) (by decide) hg); have n2_ := Aside0.mk (Kd.R_after (ok := (fun _ => True)) (mvR HO310) hg hat); have n3_ := Aside0.mk (hb); have n4_ := Aside0.mk (ho); clear HO_10; clear HO_11; clear HO310; clear HB; clear HO_9; have HO_10 := n0_; have HO_11 := n1_; have HO310 := n2_; have HB := n3_; have HO315 := n4_; clear n0_ n1_ n2_ n3_ n4_; clear ho hb hg hat; obtain ⟨ad316, e316, hx316_0, p316, q316⟩ := atI HR3.out x13_3; obtain rfl : ad307 = ad316 := (by injection e316); replace hx316_0 := (HB.out.cell (World.block_lt_of_cell? w _ hx316_0)).trans hx316_0) | ((with_reducible refine gate_builtin (b := .append) (xs := #[.tmp 72, .tmp 79]) rfl ?_); (try (refine gate_guard (by rfl) ?_; dsimp only)); at_builtin; refine Kd.R_append (Kd.int .u8) (w0 := w) w.heap.size rfl (.tmp 72) (.tmp 79) 23 5 (.int .u8 0) 1 rfl Try.underlying23 info5 rfl (by decide) (by omega) u10 x10_3 (((rd l3 x13_3) / 256) % 256) [.int .u8 (((rd l3 x13_3) / 256) % 256)] (fun _ => True) (fun _ => False) rfl rfl ?aP (fun _ hk => hk.elim) ?aF ?aO ?aB ?aS ?aL ?_; (case aP => exact rfl); (case aB => exact (mvB HB)); (case aF => exact (fun _ _ => trivial)); (case aO => exact (mvR HO_10)); (case aS => exact (below_size (mvB HB))); (case aL => have := LMc20.out; omega); intro v318 w26 ho hb hg hat; rw [← Ny317.out] at ho; have n0_ := Aside0.mk (Kd.R_over' (mvR HO_11) (Kd.R_typed (mvR HO_10)) (by decide) hg); have n1_ := Aside0.mk (Kd.R_over' (mvR HO310) (Kd.R_typed (mvR HO_10)) (by decide) hg); have n2_ := Aside0.mk (Kd.R_over' (mvR HO315) (Kd.R_typed (mvR HO_10)) (by decide) hg); have n3_ := Aside0.mk (hb); have n4_ := Aside0.mk (ho); clear HO_11; clear HO310; clear HO315; clear HB; clear HO_10; have HO_11 := n0_; have HO310 := n1_; have HO315 := n2_; have HB := n3_; have HO319 := n4_; clear n0_ n1_ n2_ n3_ n4_; clear ho hb hg hat) | ((with_reducible refine gate_builtin (b := .append) (xs := #[.tmp 81, .tmp 82]) rfl ?_); (try (refine gate_guard (by rfl) ?_; dsimp only)); at_builtin; refine Kd.R_append (Kd.int .i64) (w0 := w) w.heap.size rfl (.tmp 81) (.tmp 82) 33 3 (.int .i64 0) 8 rfl Try.underlying33 info3 rfl (by decide) (by omega) u11 x11_3 (-1) [.int .i64 (-1)] (fun _ => True) (fun _ => False) rfl rfl ?aP (fun _ hk => hk.elim) ?aF ?aO ?aB ?aS ?aL ?_; (case aP => exact rfl); (case aB => exact (mvB HB)); (case aF => exact (fun _ _ => trivial)); (case aO => exact (mvR HO_11)); (case aS => exact (below_size (mvB HB))); (case aL => have := LMc21.out; omega); intro v321 w27 ho hb hg hat; rw [← Ny320.out] at ho; have n0_ := Aside0.mk (Kd.R_over' (mvR HO310) (Kd.R_typed (mvR HO_11)) (by decide) hg); have n1_ := Aside0.mk (Kd.R_over' (mvR HO315) (Kd.R_typed (mvR HO_11)) (by decide) hg); have n2_ := Aside0.mk (Kd.R_over' (mvR HO319) (Kd.R_typed (mvR HO_11)) (by decide) hg); have n3_ := Aside0.mk (hb); have n4_ := Aside0.mk (ho); clear HO310; clear HO315; clear HO319; clear HB; clear HO_11; have HO310 := n0_; have HO315 := n1_; have HO319 := n2_; have HB := n3_; have HO322 := n4_; clear n0_ n1_ n2_ n3_ n4_; clear ho hb hg hat))
                  repeat (go_quiet (first | ((with_reducible refine gate_dst (N := 61) rfl ?_); (try (refine gate_guard (by rfl) ?_; dsimp only)); refine Kd.R_lit (Kd.int .u8) _ 34 ?hg (N := 61) ?hd (xs := ([10, 19, 16, 17] : List Int)) (inner := [.int .u8 10, .int .u8 19, .int .u8 16, .int .u8 17]) (ok := fun _ => True) (okp := fun _ => True) ?hr ?hp (fun _ hk => hk) trivial (Below.refl _ _) (Nat.le_refl _) (by simp) ?_; (case hd => rfl); (case hg => rfl); (case hr => first | (go_simp; done) | (go_simp; rfl)); (case hp => exact (Reps.one (show Kd.M (Kd.int .u8) _ _ _ 10 [.int .u8 10] from rfl) (Reps.one (show Kd.M (Kd.int .u8) _ _ _ 19 [.int .u8 19] from rfl) (Reps.one (show Kd.M (Kd.int .u8) _ _ _ 16 [.int .u8 16] from rfl) (Reps.one (show Kd.M (Kd.int .u8) _ _ _ 17 [.int .u8 17] from rfl) (Reps.none _ _)))))); intro v309 w22 ho23 hb hg_ hnew_; clear hg_ hnew_; (first | rw [← Ny308.out] at ho23 | (simp only [Int.reduceToNat] at ho23; rw [← Ny308.out] at ho23)); have n0_ := Aside0.mk (Kd.R_elder' (mvR HO_9) (Kd.R_base ho23) hb); have n1_ := Aside0.mk (Kd.R_below (mvR HO_10) hb); have n2_ := Aside0.mk (Kd.R_below (mvR HO_11) hb); have n3_ := Aside0.mk (Kd.R_lower (Kd.R_new' ho23 (Kd.R_lt (mvR HO_9))) (below_size (mvB HB))); have n4_ := Aside0.mk (below_step (mvB HB) hb); clear HO_9; clear HO_10; clear HO_11; clear HB; have HO_9 := n0_; have HO_10 := n1_; have HO_11 := n2_; have HO310 := n3_; have HB := n4_; clear n0_ n1_ n2_ n3_ n4_; clear hb ho23; obtain ⟨ad311, e311, hx311_0, p311, q311⟩ := atI HR3.out x13_3; obtain rfl : ad307 = ad311 := (by injection e311); replace hx311_0 := (HB.out.cell (World.block_lt_of_cell? w _ hx311_0)).trans hx311_0; obtain ⟨Ao24, co24, eo24⟩ := Kd.R_slice HO310.out; subst eo24; obtain ⟨ad312, e312, hx312_0, p312, q312⟩ := atI (Kd.R_reads' HO310.out).2.2 (ji16); cases e312) | ((with_reducible refine gate_builtin (b := .append) (xs := #[.tmp 60, .tmp 70]) rfl ?_); (try (refine gate_guard (by rfl) ?_; dsimp only)); at_builtin; refine Kd.R_append (Kd.int .u8) (w0 := w) w.heap.size rfl (.tmp 60) (.tmp 70) 22 34 (.int .u8 0) 1 rfl Try.underlying22 info34 rfl (by decide) (by omega) u9 x9_3 (rd y308 (ji16)) [.int .u8 (rd y308 (ji16))] (fun k_ => some k_ ≠ (.slice (some ad312) y308.length co24 : Value).ownBlock) (fun _ => False) rfl rfl ?aP (fun _ hk => hk.elim) ?aF ?aO ?aB ?aS ?aL ?_; (case aP => exact rfl); (case aB => exact (mvB HB)); (case aF => exact (fun k_ hk => Kd.fresh' (Kd.R_lt (mvR HO310)) k_ hk)); (case aO => exact (by (with_reducible repeat (first | apply Kd.R_alloc | apply Kd.R_drewN | apply Kd.R_drew)); exact Kd.R_mono HO_9.out (fun _ hk => hk.2))); (case aS => exact (below_size (mvB HB))); (case aL => have := LMc19.out; omega); intro v314 w25 ho hb hg hat; rw [← Ny313.out] at ho; have n0_ := Aside0.mk (Kd.R_over' (mvR HO_10) (Kd.R_typed (mvR HO_9)) (by decide) hg); have n1_ := Aside0.mk (Kd.R_over' (mvR HO_11) (Kd.R_typed (mvR HO_9)) (by decide) hg); have n2_ := Aside0.mk (Kd.R_after (ok := (fun _ => True)) (mvR HO310) hg hat); have n3_ := Aside0.mk (hb); have n4_ := Aside0.mk (ho); clear HO_10; clear HO_11; clear HO310; clear HB; clear HO_9; have HO_10 := n0_; have HO_11 := n1_; have HO310 := n2_; have HB := n3_; have HO315 := n4_; clear n0_ n1_ n2_ n3_ n4_; clear ho hb hg hat; obtain ⟨ad316, e316, hx316_0, p316, q316⟩ := atI HR3.out x13_3; obtain rfl : ad307 = ad316 := (by injection e316); replace hx316_0 := (HB.out.cell (World.block_lt_of_cell? w _ hx316_0)).trans hx316_0) | ((with_reducible refine gate_builtin (b := .append) (xs := #[.tmp 72, .tmp 79]) rfl ?_); (try (refine gate_guard (by rfl) ?_; dsimp only)); at_builtin; refine Kd.R_append (Kd.int .u8) (w0 := w) w.heap.size rfl (.tmp 72) (.tmp 79) 23 5 (.int .u8 0) 1 rfl Try.underlying23 info5 rfl (by decide) (by omega) u10 x10_3 (((rd l3 x13_3) / 256) % 256) [.int .u8 (((rd l3 x13_3) / 256) % 256)] (fun _ => True) (fun _ => False) rfl rfl ?aP (fun _ hk => hk.elim) ?aF ?aO ?aB ?aS ?aL ?_; (case aP => exact rfl); (case aB => exact (mvB HB)); (case aF => exact (fun _ _ => trivial)); (case aO => exact (mvR HO_10)); (case aS => exact (below_size (mvB HB))); (case aL => have := LMc20.out; omega); intro v318 w26 ho hb hg hat; rw [← Ny317.out] at ho; have n0_ := Aside0.mk (Kd.R_over' (mvR HO_11) (Kd.R_typed (mvR HO_10)) (by decide) hg); have n1_ := Aside0.mk (Kd.R_over' (mvR HO310) (Kd.R_typed (mvR HO_10)) (by decide) hg); have n2_ := Aside0.mk (Kd.R_over' (mvR HO315) (Kd.R_typed (mvR HO_10)) (by decide) hg); have n3_ := Aside0.mk (hb); have n4_ := Aside0.mk (ho); clear HO_11; clear HO310; clear HO315; clear HB; clear HO_10; have HO_11 := n0_; have HO310 := n1_; have HO315 := n2_; have HB := n3_; have HO319 := n4_; clear n0_ n1_ n2_ n3_ n4_; clear ho hb hg hat) | ((with_reducible refine gate_builtin (b := .append) (xs := #[.tmp 81, .tmp 82]) rfl ?_); (try (refine gate_guard (by rfl) ?_; dsimp only)); at_builtin; refine Kd.R_append (Kd.int .i64) (w0 := w) w.heap.size rfl (.tmp 81) (.tmp 82) 33 3 (.int .i64 0) 8 rfl Try.underlying33 info3 rfl (by decide) (by omega) u11 x11_3 (-1) [.int .i64 (-1)] (fun _ => True) (fun _ => False) rfl rfl ?aP (fun _ hk => hk.elim) ?aF ?aO ?aB ?aS ?aL ?_; (case aP => exact rfl); (case aB => exact (mvB HB)); (case aF => exact (fun _ _ => trivial)); (case aO => exact (mvR HO_11)); (case aS => exact (below_size (mvB HB))); (case aL => have := LMc21.out; omega); intro v321 w27 ho hb hg hat; rw [← Ny320.out] at ho; have n0_ := Aside0.mk (Kd.R_over' (mvR HO310) (Kd.R_typed (mvR HO_11)) (by decide) hg); have n1_ := Aside0.mk (Kd.R_over' (mvR HO315) (Kd.R_typed (mvR HO_11)) (by decide) hg); have n2_ := Aside0.mk (Kd.R_over' (mvR HO319) (Kd.R_typed (mvR HO_11)) (by decide) hg); have n3_ := Aside0.mk (hb); have n4_ := Aside0.mk (ho); clear HO310; clear HO315; clear HO319; clear HB; clear HO_11; have HO310 := n0_; have HO315 := n1_; have HO319 := n2_; have HB := n3_; have HO322 := n4_; clear n0_ n1_ n2_ n3_ n4_; clear ho hb hg hat)); try go_wp2_with (first | ((with_reducible refine gate_dst (N := 61) rfl ?_); (try (refine gate_guard (by rfl) ?_; dsimp only)); refine Kd.R_lit (Kd.int .u8) _ 34 ?hg (N := 61) ?hd (xs := ([10, 19, 16, 17] : List Int)) (inner := [.int .u8 10, .int .u8 19, .int .u8 16, .int .u8 17]) (ok := fun _ => True) (okp := fun _ => True) ?hr ?hp (fun _ hk => hk) trivial (Below.refl _ _) (Nat.le_refl _) (by simp) ?_; (case hd => rfl); (case hg => rfl); (case hr => first | (go_simp; done) | (go_simp; rfl)); (case hp => exact (Reps.one (show Kd.M (Kd.int .u8) _ _ _ 10 [.int .u8 10] from rfl) (Reps.one (show Kd.M (Kd.int .u8) _ _ _ 19 [.int .u8 19] from rfl) (Reps.one (show Kd.M (Kd.int .u8) _ _ _ 16 [.int .u8 16] from rfl) (Reps.one (show Kd.M (Kd.int .u8) _ _ _ 17 [.int .u8 17] from rfl) (Reps.none _ _)))))); intro v309 w22 ho23 hb hg_ hnew_; clear hg_ hnew_; (first | rw [← Ny308.out] at ho23 | (simp only [Int.reduceToNat] at ho23; rw [← Ny308.out] at ho23)); have n0_ := Aside0.mk (Kd.R_elder' (mvR HO_9) (Kd.R_base ho23) hb); have n1_ := Aside0.mk (Kd.R_below (mvR HO_10) hb); have n2_ := Aside0.mk (Kd.R_below (mvR HO_11) hb); have n3_ := Aside0.mk (Kd.R_lower (Kd.R_new' ho23 (Kd.R_lt (mvR HO_9))) (below_size (mvB HB))); have n4_ := Aside0.mk (below_step (mvB HB) hb); clear HO_9; clear HO_10; clear HO_11; clear HB; have HO_9 := n0_; have HO_10 := n1_; have HO_11 := n2_; have HO310 := n3_; have HB := n4_; clear n0_ n1_ n2_ n3_ n4_; clear hb ho23; obtain ⟨ad311, e311, hx311_0, p311, q311⟩ := atI HR3.out x13_3; obtain rfl : ad307 = ad311 := (by injection e311); replace hx311_0 := (HB.out.cell (World.block_lt_of_cell? w _ hx311_0)).trans hx311_0; obtain ⟨Ao24, co24, eo24⟩ := Kd.R_slice HO310.out; subst eo24; obtain ⟨ad312, e312, hx312_0, p312, q312⟩ := atI (Kd.R_reads' HO310.out).2.2 (ji16); cases e312) | ((with_reducible refine gate_builtin (b := .append) (xs := #[.tmp 60, .tmp 70]) rfl ?_); (try (refine gate_guard (by rfl) ?_; dsimp only)); at_builtin; refine Kd.R_append (Kd.int .u8) (w0 := w) w.heap.size rfl (.tmp 60) (.tmp 70) 22 34 (.int .u8 0) 1 rfl Try.underlying22 info34 rfl (by decide) (by omega) u9 x9_3 (rd y308 (ji16)) [.int .u8 (rd y308 (ji16))] (fun k_ => some k_ ≠ (.slice (some ad312) y308.length co24 : Value).ownBlock) (fun _ => False) rfl rfl ?aP (fun _ hk => hk.elim) ?aF ?aO ?aB ?aS ?aL ?_; (case aP => exact rfl); (case aB => exact (mvB HB)); (case aF => exact (fun k_ hk => Kd.fresh' (Kd.R_lt (mvR HO310)) k_ hk)); (case aO => exact (by (with_reducible repeat (first | apply Kd.R_alloc | apply Kd.R_drewN | apply Kd.R_drew)); exact Kd.R_mono HO_9.out (fun _ hk => hk.2))); (case aS => exact (below_size (mvB HB))); (case aL => have := LMc19.out; omega); intro v314 w25 ho hb hg hat; rw [← Ny313.out] at ho; have n0_ := Aside0.mk (Kd.R_over' (mvR HO_10) (Kd.R_typed (mvR HO_9)) (by decide) hg); have n1_ := Aside0.mk (Kd.R_over' (mvR HO_11) (Kd.R_typed (mvR HO_9)) (by decide) hg); have n2_ := Aside0.mk (Kd.R_after (ok := (fun _ => True)) (mvR HO310) hg hat); have n3_ := Aside0.mk (hb); have n4_ := Aside0.mk (ho); clear HO_10; clear HO_11; clear HO310; clear HB; clear HO_9; have HO_10 := n0_; have HO_11 := n1_; have HO310 := n2_; have HB := n3_; have HO315 := n4_; clear n0_ n1_ n2_ n3_ n4_; clear ho hb hg hat; obtain ⟨ad316, e316, hx316_0, p316, q316⟩ := atI HR3.out x13_3; obtain rfl : ad307 = ad316 := (by injection e316); replace hx316_0 := (HB.out.cell (World.block_lt_of_cell? w _ hx316_0)).trans hx316_0) | ((with_reducible refine gate_builtin (b := .append) (xs := #[.tmp 72, .tmp 79]) rfl ?_); (try (refine gate_guard (by rfl) ?_; dsimp only)); at_builtin; refine Kd.R_append (Kd.int .u8) (w0 := w) w.heap.size rfl (.tmp 72) (.tmp 79) 23 5 (.int .u8 0) 1 rfl Try.underlying23 info5 rfl (by decide) (by omega) u10 x10_3 (((rd l3 x13_3) / 256) % 256) [.int .u8 (((rd l3 x13_3) / 256) % 256)] (fun _ => True) (fun _ => False) rfl rfl ?aP (fun _ hk => hk.elim) ?aF ?aO ?aB ?aS ?aL ?_; (case aP => exact rfl); (case aB => exact (mvB HB)); (case aF => exact (fun _ _ => trivial)); (case aO => exact (mvR HO_10)); (case aS => exact (below_size (mvB HB))); (case aL => have := LMc20.out; omega); intro v318 w26 ho hb hg hat; rw [← Ny317.out] at ho; have n0_ := Aside0.mk (Kd.R_over' (mvR HO_11) (Kd.R_typed (mvR HO_10)) (by decide) hg); have n1_ := Aside0.mk (Kd.R_over' (mvR HO310) (Kd.R_typed (mvR HO_10)) (by decide) hg); have n2_ := Aside0.mk (Kd.R_over' (mvR HO315) (Kd.R_typed (mvR HO_10)) (by decide) hg); have n3_ := Aside0.mk (hb); have n4_ := Aside0.mk (ho); clear HO_11; clear HO310; clear HO315; clear HB; clear HO_10; have HO_11 := n0_; have HO310 := n1_; have HO315 := n2_; have HB := n3_; have HO319 := n4_; clear n0_ n1_ n2_ n3_ n4_; clear ho hb hg hat) | ((with_reducible refine gate_builtin (b := .append) (xs := #[.tmp 81, .tmp 82]) rfl ?_); (try (refine gate_guard (by rfl) ?_; dsimp only)); at_builtin; refine Kd.R_append (Kd.int .i64) (w0 := w) w.heap.size rfl (.tmp 81) (.tmp 82) 33 3 (.int .i64 0) 8 rfl Try.underlying33 info3 rfl (by decide) (by omega) u11 x11_3 (-1) [.int .i64 (-1)] (fun _ => True) (fun _ => False) rfl rfl ?aP (fun _ hk => hk.elim) ?aF ?aO ?aB ?aS ?aL ?_; (case aP => exact rfl); (case aB => exact (mvB HB)); (case aF => exact (fun _ _ => trivial)); (case aO => exact (mvR HO_11)); (case aS => exact (below_size (mvB HB))); (case aL => have := LMc21.out; omega); intro v321 w27 ho hb hg hat; rw [← Ny320.out] at ho; have n0_ := Aside0.mk (Kd.R_over' (mvR HO310) (Kd.R_typed (mvR HO_11)) (by decide) hg); have n1_ := Aside0.mk (Kd.R_over' (mvR HO315) (Kd.R_typed (mvR HO_11)) (by decide) hg); have n2_ := Aside0.mk (Kd.R_over' (mvR HO319) (Kd.R_typed (mvR HO_11)) (by decide) hg); have n3_ := Aside0.mk (hb); have n4_ := Aside0.mk (ho); clear HO310; clear HO315; clear HO319; clear HB; clear HO_11; have HO310 := n0_; have HO315 := n1_; have HO319 := n2_; have HB := n3_; have HO322 := n4_; clear n0_ n1_ n2_ n3_ n4_; clear ho hb hg hat)))
                  go_roundg k3
                  case measure => have := HJ4.out; have := HK2.out; have := HK3.out; omega
                  case rel => exact ⟨(y313), (y317), (y320), (wrap64 (x13_3 + 1)), (by first | rfl | (simp; done) | (simp [*]; done)), H', ⟨by have := HJ4.out; have := HK2.out; have := HK3.out; omega⟩, ⟨by (with_reducible repeat (first | apply Kd.R_alloc | apply Kd.R_drewN | apply Kd.R_drew)); exact Kd.R_mono HO315.out (fun _ hk => trivial)⟩, ⟨mvR HO319⟩, ⟨mvR HO322⟩, ⟨mvB HB⟩⟩
                 ·rw [if_neg c21] at H
                  exact absurd H (by simp)
                ·rw [if_neg c20] at H
                 exact absurd H (by simp)
               ·rw [if_neg c19] at H
                exact absurd H (by simp)
              ·rw [if_neg c18] at H
               exact absurd H (by simp)
             ·rw [if_neg c17] at H
              exact absurd H (by simp)
            ·rw [if_neg c15] at H
             have c15b0 : ((Int.tmod (wrap64 (rd l3 x13_3)) (wrap64 ((l0.length : Int) + 1))) == x12_2) = false := beq_eq_false_iff_ne.mpr c15
             have c15b1 : ((Int.tmod (wrap64 (rd l3 x13_3)) (wrap64 ((l0.length : Int) + 1))) != x12_2) = true := bne_iff_ne.mpr c15
             have H' := Aside0.mk H
             clear H
             obtain ⟨ad307, e307, hx307_0, p307, q307⟩ := atI HR3.out x13_3
             cases e307
             replace hx307_0 := (HB.out.cell (World.block_lt_of_cell? w _ hx307_0)).trans hx307_0
             go_wp2
             repeat (go_quiet (fail); try go_wp2)
             go_roundg k3
             case measure => have := HJ4.out; have := HK2.out; have := HK3.out; omega
             case rel => exact ⟨(x9_3), (x10_3), (x11_3), (wrap64 (x13_3 + 1)), (by first | rfl | (simp; done) | (simp [*]; done)), H', ⟨by have := HJ4.out; have := HK2.out; have := HK3.out; omega⟩, ⟨mvR HO_9⟩, ⟨mvR HO_10⟩, ⟨mvR HO_11⟩, ⟨mvB HB⟩⟩
          ·rw [if_neg c13] at H
           exact absurd H (by simp)
         ·rw [if_neg c12] at H
          have c12b0 : decide (x13_3 < (l3.length : Int)) = false := decide_eq_false c12
          clear c12
          by_cases c28 : x12_2 < (l0.length : Int)
          ·rw [if_pos c28] at H
           have c28b0 : decide (x12_2 < (l0.length : Int)) = true := decide_eq_true c28
           clear c28
           by_cases c29 : 0 ≤ x12_2
           ·rw [if_pos c29] at H
            have c29b0 : decide (0 ≤ x12_2) = true := decide_eq_true c29
            clear c29
            by_cases c30 : x9_3.length < 140737488355328
            ·rw [if_pos c30] at H
             have LMc30 := Aside0.mk c30
             clear c30
             obtain ⟨y324, hy324⟩ : ∃ y_ : List Int, y_ = (x9_3 ++ [rd l0 x12_2]) := ⟨_, rfl⟩
             replace H : (if x12_2 < (l1.length : Int) then (if x10_3.length < 140737488355328 then (if x11_3.length < 17592186044416 then (selvedgelaw15_RunsWithout.l0 k3 l0 l1 a2 l3 y324 (x10_3 ++ [rd l1 x12_2]) (x11_3 ++ [x12_2]) (wrap64 (x12_2 + 1))) else (none)) else (none)) else (none)) = some r := by first | (rw [hy324]; with_reducible exact H) | (have H2_ := (Option.bind_some _ _).symm.trans H; rw [hy324]; with_reducible exact H2_) | (have H2_ := (Option.bind_some _ _).symm.trans H; with_reducible exact H2_) | with_reducible exact H | (rw [hy324]; exact H) | exact H
             have Ny324 := Aside0.mk hy324
             clear hy324
             by_cases c31 : x12_2 < (l1.length : Int)
             ·rw [if_pos c31] at H
              have c31b0 : decide (x12_2 < (l1.length : Int)) = true := decide_eq_true c31
              clear c31
              by_cases c32 : x10_3.length < 140737488355328
              ·rw [if_pos c32] at H
               have LMc32 := Aside0.mk c32
               clear c32
               obtain ⟨y328, hy328⟩ : ∃ y_ : List Int, y_ = (x10_3 ++ [rd l1 x12_2]) := ⟨_, rfl⟩
               replace H : (if x11_3.length < 17592186044416 then (selvedgelaw15_RunsWithout.l0 k3 l0 l1 a2 l3 y324 y328 (x11_3 ++ [x12_2]) (wrap64 (x12_2 + 1))) else (none)) = some r := by first | (rw [hy328]; with_reducible exact H) | (have H2_ := (Option.bind_some _ _).symm.trans H; rw [hy328]; with_reducible exact H2_) | (have H2_ := (Option.bind_some _ _).symm.trans H; with_reducible exact H2_) | with_reducible exact H | (rw [hy328]; exact H) | exact H
               have Ny328 := Aside0.mk hy328
               clear hy328
               by_cases c33 : x11_3.length < 17592186044416
               ·rw [if_pos c33] at H
                have LMc33 := Aside0.mk c33
                clear c33
                obtain ⟨y331, hy331⟩ : ∃ y_ : List Int, y_ = (x11_3 ++ [x12_2]) := ⟨_, rfl⟩
                replace H : (selvedgelaw15_RunsWithout.l0 k3 l0 l1 a2 l3 y324 y328 y331 (wrap64 (x12_2 + 1))) = some r := by first | (rw [hy331]; with_reducible exact H) | (have H2_ := (Option.bind_some _ _).symm.trans H; rw [hy331]; with_reducible exact H2_) | (have H2_ := (Option.bind_some _ _).symm.trans H; with_reducible exact H2_) | with_reducible exact H | (rw [hy331]; exact H) | exact H
                have Ny331 := Aside0.mk hy331
                clear hy331
                have H' := Aside0.mk H
                clear H
                obtain ⟨ad323, e323, hx323_0, p323, q323⟩ := atI HR0.out x12_2
                cases e323
                replace hx323_0 := (HB.out.cell (World.block_lt_of_cell? w _ hx323_0)).trans hx323_0
                go_wp2_with (first | ((with_reducible refine gate_builtin (b := .append) (xs := #[.tmp 88, .tmp 93]) rfl ?_); (try (refine gate_guard (by rfl) ?_; dsimp only)); at_builtin; refine Kd.R_append (Kd.int .u8) (w0 := w) w.heap.size rfl (.tmp 88) (.tmp 93) 22 34 (.int .u8 0) 1 rfl Try.underlying22 info34 rfl (by decide) (by omega) u9 x9_3 (rd l0 x12_2) [.int .u8 (rd l0 x12_2)] (fun _ => True) (fun _ => False) rfl rfl ?aP (fun _ hk => hk.elim) ?aF ?aO ?aB ?aS ?aL ?_; (case aP => exact rfl); (case aB => exact (mvB HB)); (case aF => exact (fun _ _ => trivial)); (case aO => exact (mvR HO_9)); (case aS => exact (below_size (mvB HB))); (case aL => have := LMc30.out; omega); intro v325 w34 ho hb hg hat; rw [← Ny324.out] at ho; have n0_ := Aside0.mk (Kd.R_over' (mvR HO_10) (Kd.R_typed (mvR HO_9)) (by decide) hg); have n1_ := Aside0.mk (Kd.R_over' (mvR HO_11) (Kd.R_typed (mvR HO_9)) (by decide) hg); have n2_ := Aside0.mk (hb); have n3_ := Aside0.mk (ho); clear HO_10; clear HO_11; clear HB; clear HO_9; have HO_10 := n0_; have HO_11 := n1_; have HB := n2_; have HO326 := n3_; clear n0_ n1_ n2_ n3_; clear ho hb hg hat; obtain ⟨ad327, e327, hx327_0, p327, q327⟩ := atI HR1.out x12_2; cases e327; replace hx327_0 := (HB.out.cell (World.block_lt_of_cell? w _ hx327_0)).trans hx327_0) | ((with_reducible refine gate_builtin (b := .append) (xs := #[.tmp 95, .tmp 100]) rfl ?_); (try (refine gate_guard (by rfl) ?_; dsimp only)); at_builtin; refine Kd.R_append (Kd.int .u8) (w0 := w) w.heap.size rfl (.tmp 95) (.tmp 100) 23 5 (.int .u8 0) 1 rfl Try.underlying23 info5 rfl (by decide) (by omega) u10 x10_3 (rd l1 x12_2) [.int .u8 (rd l1 x12_2)] (fun _ => True) (fun _ => False) rfl rfl ?aP (fun _ hk => hk.elim) ?aF ?aO ?aB ?aS ?aL ?_; (case aP => exact rfl); (case aB => exact (mvB HB)); (case aF => exact (fun _ _ => trivial)); (case aO => exact (mvR HO_10)); (case aS => exact (below_size (mvB HB))); (case aL => have := LMc32.out; omega); intro v329 w35 ho hb hg hat; rw [← Ny328.out] at ho; have n0_ := Aside0.mk (Kd.R_over' (mvR HO_11) (Kd.R_typed (mvR HO_10)) (by decide) hg); have n1_ := Aside0.mk (Kd.R_over' (mvR HO326) (Kd.R_typed (mvR HO_10)) (by decide) hg); have n2_ := Aside0.mk (hb); have n3_ := Aside0.mk (ho); clear HO_11; clear HO326; clear HB; clear HO_10; have HO_11 := n0_; have HO326 := n1_; have HB := n2_; have HO330 := n3_; clear n0_ n1_ n2_ n3_; clear ho hb hg hat) | ((with_reducible refine gate_builtin (b := .append) (xs := #[.tmp 102, .tmp 104]) rfl ?_); (try (refine gate_guard (by rfl) ?_; dsimp only)); at_builtin; refine Kd.R_append (Kd.int .i64) (w0 := w) w.heap.size rfl (.tmp 102) (.tmp 104) 33 3 (.int .i64 0) 8 rfl Try.underlying33 info3 rfl (by decide) (by omega) u11 x11_3 x12_2 [.int .i64 x12_2] (fun _ => True) (fun _ => False) rfl rfl ?aP (fun _ hk => hk.elim) ?aF ?aO ?aB ?aS ?aL ?_; (case aP => exact rfl); (case aB => exact (mvB HB)); (case aF => exact (fun _ _ => trivial)); (case aO => exact (mvR HO_11)); (case aS => exact (below_size (mvB HB))); (case aL => have := LMc33.out; omega); intro v332 w36 ho hb hg hat; rw [← Ny331.out] at ho; have n0_ := Aside0.mk (Kd.R_over' (mvR HO326) (Kd.R_typed (mvR HO_11)) (by decide) hg); have n1_ := Aside0.mk (Kd.R_over' (mvR HO330) (Kd.R_typed (mvR HO_11)) (by decide) hg); have n2_ := Aside0.mk (hb); have n3_ := Aside0.mk (ho); clear HO326; clear HO330; clear HB; clear HO_11; have HO326 := n0_; have HO330 := n1_; have HB := n2_; have HO333 := n3_; clear n0_ n1_ n2_ n3_; clear ho hb hg hat))
                repeat (go_quiet (first | ((with_reducible refine gate_builtin (b := .append) (xs := #[.tmp 88, .tmp 93]) rfl ?_); (try (refine gate_guard (by rfl) ?_; dsimp only)); at_builtin; refine Kd.R_append (Kd.int .u8) (w0 := w) w.heap.size rfl (.tmp 88) (.tmp 93) 22 34 (.int .u8 0) 1 rfl Try.underlying22 info34 rfl (by decide) (by omega) u9 x9_3 (rd l0 x12_2) [.int .u8 (rd l0 x12_2)] (fun _ => True) (fun _ => False) rfl rfl ?aP (fun _ hk => hk.elim) ?aF ?aO ?aB ?aS ?aL ?_; (case aP => exact rfl); (case aB => exact (mvB HB)); (case aF => exact (fun _ _ => trivial)); (case aO => exact (mvR HO_9)); (case aS => exact (below_size (mvB HB))); (case aL => have := LMc30.out; omega); intro v325 w34 ho hb hg hat; rw [← Ny324.out] at ho; have n0_ := Aside0.mk (Kd.R_over' (mvR HO_10) (Kd.R_typed (mvR HO_9)) (by decide) hg); have n1_ := Aside0.mk (Kd.R_over' (mvR HO_11) (Kd.R_typed (mvR HO_9)) (by decide) hg); have n2_ := Aside0.mk (hb); have n3_ := Aside0.mk (ho); clear HO_10; clear HO_11; clear HB; clear HO_9; have HO_10 := n0_; have HO_11 := n1_; have HB := n2_; have HO326 := n3_; clear n0_ n1_ n2_ n3_; clear ho hb hg hat; obtain ⟨ad327, e327, hx327_0, p327, q327⟩ := atI HR1.out x12_2; cases e327; replace hx327_0 := (HB.out.cell (World.block_lt_of_cell? w _ hx327_0)).trans hx327_0) | ((with_reducible refine gate_builtin (b := .append) (xs := #[.tmp 95, .tmp 100]) rfl ?_); (try (refine gate_guard (by rfl) ?_; dsimp only)); at_builtin; refine Kd.R_append (Kd.int .u8) (w0 := w) w.heap.size rfl (.tmp 95) (.tmp 100) 23 5 (.int .u8 0) 1 rfl Try.underlying23 info5 rfl (by decide) (by omega) u10 x10_3 (rd l1 x12_2) [.int .u8 (rd l1 x12_2)] (fun _ => True) (fun _ => False) rfl rfl ?aP (fun _ hk => hk.elim) ?aF ?aO ?aB ?aS ?aL ?_; (case aP => exact rfl); (case aB => exact (mvB HB)); (case aF => exact (fun _ _ => trivial)); (case aO => exact (mvR HO_10)); (case aS => exact (below_size (mvB HB))); (case aL => have := LMc32.out; omega); intro v329 w35 ho hb hg hat; rw [← Ny328.out] at ho; have n0_ := Aside0.mk (Kd.R_over' (mvR HO_11) (Kd.R_typed (mvR HO_10)) (by decide) hg); have n1_ := Aside0.mk (Kd.R_over' (mvR HO326) (Kd.R_typed (mvR HO_10)) (by decide) hg); have n2_ := Aside0.mk (hb); have n3_ := Aside0.mk (ho); clear HO_11; clear HO326; clear HB; clear HO_10; have HO_11 := n0_; have HO326 := n1_; have HB := n2_; have HO330 := n3_; clear n0_ n1_ n2_ n3_; clear ho hb hg hat) | ((with_reducible refine gate_builtin (b := .append) (xs := #[.tmp 102, .tmp 104]) rfl ?_); (try (refine gate_guard (by rfl) ?_; dsimp only)); at_builtin; refine Kd.R_append (Kd.int .i64) (w0 := w) w.heap.size rfl (.tmp 102) (.tmp 104) 33 3 (.int .i64 0) 8 rfl Try.underlying33 info3 rfl (by decide) (by omega) u11 x11_3 x12_2 [.int .i64 x12_2] (fun _ => True) (fun _ => False) rfl rfl ?aP (fun _ hk => hk.elim) ?aF ?aO ?aB ?aS ?aL ?_; (case aP => exact rfl); (case aB => exact (mvB HB)); (case aF => exact (fun _ _ => trivial)); (case aO => exact (mvR HO_11)); (case aS => exact (below_size (mvB HB))); (case aL => have := LMc33.out; omega); intro v332 w36 ho hb hg hat; rw [← Ny331.out] at ho; have n0_ := Aside0.mk (Kd.R_over' (mvR HO326) (Kd.R_typed (mvR HO_11)) (by decide) hg); have n1_ := Aside0.mk (Kd.R_over' (mvR HO330) (Kd.R_typed (mvR HO_11)) (by decide) hg); have n2_ := Aside0.mk (hb); have n3_ := Aside0.mk (ho); clear HO326; clear HO330; clear HB; clear HO_11; have HO326 := n0_; have HO330 := n1_; have HB := n2_; have HO333 := n3_; clear n0_ n1_ n2_ n3_; clear ho hb hg hat)); try go_wp2_with (first | ((with_reducible refine gate_builtin (b := .append) (xs := #[.tmp 88, .tmp 93]) rfl ?_); (try (refine gate_guard (by rfl) ?_; dsimp only)); at_builtin; refine Kd.R_append (Kd.int .u8) (w0 := w) w.heap.size rfl (.tmp 88) (.tmp 93) 22 34 (.int .u8 0) 1 rfl Try.underlying22 info34 rfl (by decide) (by omega) u9 x9_3 (rd l0 x12_2) [.int .u8 (rd l0 x12_2)] (fun _ => True) (fun _ => False) rfl rfl ?aP (fun _ hk => hk.elim) ?aF ?aO ?aB ?aS ?aL ?_; (case aP => exact rfl); (case aB => exact (mvB HB)); (case aF => exact (fun _ _ => trivial)); (case aO => exact (mvR HO_9)); (case aS => exact (below_size (mvB HB))); (case aL => have := LMc30.out; omega); intro v325 w34 ho hb hg hat; rw [← Ny324.out] at ho; have n0_ := Aside0.mk (Kd.R_over' (mvR HO_10) (Kd.R_typed (mvR HO_9)) (by decide) hg); have n1_ := Aside0.mk (Kd.R_over' (mvR HO_11) (Kd.R_typed (mvR HO_9)) (by decide) hg); have n2_ := Aside0.mk (hb); have n3_ := Aside0.mk (ho); clear HO_10; clear HO_11; clear HB; clear HO_9; have HO_10 := n0_; have HO_11 := n1_; have HB := n2_; have HO326 := n3_; clear n0_ n1_ n2_ n3_; clear ho hb hg hat; obtain ⟨ad327, e327, hx327_0, p327, q327⟩ := atI HR1.out x12_2; cases e327; replace hx327_0 := (HB.out.cell (World.block_lt_of_cell? w _ hx327_0)).trans hx327_0) | ((with_reducible refine gate_builtin (b := .append) (xs := #[.tmp 95, .tmp 100]) rfl ?_); (try (refine gate_guard (by rfl) ?_; dsimp only)); at_builtin; refine Kd.R_append (Kd.int .u8) (w0 := w) w.heap.size rfl (.tmp 95) (.tmp 100) 23 5 (.int .u8 0) 1 rfl Try.underlying23 info5 rfl (by decide) (by omega) u10 x10_3 (rd l1 x12_2) [.int .u8 (rd l1 x12_2)] (fun _ => True) (fun _ => False) rfl rfl ?aP (fun _ hk => hk.elim) ?aF ?aO ?aB ?aS ?aL ?_; (case aP => exact rfl); (case aB => exact (mvB HB)); (case aF => exact (fun _ _ => trivial)); (case aO => exact (mvR HO_10)); (case aS => exact (below_size (mvB HB))); (case aL => have := LMc32.out; omega); intro v329 w35 ho hb hg hat; rw [← Ny328.out] at ho; have n0_ := Aside0.mk (Kd.R_over' (mvR HO_11) (Kd.R_typed (mvR HO_10)) (by decide) hg); have n1_ := Aside0.mk (Kd.R_over' (mvR HO326) (Kd.R_typed (mvR HO_10)) (by decide) hg); have n2_ := Aside0.mk (hb); have n3_ := Aside0.mk (ho); clear HO_11; clear HO326; clear HB; clear HO_10; have HO_11 := n0_; have HO326 := n1_; have HB := n2_; have HO330 := n3_; clear n0_ n1_ n2_ n3_; clear ho hb hg hat) | ((with_reducible refine gate_builtin (b := .append) (xs := #[.tmp 102, .tmp 104]) rfl ?_); (try (refine gate_guard (by rfl) ?_; dsimp only)); at_builtin; refine Kd.R_append (Kd.int .i64) (w0 := w) w.heap.size rfl (.tmp 102) (.tmp 104) 33 3 (.int .i64 0) 8 rfl Try.underlying33 info3 rfl (by decide) (by omega) u11 x11_3 x12_2 [.int .i64 x12_2] (fun _ => True) (fun _ => False) rfl rfl ?aP (fun _ hk => hk.elim) ?aF ?aO ?aB ?aS ?aL ?_; (case aP => exact rfl); (case aB => exact (mvB HB)); (case aF => exact (fun _ _ => trivial)); (case aO => exact (mvR HO_11)); (case aS => exact (below_size (mvB HB))); (case aL => have := LMc33.out; omega); intro v332 w36 ho hb hg hat; rw [← Ny331.out] at ho; have n0_ := Aside0.mk (Kd.R_over' (mvR HO326) (Kd.R_typed (mvR HO_11)) (by decide) hg); have n1_ := Aside0.mk (Kd.R_over' (mvR HO330) (Kd.R_typed (mvR HO_11)) (by decide) hg); have n2_ := Aside0.mk (hb); have n3_ := Aside0.mk (ho); clear HO326; clear HO330; clear HB; clear HO_11; have HO326 := n0_; have HO330 := n1_; have HB := n2_; have HO333 := n3_; clear n0_ n1_ n2_ n3_; clear ho hb hg hat)))
                go_roundg k3
                case measure => have := HJ4.out; have := HK2.out; have := HK3.out; omega
                case rel => exact ⟨(y324), (y328), (y331), (wrap64 (x12_2 + 1)), (by first | rfl | (simp; done) | (simp [*]; done)), H', ⟨by have := HJ4.out; have := HK2.out; have := HK3.out; omega⟩, ⟨mvR HO326⟩, ⟨mvR HO330⟩, ⟨mvR HO333⟩, ⟨mvB HB⟩⟩
               ·rw [if_neg c33] at H
                exact absurd H (by simp)
              ·rw [if_neg c32] at H
               exact absurd H (by simp)
             ·rw [if_neg c31] at H
              exact absurd H (by simp)
            ·rw [if_neg c30] at H
             exact absurd H (by simp)
           ·rw [if_neg c29] at H
            exact absurd H (by simp)
          ·rw [if_neg c28] at H
           have c28b0 : decide (x12_2 < (l0.length : Int)) = false := decide_eq_false c28
           clear c28
           have H' := Aside0.mk H
           clear H
           go_wp2
           repeat (go_quiet (fail); try go_wp2)
           go_roundg k3
           case measure => have := HJ4.out; have := HK2.out; have := HK3.out; omega
           case rel => exact ⟨(x9_3), (x10_3), (x11_3), (wrap64 (x12_2 + 1)), (by first | rfl | (simp; done) | (simp [*]; done)), H', ⟨by have := HJ4.out; have := HK2.out; have := HK3.out; omega⟩, ⟨mvR HO_9⟩, ⟨mvR HO_10⟩, ⟨mvR HO_11⟩, ⟨mvB HB⟩⟩
      ·rw [if_neg c11] at H
       have c11b0 : decide (x12_2 ≤ (l0.length : Int)) = false := decide_eq_false c11
       clear c11
       replace H := Option.bind_eq_some_iff.mp H
       obtain ⟨⟨t334, t335⟩, A370, H⟩ := H
       replace H : ((runs_Sequences.f x9_2 x10_2 a2).bind fun bt338 => (if t335 = 0 then (if bt338.2 = 0 then (selvedgelaw15_RunsWithout.j3 k2 x11_2 t334 bt338.1 ((t334.length : Int) != (bt338.1.length : Int))) else (selvedgelaw15_RunsWithout.j3 k2 x11_2 t334 bt338.1 true)) else (selvedgelaw15_RunsWithout.j3 k2 x11_2 t334 bt338.1 true))) = some r := H
       have A37 := Aside0.mk A370
       clear A370
       replace H := Option.bind_eq_some_iff.mp H
       obtain ⟨⟨t338, t339⟩, A380, H⟩ := H
       replace H : (if t335 = 0 then (if t339 = 0 then (selvedgelaw15_RunsWithout.j3 k2 x11_2 t334 t338 ((t334.length : Int) != (t338.length : Int))) else (selvedgelaw15_RunsWithout.j3 k2 x11_2 t334 t338 true)) else (selvedgelaw15_RunsWithout.j3 k2 x11_2 t334 t338 true)) = some r := H
       have A38 := Aside0.mk A380
       clear A380
       have HC39 := Aside0.mk H
       clear H
       go_upto_region 22 with (first | (go_at_call 10; (with_reducible refine (runs_Sequences.calls _ _ l0 _ _ l1 a2 t334 t335 _ ?side1 ?side2 ?side3 ?side4 A37.out).mono ?_); (case side1 => repeat (first | exact (Kd.C_below HR0.out HB.out) | (with_reducible refine Kd.C_alloc ?_ _) | (with_reducible refine Kd.C_drewN ?_ _) | (with_reducible refine Kd.C_drew ?_))); (case side2 => exact HC0.out); (case side3 => repeat (first | exact (Kd.C_below HR1.out HB.out) | (with_reducible refine Kd.C_alloc ?_ _) | (with_reducible refine Kd.C_drewN ?_ _) | (with_reducible refine Kd.C_drew ?_))); (case side4 => exact HC1.out); rintro e w40 ⟨v336, rfl, ho0, hb⟩; have n0_ := Aside0.mk (Kd.R_below (mvR HO_9) hb); have n1_ := Aside0.mk (Kd.R_below (mvR HO_10) hb); have n2_ := Aside0.mk (Kd.R_below (mvR HO_11) hb); have n3_ := Aside0.mk (Kd.S_lower (Kd.S_new' ho0 (Kd.R_lt (mvR HO_11))) (below_size (mvB HB))); have n4_ := Aside0.mk (below_step (mvB HB) hb); clear HO_9; clear HO_10; clear HO_11; clear HB; have HO_9 := n0_; have HO_10 := n1_; have HO_11 := n2_; have HO337 := n3_; have HB := n4_; clear n0_ n1_ n2_ n3_ n4_; (try clear hb); (try clear hb2); (try clear hk); (try clear hi); (try clear ho0); obtain ⟨Ao41, co41, eo41⟩ := Kd.R_slice HO_9.out; subst eo41; obtain ⟨Ao42, co42, eo42⟩ := Kd.R_slice HO_10.out; subst eo42) | (go_at_call 10; (with_reducible refine (runs_Sequences.calls _ _ x9_2 _ _ x10_2 a2 t338 t339 _ ?side1 ?side2 ?side3 ?side4 A38.out).mono ?_); (case side1 => repeat (first | exact (Kd.R_reads' HO_9.out).2.2 | (with_reducible refine Kd.C_alloc ?_ _) | (with_reducible refine Kd.C_drewN ?_ _) | (with_reducible refine Kd.C_drew ?_))); (case side2 => exact (Kd.R_reads' HO_9.out).2.1); (case side3 => repeat (first | exact (Kd.R_reads' HO_10.out).2.2 | (with_reducible refine Kd.C_alloc ?_ _) | (with_reducible refine Kd.C_drewN ?_ _) | (with_reducible refine Kd.C_drew ?_))); (case side4 => exact (Kd.R_reads' HO_10.out).2.1); rintro e w43 ⟨v340, rfl, ho0, hb⟩; have n0_ := Aside0.mk (Kd.R_below (mvR HO_9) hb); have n1_ := Aside0.mk (Kd.R_below (mvR HO_10) hb); have n2_ := Aside0.mk (Kd.R_below (mvR HO_11) hb); have n3_ := Aside0.mk (Kd.S_elder' (by (with_reducible repeat (first | apply Kd.S_alloc | apply Kd.S_drewN | apply Kd.S_drew)); exact HO337.out) (Kd.S_base ho0) hb); have n4_ := Aside0.mk (Kd.S_lower (Kd.S_new' (Kd.S_new' ho0 (Kd.R_lt (mvR HO_11))) (Kd.S_lt (by (with_reducible repeat (first | apply Kd.S_alloc | apply Kd.S_drewN | apply Kd.S_drew)); exact HO337.out))) (below_size (mvB HB))); have n5_ := Aside0.mk (below_step (mvB HB) hb); clear HO_9; clear HO_10; clear HO_11; clear HO337; clear HB; have HO_9 := n0_; have HO_10 := n1_; have HO_11 := n2_; have HO337 := n3_; have HO341 := n4_; have HB := n5_; clear n0_ n1_ n2_ n3_ n4_ n5_; (try clear hb); (try clear hb2); (try clear hk); (try clear hi); (try clear ho0)))
       repeat (go_quiet (first | (go_at_call 10; (with_reducible refine (runs_Sequences.calls _ _ l0 _ _ l1 a2 t334 t335 _ ?side1 ?side2 ?side3 ?side4 A37.out).mono ?_); (case side1 => repeat (first | exact (Kd.C_below HR0.out HB.out) | (with_reducible refine Kd.C_alloc ?_ _) | (with_reducible refine Kd.C_drewN ?_ _) | (with_reducible refine Kd.C_drew ?_))); (case side2 => exact HC0.out); (case side3 => repeat (first | exact (Kd.C_below HR1.out HB.out) | (with_reducible refine Kd.C_alloc ?_ _) | (with_reducible refine Kd.C_drewN ?_ _) | (with_reducible refine Kd.C_drew ?_))); (case side4 => exact HC1.out); rintro e w40 ⟨v336, rfl, ho0, hb⟩; have n0_ := Aside0.mk (Kd.R_below (mvR HO_9) hb); have n1_ := Aside0.mk (Kd.R_below (mvR HO_10) hb); have n2_ := Aside0.mk (Kd.R_below (mvR HO_11) hb); have n3_ := Aside0.mk (Kd.S_lower (Kd.S_new' ho0 (Kd.R_lt (mvR HO_11))) (below_size (mvB HB))); have n4_ := Aside0.mk (below_step (mvB HB) hb); clear HO_9; clear HO_10; clear HO_11; clear HB; have HO_9 := n0_; have HO_10 := n1_; have HO_11 := n2_; have HO337 := n3_; have HB := n4_; clear n0_ n1_ n2_ n3_ n4_; (try clear hb); (try clear hb2); (try clear hk); (try clear hi); (try clear ho0); obtain ⟨Ao41, co41, eo41⟩ := Kd.R_slice HO_9.out; subst eo41; obtain ⟨Ao42, co42, eo42⟩ := Kd.R_slice HO_10.out; subst eo42) | (go_at_call 10; (with_reducible refine (runs_Sequences.calls _ _ x9_2 _ _ x10_2 a2 t338 t339 _ ?side1 ?side2 ?side3 ?side4 A38.out).mono ?_); (case side1 => repeat (first | exact (Kd.R_reads' HO_9.out).2.2 | (with_reducible refine Kd.C_alloc ?_ _) | (with_reducible refine Kd.C_drewN ?_ _) | (with_reducible refine Kd.C_drew ?_))); (case side2 => exact (Kd.R_reads' HO_9.out).2.1); (case side3 => repeat (first | exact (Kd.R_reads' HO_10.out).2.2 | (with_reducible refine Kd.C_alloc ?_ _) | (with_reducible refine Kd.C_drewN ?_ _) | (with_reducible refine Kd.C_drew ?_))); (case side4 => exact (Kd.R_reads' HO_10.out).2.1); rintro e w43 ⟨v340, rfl, ho0, hb⟩; have n0_ := Aside0.mk (Kd.R_below (mvR HO_9) hb); have n1_ := Aside0.mk (Kd.R_below (mvR HO_10) hb); have n2_ := Aside0.mk (Kd.R_below (mvR HO_11) hb); have n3_ := Aside0.mk (Kd.S_elder' (by (with_reducible repeat (first | apply Kd.S_alloc | apply Kd.S_drewN | apply Kd.S_drew)); exact HO337.out) (Kd.S_base ho0) hb); have n4_ := Aside0.mk (Kd.S_lower (Kd.S_new' (Kd.S_new' ho0 (Kd.R_lt (mvR HO_11))) (Kd.S_lt (by (with_reducible repeat (first | apply Kd.S_alloc | apply Kd.S_drewN | apply Kd.S_drew)); exact HO337.out))) (below_size (mvB HB))); have n5_ := Aside0.mk (below_step (mvB HB) hb); clear HO_9; clear HO_10; clear HO_11; clear HO337; clear HB; have HO_9 := n0_; have HO_10 := n1_; have HO_11 := n2_; have HO337 := n3_; have HO341 := n4_; have HB := n5_; clear n0_ n1_ n2_ n3_ n4_ n5_; (try clear hb); (try clear hb2); (try clear hk); (try clear hi); (try clear ho0))); go_upto_region 22 with (first | (go_at_call 10; (with_reducible refine (runs_Sequences.calls _ _ l0 _ _ l1 a2 t334 t335 _ ?side1 ?side2 ?side3 ?side4 A37.out).mono ?_); (case side1 => repeat (first | exact (Kd.C_below HR0.out HB.out) | (with_reducible refine Kd.C_alloc ?_ _) | (with_reducible refine Kd.C_drewN ?_ _) | (with_reducible refine Kd.C_drew ?_))); (case side2 => exact HC0.out); (case side3 => repeat (first | exact (Kd.C_below HR1.out HB.out) | (with_reducible refine Kd.C_alloc ?_ _) | (with_reducible refine Kd.C_drewN ?_ _) | (with_reducible refine Kd.C_drew ?_))); (case side4 => exact HC1.out); rintro e w40 ⟨v336, rfl, ho0, hb⟩; have n0_ := Aside0.mk (Kd.R_below (mvR HO_9) hb); have n1_ := Aside0.mk (Kd.R_below (mvR HO_10) hb); have n2_ := Aside0.mk (Kd.R_below (mvR HO_11) hb); have n3_ := Aside0.mk (Kd.S_lower (Kd.S_new' ho0 (Kd.R_lt (mvR HO_11))) (below_size (mvB HB))); have n4_ := Aside0.mk (below_step (mvB HB) hb); clear HO_9; clear HO_10; clear HO_11; clear HB; have HO_9 := n0_; have HO_10 := n1_; have HO_11 := n2_; have HO337 := n3_; have HB := n4_; clear n0_ n1_ n2_ n3_ n4_; (try clear hb); (try clear hb2); (try clear hk); (try clear hi); (try clear ho0); obtain ⟨Ao41, co41, eo41⟩ := Kd.R_slice HO_9.out; subst eo41; obtain ⟨Ao42, co42, eo42⟩ := Kd.R_slice HO_10.out; subst eo42) | (go_at_call 10; (with_reducible refine (runs_Sequences.calls _ _ x9_2 _ _ x10_2 a2 t338 t339 _ ?side1 ?side2 ?side3 ?side4 A38.out).mono ?_); (case side1 => repeat (first | exact (Kd.R_reads' HO_9.out).2.2 | (with_reducible refine Kd.C_alloc ?_ _) | (with_reducible refine Kd.C_drewN ?_ _) | (with_reducible refine Kd.C_drew ?_))); (case side2 => exact (Kd.R_reads' HO_9.out).2.1); (case side3 => repeat (first | exact (Kd.R_reads' HO_10.out).2.2 | (with_reducible refine Kd.C_alloc ?_ _) | (with_reducible refine Kd.C_drewN ?_ _) | (with_reducible refine Kd.C_drew ?_))); (case side4 => exact (Kd.R_reads' HO_10.out).2.1); rintro e w43 ⟨v340, rfl, ho0, hb⟩; have n0_ := Aside0.mk (Kd.R_below (mvR HO_9) hb); have n1_ := Aside0.mk (Kd.R_below (mvR HO_10) hb); have n2_ := Aside0.mk (Kd.R_below (mvR HO_11) hb); have n3_ := Aside0.mk (Kd.S_elder' (by (with_reducible repeat (first | apply Kd.S_alloc | apply Kd.S_drewN | apply Kd.S_drew)); exact HO337.out) (Kd.S_base ho0) hb); have n4_ := Aside0.mk (Kd.S_lower (Kd.S_new' (Kd.S_new' ho0 (Kd.R_lt (mvR HO_11))) (Kd.S_lt (by (with_reducible repeat (first | apply Kd.S_alloc | apply Kd.S_drewN | apply Kd.S_drew)); exact HO337.out))) (below_size (mvB HB))); have n5_ := Aside0.mk (below_step (mvB HB) hb); clear HO_9; clear HO_10; clear HO_11; clear HO337; clear HB; have HO_9 := n0_; have HO_10 := n1_; have HO_11 := n2_; have HO337 := n3_; have HO341 := n4_; have HB := n5_; clear n0_ n1_ n2_ n3_ n4_ n5_; (try clear hb); (try clear hb2); (try clear hk); (try clear hi); (try clear ho0))))
       (try simp only [Act.put, List.setIfInBounds_toArray, List.set_cons_zero, List.set_cons_succ])
       go_cut [132] (fun v132 wc => ∃ (kq : Nat) (x132_38 : Bool), v132 = .bool x132_38 ∧ Aside0 (selvedgelaw15_RunsWithout.j3 kq x11_2 t334 t338 x132_38 = some r) ∧ Aside0 (kq ≤ k2) ∧ Aside0 (Kd.R (Kd.int .i64) 3 wc w.heap.size (fun _ => True) u11 x11_2) ∧ Aside0 (Kd.S k36 36 wc w.heap.size (fun k_ => some k_ ≠ (u11 : Value).ownBlock ∧ some k_ ≠ (v340 : Value).ownBlock) v336 t334) ∧ Aside0 (Kd.S k36 36 wc w.heap.size (fun k_ => some k_ ≠ (u11 : Value).ownBlock ∧ some k_ ≠ (v336 : Value).ownBlock) v340 t338) ∧ Aside0 (Below w.heap.size w wc))
       case first =>
        as_aux_lemma =>
        have H := HC39.out
        clear HC39
        by_cases c44 : t335 = 0
        ·rw [if_pos c44] at H
         have c44b0 : (t335 == 0) = true := beq_iff_eq.mpr c44
         have c44b1 : (t335 != 0) = false := bne_eq_false_iff_eq.mpr c44
         clear c44
         (first | rw [c44b0] | (simp only [i64_w, i32_w]; rw [c44b0]) | skip)
         by_cases c45 : t339 = 0
         ·rw [if_pos c45] at H
          have c45b0 : (t339 == 0) = true := beq_iff_eq.mpr c45
          have c45b1 : (t339 != 0) = false := bne_eq_false_iff_eq.mpr c45
          clear c45
          have H' := Aside0.mk H
          clear H
          obtain ⟨Ao46, co46, eo46⟩ := Kd.S_slice HO337.out
          subst eo46
          obtain ⟨Ao47, co47, eo47⟩ := Kd.S_slice HO341.out
          subst eo47
          go_wp2
          repeat (go_quiet (fail); try go_wp2)
          go_meet
          case rel => exact ⟨_, (((t334.length : Int) != (t338.length : Int))), (by first | rfl | (simp; done) | (simp [*]; done)), H', ⟨by have := HJ4.out; have := HK2.out; first | omega | exact Nat.le_refl _⟩, ⟨mvR HO_11⟩, ⟨by (with_reducible repeat (first | apply Kd.S_alloc | apply Kd.S_drewN | apply Kd.S_drew)); exact Kd.S_mono HO337.out (fun _ hk => ⟨hk.1.2, hk.2⟩)⟩, ⟨by (with_reducible repeat (first | apply Kd.S_alloc | apply Kd.S_drewN | apply Kd.S_drew)); exact Kd.S_mono HO341.out (fun _ hk => ⟨hk.1.2, hk.2⟩)⟩, ⟨mvB HB⟩⟩
         ·rw [if_neg c45] at H
          have c45b0 : (t339 == 0) = false := beq_eq_false_iff_ne.mpr c45
          have c45b1 : (t339 != 0) = true := bne_iff_ne.mpr c45
          have H' := Aside0.mk H
          clear H
          go_wp2
          repeat (go_quiet (fail); try go_wp2)
          go_meet
          case rel => exact ⟨_, (true), (by first | rfl | (simp; done) | (simp [*]; done)), H', ⟨by have := HJ4.out; have := HK2.out; first | omega | exact Nat.le_refl _⟩, ⟨mvR HO_11⟩, ⟨by (with_reducible repeat (first | apply Kd.S_alloc | apply Kd.S_drewN | apply Kd.S_drew)); exact Kd.S_mono HO337.out (fun _ hk => ⟨hk.1.2, hk.2⟩)⟩, ⟨by (with_reducible repeat (first | apply Kd.S_alloc | apply Kd.S_drewN | apply Kd.S_drew)); exact Kd.S_mono HO341.out (fun _ hk => ⟨hk.1.2, hk.2⟩)⟩, ⟨mvB HB⟩⟩
        ·rw [if_neg c44] at H
         have c44b0 : (t335 == 0) = false := beq_eq_false_iff_ne.mpr c44
         have c44b1 : (t335 != 0) = true := bne_iff_ne.mpr c44
         (first | rw [c44b0] | (simp only [i64_w, i32_w]; rw [c44b0]) | skip)
         have H' := Aside0.mk H
         clear H
         go_wp2
         repeat (go_quiet (fail); try go_wp2)
         go_meet
         case rel => exact ⟨_, (true), (by first | rfl | (simp; done) | (simp [*]; done)), H', ⟨by have := HJ4.out; have := HK2.out; first | omega | exact Nat.le_refl _⟩, ⟨mvR HO_11⟩, ⟨by (with_reducible repeat (first | apply Kd.S_alloc | apply Kd.S_drewN | apply Kd.S_drew)); exact Kd.S_mono HO337.out (fun _ hk => ⟨hk.1.2, hk.2⟩)⟩, ⟨by (with_reducible repeat (first | apply Kd.S_alloc | apply Kd.S_drewN | apply Kd.S_drew)); exact Kd.S_mono HO341.out (fun _ hk => ⟨hk.1.2, hk.2⟩)⟩, ⟨mvB HB⟩⟩
       case rest =>
        as_aux_lemma =>
        clear HC39
        try clear c1
        try clear c2
        try clear p2
        try clear c3
        try clear p3
        try clear q3
        try clear hx3
        try clear c4
        try clear c5
        try clear c6
        try clear c6b0
        try clear c6b1
        try clear p6
        try clear c7
        try clear c7b0
        try clear c7b1
        try clear c8
        try clear c11
        try clear c11b0
        try clear c12
        try clear c12b0
        try clear c13
        try clear c13b0
        try clear c14
        try clear c14b0
        try clear c14b1
        try clear c15
        try clear c15b0
        try clear c15b1
        try clear c17
        try clear c17b0
        try clear c18
        try clear c18b0
        try clear c19
        try clear c20
        try clear c21
        try clear c28
        try clear c28b0
        try clear c29
        try clear c29b0
        try clear c30
        try clear p30
        try clear q30
        try clear hx30
        try clear c31
        try clear c31b0
        try clear p31
        try clear q31
        try clear hx31
        try clear c32
        try clear p32
        try clear q32
        try clear hx32
        try clear c33
        try clear c44
        try clear c44b0
        try clear c44b1
        try clear c45
        try clear c45b0
        try clear c45b1
        try clear hx307_0
        try clear hx311_0
        try clear hx312_0
        try clear hx316_0
        try clear hx323_0
        try clear hx327_0
        try clear p2
        try clear p307
        try clear p311
        try clear p312
        try clear p316
        try clear p323
        try clear p327
        try clear q307
        try clear q311
        try clear q312
        try clear q316
        try clear q323
        try clear q327
        obtain ⟨kq, x132_38, rfl, HA, HJ38, HO_11, HO_14, HO_16, HB⟩ := hcut
        cases kq with
        | zero => exact absurd HA.out (by simp [selvedgelaw15_RunsWithout.j3])
        | succ kj38 =>
         have H := HA.out
         clear HA
         simp only [selvedgelaw15_RunsWithout.j3] at H
         by_cases c48 : x132_38 = true
         ·subst c48
          have H1 : (some false) = some r := by rw [if_pos rfl] at H; exact H
          clear H
          have H := H1
          clear H1
          obtain rfl := Option.some.inj H
          go_wp2
          repeat (go_quiet (fail); try go_wp2)
          go_ret
          exact ⟨by first | rfl | (simp [errW_none, errW_some] <;> rfl) | (simp [*, errW_none, errW_some] <;> rfl), mvB HB⟩
         ·replace c48 := Bool.eq_false_iff.mpr c48
          subst c48
          have H1 : (selvedgelaw15_RunsWithout.l2 kj38 x11_2 t334 t338 0) = some r := by rw [if_neg (show ¬ (false = true) by decide)] at H; exact H
          clear H
          have H := H1
          clear H1
          have H' := Aside0.mk H
          clear H
          go_wp2
          repeat (go_quiet (fail); try go_wp2)
          go_loopg [18] kj38 (fun kq v18 w' => ∃ (x18_4 : Int), v18 = .int .i64 x18_4 ∧ Aside0 (selvedgelaw15_RunsWithout.l2 kq x11_2 t334 t338 x18_4 = some r) ∧ Aside0 (kq ≤ kj38) ∧ Aside0 (Kd.R (Kd.int .i64) 3 w' w.heap.size (fun _ => True) u11 x11_2) ∧ Aside0 (Kd.S k36 36 w' w.heap.size (fun k_ => some k_ ≠ (u11 : Value).ownBlock ∧ some k_ ≠ (v340 : Value).ownBlock) v336 t334) ∧ Aside0 (Kd.S k36 36 w' w.heap.size (fun k_ => some k_ ≠ (u11 : Value).ownBlock ∧ some k_ ≠ (v336 : Value).ownBlock) v340 t338) ∧ Aside0 (Below w.heap.size w w'))
          case atStart => exact ⟨(0), (by first | rfl | (simp; done) | (simp [*]; done)), H', ⟨Nat.le_refl _⟩, ⟨mvR HO_11⟩, ⟨by (with_reducible repeat (first | apply Kd.S_alloc | apply Kd.S_drewN | apply Kd.S_drew)); exact HO_14.out⟩, ⟨by (with_reducible repeat (first | apply Kd.S_alloc | apply Kd.S_drewN | apply Kd.S_drew)); exact HO_16.out⟩, ⟨mvB HB⟩⟩
          case round =>
           as_aux_lemma =>
           clear H'
           try clear c1
           try clear c2
           try clear p2
           try clear c3
           try clear p3
           try clear q3
           try clear hx3
           try clear c4
           try clear c5
           try clear c6
           try clear c6b0
           try clear c6b1
           try clear p6
           try clear c7
           try clear c7b0
           try clear c7b1
           try clear c8
           try clear c11
           try clear c11b0
           try clear c12
           try clear c12b0
           try clear c13
           try clear c13b0
           try clear c14
           try clear c14b0
           try clear c14b1
           try clear c15
           try clear c15b0
           try clear c15b1
           try clear c17
           try clear c17b0
           try clear c18
           try clear c18b0
           try clear c19
           try clear c20
           try clear c21
           try clear c28
           try clear c28b0
           try clear c29
           try clear c29b0
           try clear c30
           try clear p30
           try clear q30
           try clear hx30
           try clear c31
           try clear c31b0
           try clear p31
           try clear q31
           try clear hx31
           try clear c32
           try clear p32
           try clear q32
           try clear hx32
           try clear c33
           try clear c44
           try clear c44b0
           try clear c44b1
           try clear c45
           try clear c45b0
           try clear c45b1
           try clear c48
           try clear hx307_0
           try clear hx311_0
           try clear hx312_0
           try clear hx316_0
           try clear hx323_0
           try clear hx327_0
           try clear p2
           try clear p3
           try clear p30
           try clear p307
           try clear p31
           try clear p311
           try clear p312
           try clear p316
           try clear p32
           try clear p323
           try clear p327
           try clear p6
           try clear q3
           try clear q30
           try clear q307
           try clear q31
           try clear q311
           try clear q312
           try clear q316
           try clear q32
           try clear q323
           try clear q327
           obtain ⟨x18_4, rfl, HA, HK4, HO_11, HO_14, HO_16, HB⟩ := hrel
           cases gk with
           | zero => exact absurd HA.out (by simp [selvedgelaw15_RunsWithout.l2])
           | succ k4 =>
            have H := HA.out
            clear HA
            simp only [selvedgelaw15_RunsWithout.l2] at H
            by_cases c49 : x18_4 < (t334.length : Int)
            ·rw [if_pos c49] at H
             have c49b0 : decide (x18_4 < (t334.length : Int)) = true := decide_eq_true c49
             clear c49
             have HC50 := Aside0.mk H
             clear H
             obtain ⟨Ao51, co51, eo51⟩ := Kd.S_slice HO_14.out
             subst eo51
             go_upto_region 27 with (fail)
             repeat (go_quiet (fail); go_upto_region 27 with (fail))
             go_cut [190] (fun v190 wc => ∃ (kq : Nat) (x190_49 : Bool), v190 = .bool x190_49 ∧ Aside0 (selvedgelaw15_RunsWithout.j5 kq x11_2 t334 t338 x18_4 x190_49 = some r) ∧ Aside0 (kq ≤ k4) ∧ Aside0 (Kd.R (Kd.int .i64) 3 wc w.heap.size (fun _ => True) u11 x11_2) ∧ Aside0 (Kd.S k36 36 wc w.heap.size (fun k_ => some k_ ≠ (u11 : Value).ownBlock ∧ some k_ ≠ (v340 : Value).ownBlock) (.slice Ao51 t334.length co51) t334) ∧ Aside0 (Kd.S k36 36 wc w.heap.size (fun k_ => some k_ ≠ (u11 : Value).ownBlock ∧ some k_ ≠ ((.slice Ao51 t334.length co51) : Value).ownBlock) v340 t338) ∧ Aside0 (Below w.heap.size w wc))
             case first =>
              as_aux_lemma =>
              have H := HC50.out
              clear HC50
              by_cases c52 : 0 ≤ x18_4
              ·rw [if_pos c52] at H
               have c52b0 : decide (0 ≤ x18_4) = true := decide_eq_true c52
               clear c52
               (first | rw [c52b0] | (simp only [i64_w, i32_w]; rw [c52b0]) | skip)
               by_cases c53 : x18_4 < (t338.length : Int)
               ·rw [if_pos c53] at H
                have c53b0 : decide (x18_4 < (t338.length : Int)) = true := decide_eq_true c53
                clear c53
                by_cases c54 : (((rd_T36 t334 x18_4).f0).length : Int) = (((rd_T36 t338 x18_4).f0).length : Int)
                ·rw [if_pos c54] at H
                 have c54b0 : ((((rd_T36 t334 x18_4).f0).length : Int) == (((rd_T36 t338 x18_4).f0).length : Int)) = true := beq_iff_eq.mpr c54
                 have c54b1 : ((((rd_T36 t334 x18_4).f0).length : Int) != (((rd_T36 t338 x18_4).f0).length : Int)) = false := bne_eq_false_iff_eq.mpr c54
                 have c54b2 : (((rd_T36 t334 x18_4).f0).length == ((rd_T36 t338 x18_4).f0).length) = true := by first | simpa using c54 | (simp at c54 ⊢; omega)
                 clear c54
                 by_cases c55 : ((rd_T36 t334 x18_4).f1) = ((rd_T36 t338 x18_4).f1)
                 ·rw [if_pos c55] at H
                  have c55b0 : (((rd_T36 t334 x18_4).f1) == ((rd_T36 t338 x18_4).f1)) = true := beq_iff_eq.mpr c55
                  have c55b1 : (((rd_T36 t334 x18_4).f1) != ((rd_T36 t338 x18_4).f1)) = false := bne_eq_false_iff_eq.mpr c55
                  clear c55
                  by_cases c56 : ((rd_T36 t334 x18_4).f2) = ((rd_T36 t338 x18_4).f2)
                  ·rw [if_pos c56] at H
                   have c56b0 : (((rd_T36 t334 x18_4).f2) == ((rd_T36 t338 x18_4).f2)) = true := beq_iff_eq.mpr c56
                   have c56b1 : (((rd_T36 t334 x18_4).f2) != ((rd_T36 t338 x18_4).f2)) = false := bne_eq_false_iff_eq.mpr c56
                   clear c56
                   have H' := Aside0.mk H
                   clear H
                   have p343 := dT (0 ≤ (x18_4 : Int))
                   have q343 := dT (x18_4 < (t334.length : Int))
                   obtain ⟨ad343, A343_0, c343_0, e343, hx343_0, hx343_1, hx343_2, hx343_3, hl343_0, hi343_0⟩ := at_T36 (Kd.S_reads' HO_14.out).2.2 x18_4 p343 q343
                   cases e343
                   obtain ⟨ce343, hce343, hMe343, hcc343⟩ := Kd.S_get HO_14.out z36 x18_4 p343 (by first | exact q343 | exact of_decide_eq_true (by first | (with_reducible assumption) | assumption) | (have e_ := (Kd.S_reads' HO_14.out).1; omega))
                   obtain ⟨ve343_0, rfl, ge343_0⟩ := k36_openM hMe343
                   have hv343_0 := hcc343 0 _ rfl
                   rw [Nat.add_zero] at hv343_0
                   replace hv343_0 := Option.some.inj (hv343_0.symm.trans hx343_0)
                   rw [hv343_0] at ge343_0
                   have HL343_0 := Aside0.mk (show Kd.R (Kd.int .i64) 3 _ _ _ _ ((rd_T36 t334 x18_4).f0) from ge343_0)
                   clear hv343_0 ge343_0
                   clear hcc343 hce343
                   have HR343_0 := Aside0.mk hi343_0
                   have HC343_0 := Aside0.mk hl343_0
                   clear hi343_0 hl343_0
                   replace p343 := eq_true p343
                   replace q343 := eq_true q343
                   obtain ⟨Ao57, co57, eo57⟩ := Kd.S_slice HO_16.out
                   subst eo57
                   have p344 := dT (0 ≤ (x18_4 : Int))
                   have q344 := dT (x18_4 < (t338.length : Int))
                   obtain ⟨ad344, A344_0, c344_0, e344, hx344_0, hx344_1, hx344_2, hx344_3, hl344_0, hi344_0⟩ := at_T36 (Kd.S_reads' HO_16.out).2.2 x18_4 p344 q344
                   cases e344
                   obtain ⟨ce344, hce344, hMe344, hcc344⟩ := Kd.S_get HO_16.out z36 x18_4 p344 (by first | exact q344 | exact of_decide_eq_true (by first | (with_reducible assumption) | assumption) | (have e_ := (Kd.S_reads' HO_16.out).1; omega))
                   obtain ⟨ve344_0, rfl, ge344_0⟩ := k36_openM hMe344
                   have hv344_0 := hcc344 0 _ rfl
                   rw [Nat.add_zero] at hv344_0
                   replace hv344_0 := Option.some.inj (hv344_0.symm.trans hx344_0)
                   rw [hv344_0] at ge344_0
                   have HL344_0 := Aside0.mk (show Kd.R (Kd.int .i64) 3 _ _ _ _ ((rd_T36 t338 x18_4).f0) from ge344_0)
                   clear hv344_0 ge344_0
                   clear hcc344 hce344
                   have HR344_0 := Aside0.mk hi344_0
                   have HC344_0 := Aside0.mk hl344_0
                   clear hi344_0 hl344_0
                   replace p344 := eq_true p344
                   replace q344 := eq_true q344
                   have p345 := dT (0 ≤ (x18_4 : Int))
                   have q345 := dT (x18_4 < (t334.length : Int))
                   obtain ⟨ad345, A345_0, c345_0, e345, hx345_0, hx345_1, hx345_2, hx345_3, hl345_0, hi345_0⟩ := at_T36 (Kd.S_reads' HO_14.out).2.2 x18_4 p345 q345
                   obtain rfl : ad343 = ad345 := (by injection e345)
                   obtain ⟨ce345, hce345, hMe345, hcc345⟩ := Kd.S_get HO_14.out z36 x18_4 p345 (by first | exact q345 | exact of_decide_eq_true (by first | (with_reducible assumption) | assumption) | (have e_ := (Kd.S_reads' HO_14.out).1; omega))
                   obtain ⟨ve345_0, rfl, ge345_0⟩ := k36_openM hMe345
                   have hv345_0 := hcc345 0 _ rfl
                   rw [Nat.add_zero] at hv345_0
                   replace hv345_0 := Option.some.inj (hv345_0.symm.trans hx345_0)
                   rw [hv345_0] at ge345_0
                   have HL345_0 := Aside0.mk (show Kd.R (Kd.int .i64) 3 _ _ _ _ ((rd_T36 t334 x18_4).f0) from ge345_0)
                   clear hv345_0 ge345_0
                   clear hcc345 hce345
                   have HR345_0 := Aside0.mk hi345_0
                   have HC345_0 := Aside0.mk hl345_0
                   clear hi345_0 hl345_0
                   replace p345 := eq_true p345
                   replace q345 := eq_true q345
                   have ea_ := Option.some.inj (hx343_0.symm.trans hx345_0)
                   injection ea_ with ea_ en_ ec_
                   subst ea_
                   subst ec_
                   clear en_
                   have p346 := dT (0 ≤ (x18_4 : Int))
                   have q346 := dT (x18_4 < (t338.length : Int))
                   obtain ⟨ad346, A346_0, c346_0, e346, hx346_0, hx346_1, hx346_2, hx346_3, hl346_0, hi346_0⟩ := at_T36 (Kd.S_reads' HO_16.out).2.2 x18_4 p346 q346
                   obtain rfl : ad344 = ad346 := (by injection e346)
                   obtain ⟨ce346, hce346, hMe346, hcc346⟩ := Kd.S_get HO_16.out z36 x18_4 p346 (by first | exact q346 | exact of_decide_eq_true (by first | (with_reducible assumption) | assumption) | (have e_ := (Kd.S_reads' HO_16.out).1; omega))
                   obtain ⟨ve346_0, rfl, ge346_0⟩ := k36_openM hMe346
                   have hv346_0 := hcc346 0 _ rfl
                   rw [Nat.add_zero] at hv346_0
                   replace hv346_0 := Option.some.inj (hv346_0.symm.trans hx346_0)
                   rw [hv346_0] at ge346_0
                   have HL346_0 := Aside0.mk (show Kd.R (Kd.int .i64) 3 _ _ _ _ ((rd_T36 t338 x18_4).f0) from ge346_0)
                   clear hv346_0 ge346_0
                   clear hcc346 hce346
                   have HR346_0 := Aside0.mk hi346_0
                   have HC346_0 := Aside0.mk hl346_0
                   clear hi346_0 hl346_0
                   replace p346 := eq_true p346
                   replace q346 := eq_true q346
                   have ea_ := Option.some.inj (hx344_0.symm.trans hx346_0)
                   injection ea_ with ea_ en_ ec_
                   subst ea_
                   subst ec_
                   clear en_
                   have p347 := dT (0 ≤ (x18_4 : Int))
                   have q347 := dT (x18_4 < (t334.length : Int))
                   obtain ⟨ad347, A347_0, c347_0, e347, hx347_0, hx347_1, hx347_2, hx347_3, hl347_0, hi347_0⟩ := at_T36 (Kd.S_reads' HO_14.out).2.2 x18_4 p347 q347
                   obtain rfl : ad343 = ad347 := (by injection e347)
                   obtain ⟨ce347, hce347, hMe347, hcc347⟩ := Kd.S_get HO_14.out z36 x18_4 p347 (by first | exact q347 | exact of_decide_eq_true (by first | (with_reducible assumption) | assumption) | (have e_ := (Kd.S_reads' HO_14.out).1; omega))
                   obtain ⟨ve347_0, rfl, ge347_0⟩ := k36_openM hMe347
                   have hv347_0 := hcc347 0 _ rfl
                   rw [Nat.add_zero] at hv347_0
                   replace hv347_0 := Option.some.inj (hv347_0.symm.trans hx347_0)
                   rw [hv347_0] at ge347_0
                   have HL347_0 := Aside0.mk (show Kd.R (Kd.int .i64) 3 _ _ _ _ ((rd_T36 t334 x18_4).f0) from ge347_0)
                   clear hv347_0 ge347_0
                   clear hcc347 hce347
                   have HR347_0 := Aside0.mk hi347_0
                   have HC347_0 := Aside0.mk hl347_0
                   clear hi347_0 hl347_0
                   replace p347 := eq_true p347
                   replace q347 := eq_true q347
                   have ea_ := Option.some.inj (hx343_0.symm.trans hx347_0)
                   injection ea_ with ea_ en_ ec_
                   subst ea_
                   subst ec_
                   clear en_
                   have p348 := dT (0 ≤ (x18_4 : Int))
                   have q348 := dT (x18_4 < (t338.length : Int))
                   obtain ⟨ad348, A348_0, c348_0, e348, hx348_0, hx348_1, hx348_2, hx348_3, hl348_0, hi348_0⟩ := at_T36 (Kd.S_reads' HO_16.out).2.2 x18_4 p348 q348
                   obtain rfl : ad344 = ad348 := (by injection e348)
                   obtain ⟨ce348, hce348, hMe348, hcc348⟩ := Kd.S_get HO_16.out z36 x18_4 p348 (by first | exact q348 | exact of_decide_eq_true (by first | (with_reducible assumption) | assumption) | (have e_ := (Kd.S_reads' HO_16.out).1; omega))
                   obtain ⟨ve348_0, rfl, ge348_0⟩ := k36_openM hMe348
                   have hv348_0 := hcc348 0 _ rfl
                   rw [Nat.add_zero] at hv348_0
                   replace hv348_0 := Option.some.inj (hv348_0.symm.trans hx348_0)
                   rw [hv348_0] at ge348_0
                   have HL348_0 := Aside0.mk (show Kd.R (Kd.int .i64) 3 _ _ _ _ ((rd_T36 t338 x18_4).f0) from ge348_0)
                   clear hv348_0 ge348_0
                   clear hcc348 hce348
                   have HR348_0 := Aside0.mk hi348_0
                   have HC348_0 := Aside0.mk hl348_0
                   clear hi348_0 hl348_0
                   replace p348 := eq_true p348
                   replace q348 := eq_true q348
                   have ea_ := Option.some.inj (hx344_0.symm.trans hx348_0)
                   injection ea_ with ea_ en_ ec_
                   subst ea_
                   subst ec_
                   clear en_
                   have p349 := dT (0 ≤ (x18_4 : Int))
                   have q349 := dT (x18_4 < (t334.length : Int))
                   obtain ⟨ad349, A349_0, c349_0, e349, hx349_0, hx349_1, hx349_2, hx349_3, hl349_0, hi349_0⟩ := at_T36 (Kd.S_reads' HO_14.out).2.2 x18_4 p349 q349
                   obtain rfl : ad343 = ad349 := (by injection e349)
                   obtain ⟨ce349, hce349, hMe349, hcc349⟩ := Kd.S_get HO_14.out z36 x18_4 p349 (by first | exact q349 | exact of_decide_eq_true (by first | (with_reducible assumption) | assumption) | (have e_ := (Kd.S_reads' HO_14.out).1; omega))
                   obtain ⟨ve349_0, rfl, ge349_0⟩ := k36_openM hMe349
                   have hv349_0 := hcc349 0 _ rfl
                   rw [Nat.add_zero] at hv349_0
                   replace hv349_0 := Option.some.inj (hv349_0.symm.trans hx349_0)
                   rw [hv349_0] at ge349_0
                   have HL349_0 := Aside0.mk (show Kd.R (Kd.int .i64) 3 _ _ _ _ ((rd_T36 t334 x18_4).f0) from ge349_0)
                   clear hv349_0 ge349_0
                   clear hcc349 hce349
                   have HR349_0 := Aside0.mk hi349_0
                   have HC349_0 := Aside0.mk hl349_0
                   clear hi349_0 hl349_0
                   replace p349 := eq_true p349
                   replace q349 := eq_true q349
                   have ea_ := Option.some.inj (hx343_0.symm.trans hx349_0)
                   injection ea_ with ea_ en_ ec_
                   subst ea_
                   subst ec_
                   clear en_
                   have p350 := dT (0 ≤ (x18_4 : Int))
                   have q350 := dT (x18_4 < (t338.length : Int))
                   obtain ⟨ad350, A350_0, c350_0, e350, hx350_0, hx350_1, hx350_2, hx350_3, hl350_0, hi350_0⟩ := at_T36 (Kd.S_reads' HO_16.out).2.2 x18_4 p350 q350
                   obtain rfl : ad344 = ad350 := (by injection e350)
                   obtain ⟨ce350, hce350, hMe350, hcc350⟩ := Kd.S_get HO_16.out z36 x18_4 p350 (by first | exact q350 | exact of_decide_eq_true (by first | (with_reducible assumption) | assumption) | (have e_ := (Kd.S_reads' HO_16.out).1; omega))
                   obtain ⟨ve350_0, rfl, ge350_0⟩ := k36_openM hMe350
                   have hv350_0 := hcc350 0 _ rfl
                   rw [Nat.add_zero] at hv350_0
                   replace hv350_0 := Option.some.inj (hv350_0.symm.trans hx350_0)
                   rw [hv350_0] at ge350_0
                   have HL350_0 := Aside0.mk (show Kd.R (Kd.int .i64) 3 _ _ _ _ ((rd_T36 t338 x18_4).f0) from ge350_0)
                   clear hv350_0 ge350_0
                   clear hcc350 hce350
                   have HR350_0 := Aside0.mk hi350_0
                   have HC350_0 := Aside0.mk hl350_0
                   clear hi350_0 hl350_0
                   replace p350 := eq_true p350
                   replace q350 := eq_true q350
                   have ea_ := Option.some.inj (hx344_0.symm.trans hx350_0)
                   injection ea_ with ea_ en_ ec_
                   subst ea_
                   subst ec_
                   clear en_
                   go_wp2
                   repeat (go_quiet (fail); try go_wp2)
                   go_meet
                   case rel => exact ⟨_, ((((rd_T36 t334 x18_4).f3) != ((rd_T36 t338 x18_4).f3))), (by first | rfl | (simp; done) | (simp [*]; done)), H', ⟨by have := HJ4.out; have := HK2.out; have := HJ38.out; have := HK4.out; first | omega | exact Nat.le_refl _⟩, ⟨mvR HO_11⟩, ⟨by (with_reducible repeat (first | apply Kd.S_alloc | apply Kd.S_drewN | apply Kd.S_drew)); exact HO_14.out⟩, ⟨by (with_reducible repeat (first | apply Kd.S_alloc | apply Kd.S_drewN | apply Kd.S_drew)); exact HO_16.out⟩, ⟨mvB HB⟩⟩
                  ·rw [if_neg c56] at H
                   have c56b0 : (((rd_T36 t334 x18_4).f2) == ((rd_T36 t338 x18_4).f2)) = false := beq_eq_false_iff_ne.mpr c56
                   have c56b1 : (((rd_T36 t334 x18_4).f2) != ((rd_T36 t338 x18_4).f2)) = true := bne_iff_ne.mpr c56
                   have H' := Aside0.mk H
                   clear H
                   have p343 := dT (0 ≤ (x18_4 : Int))
                   have q343 := dT (x18_4 < (t334.length : Int))
                   obtain ⟨ad343, A343_0, c343_0, e343, hx343_0, hx343_1, hx343_2, hx343_3, hl343_0, hi343_0⟩ := at_T36 (Kd.S_reads' HO_14.out).2.2 x18_4 p343 q343
                   cases e343
                   obtain ⟨ce343, hce343, hMe343, hcc343⟩ := Kd.S_get HO_14.out z36 x18_4 p343 (by first | exact q343 | exact of_decide_eq_true (by first | (with_reducible assumption) | assumption) | (have e_ := (Kd.S_reads' HO_14.out).1; omega))
                   obtain ⟨ve343_0, rfl, ge343_0⟩ := k36_openM hMe343
                   have hv343_0 := hcc343 0 _ rfl
                   rw [Nat.add_zero] at hv343_0
                   replace hv343_0 := Option.some.inj (hv343_0.symm.trans hx343_0)
                   rw [hv343_0] at ge343_0
                   have HL343_0 := Aside0.mk (show Kd.R (Kd.int .i64) 3 _ _ _ _ ((rd_T36 t334 x18_4).f0) from ge343_0)
                   clear hv343_0 ge343_0
                   clear hcc343 hce343
                   have HR343_0 := Aside0.mk hi343_0
                   have HC343_0 := Aside0.mk hl343_0
                   clear hi343_0 hl343_0
                   replace p343 := eq_true p343
                   replace q343 := eq_true q343
                   obtain ⟨Ao58, co58, eo58⟩ := Kd.S_slice HO_16.out
                   subst eo58
                   have p344 := dT (0 ≤ (x18_4 : Int))
                   have q344 := dT (x18_4 < (t338.length : Int))
                   obtain ⟨ad344, A344_0, c344_0, e344, hx344_0, hx344_1, hx344_2, hx344_3, hl344_0, hi344_0⟩ := at_T36 (Kd.S_reads' HO_16.out).2.2 x18_4 p344 q344
                   cases e344
                   obtain ⟨ce344, hce344, hMe344, hcc344⟩ := Kd.S_get HO_16.out z36 x18_4 p344 (by first | exact q344 | exact of_decide_eq_true (by first | (with_reducible assumption) | assumption) | (have e_ := (Kd.S_reads' HO_16.out).1; omega))
                   obtain ⟨ve344_0, rfl, ge344_0⟩ := k36_openM hMe344
                   have hv344_0 := hcc344 0 _ rfl
                   rw [Nat.add_zero] at hv344_0
                   replace hv344_0 := Option.some.inj (hv344_0.symm.trans hx344_0)
                   rw [hv344_0] at ge344_0
                   have HL344_0 := Aside0.mk (show Kd.R (Kd.int .i64) 3 _ _ _ _ ((rd_T36 t338 x18_4).f0) from ge344_0)
                   clear hv344_0 ge344_0
                   clear hcc344 hce344
                   have HR344_0 := Aside0.mk hi344_0
                   have HC344_0 := Aside0.mk hl344_0
                   clear hi344_0 hl344_0
                   replace p344 := eq_true p344
                   replace q344 := eq_true q344
                   have p345 := dT (0 ≤ (x18_4 : Int))
                   have q345 := dT (x18_4 < (t334.length : Int))
                   obtain ⟨ad345, A345_0, c345_0, e345, hx345_0, hx345_1, hx345_2, hx345_3, hl345_0, hi345_0⟩ := at_T36 (Kd.S_reads' HO_14.out).2.2 x18_4 p345 q345
                   obtain rfl : ad343 = ad345 := (by injection e345)
                   obtain ⟨ce345, hce345, hMe345, hcc345⟩ := Kd.S_get HO_14.out z36 x18_4 p345 (by first | exact q345 | exact of_decide_eq_true (by first | (with_reducible assumption) | assumption) | (have e_ := (Kd.S_reads' HO_14.out).1; omega))
                   obtain ⟨ve345_0, rfl, ge345_0⟩ := k36_openM hMe345
                   have hv345_0 := hcc345 0 _ rfl
                   rw [Nat.add_zero] at hv345_0
                   replace hv345_0 := Option.some.inj (hv345_0.symm.trans hx345_0)
                   rw [hv345_0] at ge345_0
                   have HL345_0 := Aside0.mk (show Kd.R (Kd.int .i64) 3 _ _ _ _ ((rd_T36 t334 x18_4).f0) from ge345_0)
                   clear hv345_0 ge345_0
                   clear hcc345 hce345
                   have HR345_0 := Aside0.mk hi345_0
                   have HC345_0 := Aside0.mk hl345_0
                   clear hi345_0 hl345_0
                   replace p345 := eq_true p345
                   replace q345 := eq_true q345
                   have ea_ := Option.some.inj (hx343_0.symm.trans hx345_0)
                   injection ea_ with ea_ en_ ec_
                   subst ea_
                   subst ec_
                   clear en_
                   have p346 := dT (0 ≤ (x18_4 : Int))
                   have q346 := dT (x18_4 < (t338.length : Int))
                   obtain ⟨ad346, A346_0, c346_0, e346, hx346_0, hx346_1, hx346_2, hx346_3, hl346_0, hi346_0⟩ := at_T36 (Kd.S_reads' HO_16.out).2.2 x18_4 p346 q346
                   obtain rfl : ad344 = ad346 := (by injection e346)
                   obtain ⟨ce346, hce346, hMe346, hcc346⟩ := Kd.S_get HO_16.out z36 x18_4 p346 (by first | exact q346 | exact of_decide_eq_true (by first | (with_reducible assumption) | assumption) | (have e_ := (Kd.S_reads' HO_16.out).1; omega))
                   obtain ⟨ve346_0, rfl, ge346_0⟩ := k36_openM hMe346
                   have hv346_0 := hcc346 0 _ rfl
                   rw [Nat.add_zero] at hv346_0
                   replace hv346_0 := Option.some.inj (hv346_0.symm.trans hx346_0)
                   rw [hv346_0] at ge346_0
                   have HL346_0 := Aside0.mk (show Kd.R (Kd.int .i64) 3 _ _ _ _ ((rd_T36 t338 x18_4).f0) from ge346_0)
                   clear hv346_0 ge346_0
                   clear hcc346 hce346
                   have HR346_0 := Aside0.mk hi346_0
                   have HC346_0 := Aside0.mk hl346_0
                   clear hi346_0 hl346_0
                   replace p346 := eq_true p346
                   replace q346 := eq_true q346
                   have ea_ := Option.some.inj (hx344_0.symm.trans hx346_0)
                   injection ea_ with ea_ en_ ec_
                   subst ea_
                   subst ec_
                   clear en_
                   have p347 := dT (0 ≤ (x18_4 : Int))
                   have q347 := dT (x18_4 < (t334.length : Int))
                   obtain ⟨ad347, A347_0, c347_0, e347, hx347_0, hx347_1, hx347_2, hx347_3, hl347_0, hi347_0⟩ := at_T36 (Kd.S_reads' HO_14.out).2.2 x18_4 p347 q347
                   obtain rfl : ad343 = ad347 := (by injection e347)
                   obtain ⟨ce347, hce347, hMe347, hcc347⟩ := Kd.S_get HO_14.out z36 x18_4 p347 (by first | exact q347 | exact of_decide_eq_true (by first | (with_reducible assumption) | assumption) | (have e_ := (Kd.S_reads' HO_14.out).1; omega))
                   obtain ⟨ve347_0, rfl, ge347_0⟩ := k36_openM hMe347
                   have hv347_0 := hcc347 0 _ rfl
                   rw [Nat.add_zero] at hv347_0
                   replace hv347_0 := Option.some.inj (hv347_0.symm.trans hx347_0)
                   rw [hv347_0] at ge347_0
                   have HL347_0 := Aside0.mk (show Kd.R (Kd.int .i64) 3 _ _ _ _ ((rd_T36 t334 x18_4).f0) from ge347_0)
                   clear hv347_0 ge347_0
                   clear hcc347 hce347
                   have HR347_0 := Aside0.mk hi347_0
                   have HC347_0 := Aside0.mk hl347_0
                   clear hi347_0 hl347_0
                   replace p347 := eq_true p347
                   replace q347 := eq_true q347
                   have ea_ := Option.some.inj (hx343_0.symm.trans hx347_0)
                   injection ea_ with ea_ en_ ec_
                   subst ea_
                   subst ec_
                   clear en_
                   have p348 := dT (0 ≤ (x18_4 : Int))
                   have q348 := dT (x18_4 < (t338.length : Int))
                   obtain ⟨ad348, A348_0, c348_0, e348, hx348_0, hx348_1, hx348_2, hx348_3, hl348_0, hi348_0⟩ := at_T36 (Kd.S_reads' HO_16.out).2.2 x18_4 p348 q348
                   obtain rfl : ad344 = ad348 := (by injection e348)
                   obtain ⟨ce348, hce348, hMe348, hcc348⟩ := Kd.S_get HO_16.out z36 x18_4 p348 (by first | exact q348 | exact of_decide_eq_true (by first | (with_reducible assumption) | assumption) | (have e_ := (Kd.S_reads' HO_16.out).1; omega))
                   obtain ⟨ve348_0, rfl, ge348_0⟩ := k36_openM hMe348
                   have hv348_0 := hcc348 0 _ rfl
                   rw [Nat.add_zero] at hv348_0
                   replace hv348_0 := Option.some.inj (hv348_0.symm.trans hx348_0)
                   rw [hv348_0] at ge348_0
                   have HL348_0 := Aside0.mk (show Kd.R (Kd.int .i64) 3 _ _ _ _ ((rd_T36 t338 x18_4).f0) from ge348_0)
                   clear hv348_0 ge348_0
                   clear hcc348 hce348
                   have HR348_0 := Aside0.mk hi348_0
                   have HC348_0 := Aside0.mk hl348_0
                   clear hi348_0 hl348_0
                   replace p348 := eq_true p348
                   replace q348 := eq_true q348
                   have ea_ := Option.some.inj (hx344_0.symm.trans hx348_0)
                   injection ea_ with ea_ en_ ec_
                   subst ea_
                   subst ec_
                   clear en_
                   go_wp2
                   repeat (go_quiet (fail); try go_wp2)
                   go_meet
                   case rel => exact ⟨_, (true), (by first | rfl | (simp; done) | (simp [*]; done)), H', ⟨by have := HJ4.out; have := HK2.out; have := HJ38.out; have := HK4.out; first | omega | exact Nat.le_refl _⟩, ⟨mvR HO_11⟩, ⟨by (with_reducible repeat (first | apply Kd.S_alloc | apply Kd.S_drewN | apply Kd.S_drew)); exact HO_14.out⟩, ⟨by (with_reducible repeat (first | apply Kd.S_alloc | apply Kd.S_drewN | apply Kd.S_drew)); exact HO_16.out⟩, ⟨mvB HB⟩⟩
                 ·rw [if_neg c55] at H
                  have c55b0 : (((rd_T36 t334 x18_4).f1) == ((rd_T36 t338 x18_4).f1)) = false := beq_eq_false_iff_ne.mpr c55
                  have c55b1 : (((rd_T36 t334 x18_4).f1) != ((rd_T36 t338 x18_4).f1)) = true := bne_iff_ne.mpr c55
                  have H' := Aside0.mk H
                  clear H
                  have p343 := dT (0 ≤ (x18_4 : Int))
                  have q343 := dT (x18_4 < (t334.length : Int))
                  obtain ⟨ad343, A343_0, c343_0, e343, hx343_0, hx343_1, hx343_2, hx343_3, hl343_0, hi343_0⟩ := at_T36 (Kd.S_reads' HO_14.out).2.2 x18_4 p343 q343
                  cases e343
                  obtain ⟨ce343, hce343, hMe343, hcc343⟩ := Kd.S_get HO_14.out z36 x18_4 p343 (by first | exact q343 | exact of_decide_eq_true (by first | (with_reducible assumption) | assumption) | (have e_ := (Kd.S_reads' HO_14.out).1; omega))
                  obtain ⟨ve343_0, rfl, ge343_0⟩ := k36_openM hMe343
                  have hv343_0 := hcc343 0 _ rfl
                  rw [Nat.add_zero] at hv343_0
                  replace hv343_0 := Option.some.inj (hv343_0.symm.trans hx343_0)
                  rw [hv343_0] at ge343_0
                  have HL343_0 := Aside0.mk (show Kd.R (Kd.int .i64) 3 _ _ _ _ ((rd_T36 t334 x18_4).f0) from ge343_0)
                  clear hv343_0 ge343_0
                  clear hcc343 hce343
                  have HR343_0 := Aside0.mk hi343_0
                  have HC343_0 := Aside0.mk hl343_0
                  clear hi343_0 hl343_0
                  replace p343 := eq_true p343
                  replace q343 := eq_true q343
                  obtain ⟨Ao59, co59, eo59⟩ := Kd.S_slice HO_16.out
                  subst eo59
                  have p344 := dT (0 ≤ (x18_4 : Int))
                  have q344 := dT (x18_4 < (t338.length : Int))
                  obtain ⟨ad344, A344_0, c344_0, e344, hx344_0, hx344_1, hx344_2, hx344_3, hl344_0, hi344_0⟩ := at_T36 (Kd.S_reads' HO_16.out).2.2 x18_4 p344 q344
                  cases e344
                  obtain ⟨ce344, hce344, hMe344, hcc344⟩ := Kd.S_get HO_16.out z36 x18_4 p344 (by first | exact q344 | exact of_decide_eq_true (by first | (with_reducible assumption) | assumption) | (have e_ := (Kd.S_reads' HO_16.out).1; omega))
                  obtain ⟨ve344_0, rfl, ge344_0⟩ := k36_openM hMe344
                  have hv344_0 := hcc344 0 _ rfl
                  rw [Nat.add_zero] at hv344_0
                  replace hv344_0 := Option.some.inj (hv344_0.symm.trans hx344_0)
                  rw [hv344_0] at ge344_0
                  have HL344_0 := Aside0.mk (show Kd.R (Kd.int .i64) 3 _ _ _ _ ((rd_T36 t338 x18_4).f0) from ge344_0)
                  clear hv344_0 ge344_0
                  clear hcc344 hce344
                  have HR344_0 := Aside0.mk hi344_0
                  have HC344_0 := Aside0.mk hl344_0
                  clear hi344_0 hl344_0
                  replace p344 := eq_true p344
                  replace q344 := eq_true q344
                  have p345 := dT (0 ≤ (x18_4 : Int))
                  have q345 := dT (x18_4 < (t334.length : Int))
                  obtain ⟨ad345, A345_0, c345_0, e345, hx345_0, hx345_1, hx345_2, hx345_3, hl345_0, hi345_0⟩ := at_T36 (Kd.S_reads' HO_14.out).2.2 x18_4 p345 q345
                  obtain rfl : ad343 = ad345 := (by injection e345)
                  obtain ⟨ce345, hce345, hMe345, hcc345⟩ := Kd.S_get HO_14.out z36 x18_4 p345 (by first | exact q345 | exact of_decide_eq_true (by first | (with_reducible assumption) | assumption) | (have e_ := (Kd.S_reads' HO_14.out).1; omega))
                  obtain ⟨ve345_0, rfl, ge345_0⟩ := k36_openM hMe345
                  have hv345_0 := hcc345 0 _ rfl
                  rw [Nat.add_zero] at hv345_0
                  replace hv345_0 := Option.some.inj (hv345_0.symm.trans hx345_0)
                  rw [hv345_0] at ge345_0
                  have HL345_0 := Aside0.mk (show Kd.R (Kd.int .i64) 3 _ _ _ _ ((rd_T36 t334 x18_4).f0) from ge345_0)
                  clear hv345_0 ge345_0
                  clear hcc345 hce345
                  have HR345_0 := Aside0.mk hi345_0
                  have HC345_0 := Aside0.mk hl345_0
                  clear hi345_0 hl345_0
                  replace p345 := eq_true p345
                  replace q345 := eq_true q345
                  have ea_ := Option.some.inj (hx343_0.symm.trans hx345_0)
                  injection ea_ with ea_ en_ ec_
                  subst ea_
                  subst ec_
                  clear en_
                  have p346 := dT (0 ≤ (x18_4 : Int))
                  have q346 := dT (x18_4 < (t338.length : Int))
                  obtain ⟨ad346, A346_0, c346_0, e346, hx346_0, hx346_1, hx346_2, hx346_3, hl346_0, hi346_0⟩ := at_T36 (Kd.S_reads' HO_16.out).2.2 x18_4 p346 q346
                  obtain rfl : ad344 = ad346 := (by injection e346)
                  obtain ⟨ce346, hce346, hMe346, hcc346⟩ := Kd.S_get HO_16.out z36 x18_4 p346 (by first | exact q346 | exact of_decide_eq_true (by first | (with_reducible assumption) | assumption) | (have e_ := (Kd.S_reads' HO_16.out).1; omega))
                  obtain ⟨ve346_0, rfl, ge346_0⟩ := k36_openM hMe346
                  have hv346_0 := hcc346 0 _ rfl
                  rw [Nat.add_zero] at hv346_0
                  replace hv346_0 := Option.some.inj (hv346_0.symm.trans hx346_0)
                  rw [hv346_0] at ge346_0
                  have HL346_0 := Aside0.mk (show Kd.R (Kd.int .i64) 3 _ _ _ _ ((rd_T36 t338 x18_4).f0) from ge346_0)
                  clear hv346_0 ge346_0
                  clear hcc346 hce346
                  have HR346_0 := Aside0.mk hi346_0
                  have HC346_0 := Aside0.mk hl346_0
                  clear hi346_0 hl346_0
                  replace p346 := eq_true p346
                  replace q346 := eq_true q346
                  have ea_ := Option.some.inj (hx344_0.symm.trans hx346_0)
                  injection ea_ with ea_ en_ ec_
                  subst ea_
                  subst ec_
                  clear en_
                  go_wp2
                  repeat (go_quiet (fail); try go_wp2)
                  go_meet
                  case rel => exact ⟨_, (true), (by first | rfl | (simp; done) | (simp [*]; done)), H', ⟨by have := HJ4.out; have := HK2.out; have := HJ38.out; have := HK4.out; first | omega | exact Nat.le_refl _⟩, ⟨mvR HO_11⟩, ⟨by (with_reducible repeat (first | apply Kd.S_alloc | apply Kd.S_drewN | apply Kd.S_drew)); exact HO_14.out⟩, ⟨by (with_reducible repeat (first | apply Kd.S_alloc | apply Kd.S_drewN | apply Kd.S_drew)); exact HO_16.out⟩, ⟨mvB HB⟩⟩
                ·rw [if_neg c54] at H
                 have c54b0 : ((((rd_T36 t334 x18_4).f0).length : Int) == (((rd_T36 t338 x18_4).f0).length : Int)) = false := beq_eq_false_iff_ne.mpr c54
                 have c54b1 : ((((rd_T36 t334 x18_4).f0).length : Int) != (((rd_T36 t338 x18_4).f0).length : Int)) = true := bne_iff_ne.mpr c54
                 have c54b2 : (((rd_T36 t334 x18_4).f0).length == ((rd_T36 t338 x18_4).f0).length) = false := by first | simpa using c54 | (simp at c54 ⊢; omega)
                 have H' := Aside0.mk H
                 clear H
                 have p343 := dT (0 ≤ (x18_4 : Int))
                 have q343 := dT (x18_4 < (t334.length : Int))
                 obtain ⟨ad343, A343_0, c343_0, e343, hx343_0, hx343_1, hx343_2, hx343_3, hl343_0, hi343_0⟩ := at_T36 (Kd.S_reads' HO_14.out).2.2 x18_4 p343 q343
                 cases e343
                 obtain ⟨ce343, hce343, hMe343, hcc343⟩ := Kd.S_get HO_14.out z36 x18_4 p343 (by first | exact q343 | exact of_decide_eq_true (by first | (with_reducible assumption) | assumption) | (have e_ := (Kd.S_reads' HO_14.out).1; omega))
                 obtain ⟨ve343_0, rfl, ge343_0⟩ := k36_openM hMe343
                 have hv343_0 := hcc343 0 _ rfl
                 rw [Nat.add_zero] at hv343_0
                 replace hv343_0 := Option.some.inj (hv343_0.symm.trans hx343_0)
                 rw [hv343_0] at ge343_0
                 have HL343_0 := Aside0.mk (show Kd.R (Kd.int .i64) 3 _ _ _ _ ((rd_T36 t334 x18_4).f0) from ge343_0)
                 clear hv343_0 ge343_0
                 clear hcc343 hce343
                 have HR343_0 := Aside0.mk hi343_0
                 have HC343_0 := Aside0.mk hl343_0
                 clear hi343_0 hl343_0
                 replace p343 := eq_true p343
                 replace q343 := eq_true q343
                 obtain ⟨Ao60, co60, eo60⟩ := Kd.S_slice HO_16.out
                 subst eo60
                 have p344 := dT (0 ≤ (x18_4 : Int))
                 have q344 := dT (x18_4 < (t338.length : Int))
                 obtain ⟨ad344, A344_0, c344_0, e344, hx344_0, hx344_1, hx344_2, hx344_3, hl344_0, hi344_0⟩ := at_T36 (Kd.S_reads' HO_16.out).2.2 x18_4 p344 q344
                 cases e344
                 obtain ⟨ce344, hce344, hMe344, hcc344⟩ := Kd.S_get HO_16.out z36 x18_4 p344 (by first | exact q344 | exact of_decide_eq_true (by first | (with_reducible assumption) | assumption) | (have e_ := (Kd.S_reads' HO_16.out).1; omega))
                 obtain ⟨ve344_0, rfl, ge344_0⟩ := k36_openM hMe344
                 have hv344_0 := hcc344 0 _ rfl
                 rw [Nat.add_zero] at hv344_0
                 replace hv344_0 := Option.some.inj (hv344_0.symm.trans hx344_0)
                 rw [hv344_0] at ge344_0
                 have HL344_0 := Aside0.mk (show Kd.R (Kd.int .i64) 3 _ _ _ _ ((rd_T36 t338 x18_4).f0) from ge344_0)
                 clear hv344_0 ge344_0
                 clear hcc344 hce344
                 have HR344_0 := Aside0.mk hi344_0
                 have HC344_0 := Aside0.mk hl344_0
                 clear hi344_0 hl344_0
                 replace p344 := eq_true p344
                 replace q344 := eq_true q344
                 go_wp2
                 repeat (go_quiet (fail); try go_wp2)
                 go_meet
                 case rel => exact ⟨_, (true), (by first | rfl | (simp; done) | (simp [*]; done)), H', ⟨by have := HJ4.out; have := HK2.out; have := HJ38.out; have := HK4.out; first | omega | exact Nat.le_refl _⟩, ⟨mvR HO_11⟩, ⟨by (with_reducible repeat (first | apply Kd.S_alloc | apply Kd.S_drewN | apply Kd.S_drew)); exact HO_14.out⟩, ⟨by (with_reducible repeat (first | apply Kd.S_alloc | apply Kd.S_drewN | apply Kd.S_drew)); exact HO_16.out⟩, ⟨mvB HB⟩⟩
               ·rw [if_neg c53] at H
                exact absurd H (by simp)
              ·rw [if_neg c52] at H
               exact absurd H (by simp)
             case rest =>
              as_aux_lemma =>
              clear HC50
              try clear c1
              try clear c2
              try clear p2
              try clear c3
              try clear p3
              try clear q3
              try clear hx3
              try clear c4
              try clear c5
              try clear c6
              try clear c6b0
              try clear c6b1
              try clear p6
              try clear c7
              try clear c7b0
              try clear c7b1
              try clear c8
              try clear c11
              try clear c11b0
              try clear c12
              try clear c12b0
              try clear c13
              try clear c13b0
              try clear c14
              try clear c14b0
              try clear c14b1
              try clear c15
              try clear c15b0
              try clear c15b1
              try clear c17
              try clear c17b0
              try clear c18
              try clear c18b0
              try clear c19
              try clear c20
              try clear c21
              try clear c28
              try clear c28b0
              try clear c29
              try clear c29b0
              try clear c30
              try clear p30
              try clear q30
              try clear hx30
              try clear c31
              try clear c31b0
              try clear p31
              try clear q31
              try clear hx31
              try clear c32
              try clear p32
              try clear q32
              try clear hx32
              try clear c33
              try clear c34
              try clear p34
              try clear q34
              try clear hx34
              try clear c35
              try clear p35
              try clear q35
              try clear hx35
              try clear c44
              try clear c44b0
              try clear c44b1
              try clear c45
              try clear c45b0
              try clear c45b1
              try clear c48
              try clear c49
              try clear c49b0
              try clear c52
              try clear c52b0
              try clear c53
              try clear c53b0
              try clear c54
              try clear c54b0
              try clear c54b1
              try clear c54b2
              try clear c55
              try clear c55b0
              try clear c55b1
              try clear c56
              try clear c56b0
              try clear c56b1
              try clear hx307_0
              try clear hx311_0
              try clear hx312_0
              try clear hx316_0
              try clear hx323_0
              try clear hx327_0
              try clear hx343_0
              try clear hx343_1
              try clear hx343_2
              try clear hx343_3
              try clear hx344_0
              try clear hx344_1
              try clear hx344_2
              try clear hx344_3
              try clear hx345_0
              try clear hx345_1
              try clear hx345_2
              try clear hx345_3
              try clear hx346_0
              try clear hx346_1
              try clear hx346_2
              try clear hx346_3
              try clear hx347_0
              try clear hx347_1
              try clear hx347_2
              try clear hx347_3
              try clear hx348_0
              try clear hx348_1
              try clear hx348_2
              try clear hx348_3
              try clear hx349_0
              try clear hx349_1
              try clear hx349_2
              try clear hx349_3
              try clear hx350_0
              try clear hx350_1
              try clear hx350_2
              try clear hx350_3
              try clear p2
              try clear p3
              try clear p30
              try clear p307
              try clear p31
              try clear p311
              try clear p312
              try clear p316
              try clear p32
              try clear p323
              try clear p327
              try clear p343
              try clear p344
              try clear p345
              try clear p346
              try clear p347
              try clear p348
              try clear p349
              try clear p350
              try clear p6
              try clear q3
              try clear q30
              try clear q307
              try clear q31
              try clear q311
              try clear q312
              try clear q316
              try clear q32
              try clear q323
              try clear q327
              try clear q343
              try clear q344
              try clear q345
              try clear q346
              try clear q347
              try clear q348
              try clear q349
              try clear q350
              obtain ⟨kq, x190_49, rfl, HA, HJ49, HO_11, HO_14, HO_16, HB⟩ := hcut
              cases kq with
              | zero => exact absurd HA.out (by simp [selvedgelaw15_RunsWithout.j5])
              | succ kj49 =>
               have H := HA.out
               clear HA
               simp only [selvedgelaw15_RunsWithout.j5] at H
               by_cases c61 : x190_49 = true
               ·subst c61
                have H1 : (some false) = some r := by rw [if_pos rfl] at H; exact H
                clear H
                have H := H1
                clear H1
                obtain rfl := Option.some.inj H
                go_wp2
                repeat (go_quiet (fail); try go_wp2)
                go_ret
                exact ⟨by first | rfl | (simp [errW_none, errW_some] <;> rfl) | (simp [*, errW_none, errW_some] <;> rfl), mvB HB⟩
               ·replace c61 := Bool.eq_false_iff.mpr c61
                subst c61
                have H1 : (selvedgelaw15_RunsWithout.l3 kj49 x11_2 t334 t338 x18_4 0) = some r := by rw [if_neg (show ¬ (false = true) by decide)] at H; exact H
                clear H
                have H := H1
                clear H1
                have H' := Aside0.mk H
                clear H
                go_wp2
                repeat (go_quiet (fail); try go_wp2)
                go_loopg [19] kj49 (fun kq v19 w' => ∃ (x19_6 : Int), v19 = .int .i64 x19_6 ∧ Aside0 (selvedgelaw15_RunsWithout.l3 kq x11_2 t334 t338 x18_4 x19_6 = some r) ∧ Aside0 (kq ≤ kj49) ∧ Aside0 (Kd.R (Kd.int .i64) 3 w' w.heap.size (fun _ => True) u11 x11_2) ∧ Aside0 (Kd.S k36 36 w' w.heap.size (fun k_ => some k_ ≠ (u11 : Value).ownBlock ∧ some k_ ≠ (v340 : Value).ownBlock) (.slice Ao51 t334.length co51) t334) ∧ Aside0 (Kd.S k36 36 w' w.heap.size (fun k_ => some k_ ≠ (u11 : Value).ownBlock ∧ some k_ ≠ ((.slice Ao51 t334.length co51) : Value).ownBlock) v340 t338) ∧ Aside0 (Below w.heap.size w w'))
                case atStart => exact ⟨(0), (by first | rfl | (simp; done) | (simp [*]; done)), H', ⟨Nat.le_refl _⟩, ⟨mvR HO_11⟩, ⟨by (with_reducible repeat (first | apply Kd.S_alloc | apply Kd.S_drewN | apply Kd.S_drew)); exact HO_14.out⟩, ⟨by (with_reducible repeat (first | apply Kd.S_alloc | apply Kd.S_drewN | apply Kd.S_drew)); exact HO_16.out⟩, ⟨mvB HB⟩⟩
                case round =>
                 as_aux_lemma =>
                 clear H'
                 try clear c1
                 try clear c2
                 try clear p2
                 try clear c3
                 try clear p3
                 try clear q3
                 try clear hx3
                 try clear c4
                 try clear c5
                 try clear c6
                 try clear c6b0
                 try clear c6b1
                 try clear p6
                 try clear c7
                 try clear c7b0
                 try clear c7b1
                 try clear c8
                 try clear c11
                 try clear c11b0
                 try clear c12
                 try clear c12b0
                 try clear c13
                 try clear c13b0
                 try clear c14
                 try clear c14b0
                 try clear c14b1
                 try clear c15
                 try clear c15b0
                 try clear c15b1
                 try clear c17
                 try clear c17b0
                 try clear c18
                 try clear c18b0
                 try clear c19
                 try clear c20
                 try clear c21
                 try clear c28
                 try clear c28b0
                 try clear c29
                 try clear c29b0
                 try clear c30
                 try clear p30
                 try clear q30
                 try clear hx30
                 try clear c31
                 try clear c31b0
                 try clear p31
                 try clear q31
                 try clear hx31
                 try clear c32
                 try clear p32
                 try clear q32
                 try clear hx32
                 try clear c33
                 try clear c34
                 try clear p34
                 try clear q34
                 try clear hx34
                 try clear c35
                 try clear p35
                 try clear q35
                 try clear hx35
                 try clear c44
                 try clear c44b0
                 try clear c44b1
                 try clear c45
                 try clear c45b0
                 try clear c45b1
                 try clear c48
                 try clear c49
                 try clear c49b0
                 try clear c52
                 try clear c52b0
                 try clear c53
                 try clear c53b0
                 try clear c54
                 try clear c54b0
                 try clear c54b1
                 try clear c54b2
                 try clear c55
                 try clear c55b0
                 try clear c55b1
                 try clear c56
                 try clear c56b0
                 try clear c56b1
                 try clear c61
                 try clear hx307_0
                 try clear hx311_0
                 try clear hx312_0
                 try clear hx316_0
                 try clear hx323_0
                 try clear hx327_0
                 try clear hx343_0
                 try clear hx343_1
                 try clear hx343_2
                 try clear hx343_3
                 try clear hx344_0
                 try clear hx344_1
                 try clear hx344_2
                 try clear hx344_3
                 try clear hx345_0
                 try clear hx345_1
                 try clear hx345_2
                 try clear hx345_3
                 try clear hx346_0
                 try clear hx346_1
                 try clear hx346_2
                 try clear hx346_3
                 try clear hx347_0
                 try clear hx347_1
                 try clear hx347_2
                 try clear hx347_3
                 try clear hx348_0
                 try clear hx348_1
                 try clear hx348_2
                 try clear hx348_3
                 try clear hx349_0
                 try clear hx349_1
                 try clear hx349_2
                 try clear hx349_3
                 try clear hx350_0
                 try clear hx350_1
                 try clear hx350_2
                 try clear hx350_3
                 try clear p2
                 try clear p3
                 try clear p30
                 try clear p307
                 try clear p31
                 try clear p311
                 try clear p312
                 try clear p316
                 try clear p32
                 try clear p323
                 try clear p327
                 try clear p34
                 try clear p343
                 try clear p344
                 try clear p345
                 try clear p346
                 try clear p347
                 try clear p348
                 try clear p349
                 try clear p35
                 try clear p350
                 try clear p6
                 try clear q3
                 try clear q30
                 try clear q307
                 try clear q31
                 try clear q311
                 try clear q312
                 try clear q316
                 try clear q32
                 try clear q323
                 try clear q327
                 try clear q34
                 try clear q343
                 try clear q344
                 try clear q345
                 try clear q346
                 try clear q347
                 try clear q348
                 try clear q349
                 try clear q35
                 try clear q350
                 obtain ⟨x19_6, rfl, HA, HK6, HO_11, HO_14, HO_16, HB⟩ := hrel
                 cases gk with
                 | zero => exact absurd HA.out (by simp [selvedgelaw15_RunsWithout.l3])
                 | succ k6 =>
                  have H := HA.out
                  clear HA
                  simp only [selvedgelaw15_RunsWithout.l3] at H
                  by_cases c62 : 0 ≤ x18_4
                  ·rw [if_pos c62] at H
                   have c62b0 : decide (0 ≤ x18_4) = true := decide_eq_true c62
                   clear c62
                   by_cases c63 : x18_4 < (t334.length : Int)
                   ·rw [if_pos c63] at H
                    have c63b0 : decide (x18_4 < (t334.length : Int)) = true := decide_eq_true c63
                    clear c63
                    by_cases c64 : x19_6 < (((rd_T36 t334 x18_4).f0).length : Int)
                    ·rw [if_pos c64] at H
                     have c64b0 : decide (x19_6 < (((rd_T36 t334 x18_4).f0).length : Int)) = true := decide_eq_true c64
                     clear c64
                     by_cases c65 : x18_4 < (t338.length : Int)
                     ·rw [if_pos c65] at H
                      have c65b0 : decide (x18_4 < (t338.length : Int)) = true := decide_eq_true c65
                      clear c65
                      by_cases c66 : 0 ≤ x19_6
                      ·rw [if_pos c66] at H
                       have c66b0 : decide (0 ≤ x19_6) = true := decide_eq_true c66
                       clear c66
                       by_cases c67 : x19_6 < (((rd_T36 t338 x18_4).f0).length : Int)
                       ·rw [if_pos c67] at H
                        have c67b0 : decide (x19_6 < (((rd_T36 t338 x18_4).f0).length : Int)) = true := decide_eq_true c67
                        clear c67
                        by_cases c68 : (rd ((rd_T36 t338 x18_4).f0) x19_6) < 0
                        ·rw [if_pos c68] at H
                         have c68b0 : decide ((rd ((rd_T36 t338 x18_4).f0) x19_6) < 0) = true := decide_eq_true c68
                         clear c68
                         obtain rfl := Option.some.inj H
                         have p351 := dT (0 ≤ (x18_4 : Int))
                         have q351 := dT (x18_4 < (t334.length : Int))
                         obtain ⟨ad351, A351_0, c351_0, e351, hx351_0, hx351_1, hx351_2, hx351_3, hl351_0, hi351_0⟩ := at_T36 (Kd.S_reads' HO_14.out).2.2 x18_4 p351 q351
                         cases e351
                         obtain ⟨ce351, hce351, hMe351, hcc351⟩ := Kd.S_get HO_14.out z36 x18_4 p351 (by first | exact q351 | exact of_decide_eq_true (by first | (with_reducible assumption) | assumption) | (have e_ := (Kd.S_reads' HO_14.out).1; omega))
                         obtain ⟨ve351_0, rfl, ge351_0⟩ := k36_openM hMe351
                         have hv351_0 := hcc351 0 _ rfl
                         rw [Nat.add_zero] at hv351_0
                         replace hv351_0 := Option.some.inj (hv351_0.symm.trans hx351_0)
                         rw [hv351_0] at ge351_0
                         have HL351_0 := Aside0.mk (show Kd.R (Kd.int .i64) 3 _ _ _ _ ((rd_T36 t334 x18_4).f0) from ge351_0)
                         clear hv351_0 ge351_0
                         clear hcc351 hce351
                         have HR351_0 := Aside0.mk hi351_0
                         have HC351_0 := Aside0.mk hl351_0
                         clear hi351_0 hl351_0
                         replace p351 := eq_true p351
                         replace q351 := eq_true q351
                         obtain ⟨Ao69, co69, eo69⟩ := Kd.S_slice HO_16.out
                         subst eo69
                         have p352 := dT (0 ≤ (x18_4 : Int))
                         have q352 := dT (x18_4 < (t338.length : Int))
                         obtain ⟨ad352, A352_0, c352_0, e352, hx352_0, hx352_1, hx352_2, hx352_3, hl352_0, hi352_0⟩ := at_T36 (Kd.S_reads' HO_16.out).2.2 x18_4 p352 q352
                         cases e352
                         obtain ⟨ce352, hce352, hMe352, hcc352⟩ := Kd.S_get HO_16.out z36 x18_4 p352 (by first | exact q352 | exact of_decide_eq_true (by first | (with_reducible assumption) | assumption) | (have e_ := (Kd.S_reads' HO_16.out).1; omega))
                         obtain ⟨ve352_0, rfl, ge352_0⟩ := k36_openM hMe352
                         have hv352_0 := hcc352 0 _ rfl
                         rw [Nat.add_zero] at hv352_0
                         replace hv352_0 := Option.some.inj (hv352_0.symm.trans hx352_0)
                         rw [hv352_0] at ge352_0
                         have HL352_0 := Aside0.mk (show Kd.R (Kd.int .i64) 3 _ _ _ _ ((rd_T36 t338 x18_4).f0) from ge352_0)
                         clear hv352_0 ge352_0
                         clear hcc352 hce352
                         have HR352_0 := Aside0.mk hi352_0
                         have HC352_0 := Aside0.mk hl352_0
                         clear hi352_0 hl352_0
                         replace p352 := eq_true p352
                         replace q352 := eq_true q352
                         obtain ⟨ad353, e353, hx353_0, p353, q353⟩ := atI (by repeat (first | (with_reducible exact HR352_0.out) | (with_reducible refine Kd.C_alloc ?_ _) | (with_reducible refine Kd.C_drewN ?_ _) | (with_reducible refine Kd.C_drew ?_) | exact HR352_0.out)) x19_6
                         cases e353
                         go_wp2
                         repeat (go_quiet (fail); try go_wp2)
                         go_ret
                         exact ⟨by first | rfl | (simp [errW_none, errW_some] <;> rfl) | (simp [*, errW_none, errW_some] <;> rfl), mvB HB⟩
                        ·rw [if_neg c68] at H
                         have c68b0 : decide ((rd ((rd_T36 t338 x18_4).f0) x19_6) < 0) = false := decide_eq_false c68
                         clear c68
                         by_cases c70 : (rd ((rd_T36 t338 x18_4).f0) x19_6) ≥ (x11_2.length : Int)
                         ·rw [if_pos c70] at H
                          have c70b0 : decide ((x11_2.length : Int) ≤ (rd ((rd_T36 t338 x18_4).f0) x19_6)) = true := decide_eq_true c70
                          clear c70
                          obtain rfl := Option.some.inj H
                          have p351 := dT (0 ≤ (x18_4 : Int))
                          have q351 := dT (x18_4 < (t334.length : Int))
                          obtain ⟨ad351, A351_0, c351_0, e351, hx351_0, hx351_1, hx351_2, hx351_3, hl351_0, hi351_0⟩ := at_T36 (Kd.S_reads' HO_14.out).2.2 x18_4 p351 q351
                          cases e351
                          obtain ⟨ce351, hce351, hMe351, hcc351⟩ := Kd.S_get HO_14.out z36 x18_4 p351 (by first | exact q351 | exact of_decide_eq_true (by first | (with_reducible assumption) | assumption) | (have e_ := (Kd.S_reads' HO_14.out).1; omega))
                          obtain ⟨ve351_0, rfl, ge351_0⟩ := k36_openM hMe351
                          have hv351_0 := hcc351 0 _ rfl
                          rw [Nat.add_zero] at hv351_0
                          replace hv351_0 := Option.some.inj (hv351_0.symm.trans hx351_0)
                          rw [hv351_0] at ge351_0
                          have HL351_0 := Aside0.mk (show Kd.R (Kd.int .i64) 3 _ _ _ _ ((rd_T36 t334 x18_4).f0) from ge351_0)
                          clear hv351_0 ge351_0
                          clear hcc351 hce351
                          have HR351_0 := Aside0.mk hi351_0
                          have HC351_0 := Aside0.mk hl351_0
                          clear hi351_0 hl351_0
                          replace p351 := eq_true p351
                          replace q351 := eq_true q351
                          obtain ⟨Ao71, co71, eo71⟩ := Kd.S_slice HO_16.out
                          subst eo71
                          have p352 := dT (0 ≤ (x18_4 : Int))
                          have q352 := dT (x18_4 < (t338.length : Int))
                          obtain ⟨ad352, A352_0, c352_0, e352, hx352_0, hx352_1, hx352_2, hx352_3, hl352_0, hi352_0⟩ := at_T36 (Kd.S_reads' HO_16.out).2.2 x18_4 p352 q352
                          cases e352
                          obtain ⟨ce352, hce352, hMe352, hcc352⟩ := Kd.S_get HO_16.out z36 x18_4 p352 (by first | exact q352 | exact of_decide_eq_true (by first | (with_reducible assumption) | assumption) | (have e_ := (Kd.S_reads' HO_16.out).1; omega))
                          obtain ⟨ve352_0, rfl, ge352_0⟩ := k36_openM hMe352
                          have hv352_0 := hcc352 0 _ rfl
                          rw [Nat.add_zero] at hv352_0
                          replace hv352_0 := Option.some.inj (hv352_0.symm.trans hx352_0)
                          rw [hv352_0] at ge352_0
                          have HL352_0 := Aside0.mk (show Kd.R (Kd.int .i64) 3 _ _ _ _ ((rd_T36 t338 x18_4).f0) from ge352_0)
                          clear hv352_0 ge352_0
                          clear hcc352 hce352
                          have HR352_0 := Aside0.mk hi352_0
                          have HC352_0 := Aside0.mk hl352_0
                          clear hi352_0 hl352_0
                          replace p352 := eq_true p352
                          replace q352 := eq_true q352
                          obtain ⟨ad353, e353, hx353_0, p353, q353⟩ := atI (by repeat (first | (with_reducible exact HR352_0.out) | (with_reducible refine Kd.C_alloc ?_ _) | (with_reducible refine Kd.C_drewN ?_ _) | (with_reducible refine Kd.C_drew ?_) | exact HR352_0.out)) x19_6
                          cases e353
                          obtain ⟨Ao72, co72, eo72⟩ := Kd.R_slice HO_11.out
                          subst eo72
                          go_wp2
                          repeat (go_quiet (fail); try go_wp2)
                          go_ret
                          exact ⟨by first | rfl | (simp [errW_none, errW_some] <;> rfl) | (simp [*, errW_none, errW_some] <;> rfl), mvB HB⟩
                         ·rw [if_neg c70] at H
                          have c70b0 : decide ((x11_2.length : Int) ≤ (rd ((rd_T36 t338 x18_4).f0) x19_6)) = false := decide_eq_false c70
                          clear c70
                          by_cases c73 : 0 ≤ (rd ((rd_T36 t338 x18_4).f0) x19_6)
                          ·rw [if_pos c73] at H
                           have c73b0 : decide (0 ≤ (rd ((rd_T36 t338 x18_4).f0) x19_6)) = true := decide_eq_true c73
                           clear c73
                           by_cases c74 : (rd ((rd_T36 t338 x18_4).f0) x19_6) < (x11_2.length : Int)
                           ·rw [if_pos c74] at H
                            have c74b0 : decide ((rd ((rd_T36 t338 x18_4).f0) x19_6) < (x11_2.length : Int)) = true := decide_eq_true c74
                            clear c74
                            by_cases c75 : (rd x11_2 (rd ((rd_T36 t338 x18_4).f0) x19_6)) = (rd ((rd_T36 t334 x18_4).f0) x19_6)
                            ·rw [if_pos c75] at H
                             have c75b0 : ((rd x11_2 (rd ((rd_T36 t338 x18_4).f0) x19_6)) == (rd ((rd_T36 t334 x18_4).f0) x19_6)) = true := beq_iff_eq.mpr c75
                             have c75b1 : ((rd x11_2 (rd ((rd_T36 t338 x18_4).f0) x19_6)) != (rd ((rd_T36 t334 x18_4).f0) x19_6)) = false := bne_eq_false_iff_eq.mpr c75
                             clear c75
                             have H' := Aside0.mk H
                             clear H
                             have p351 := dT (0 ≤ (x18_4 : Int))
                             have q351 := dT (x18_4 < (t334.length : Int))
                             obtain ⟨ad351, A351_0, c351_0, e351, hx351_0, hx351_1, hx351_2, hx351_3, hl351_0, hi351_0⟩ := at_T36 (Kd.S_reads' HO_14.out).2.2 x18_4 p351 q351
                             cases e351
                             obtain ⟨ce351, hce351, hMe351, hcc351⟩ := Kd.S_get HO_14.out z36 x18_4 p351 (by first | exact q351 | exact of_decide_eq_true (by first | (with_reducible assumption) | assumption) | (have e_ := (Kd.S_reads' HO_14.out).1; omega))
                             obtain ⟨ve351_0, rfl, ge351_0⟩ := k36_openM hMe351
                             have hv351_0 := hcc351 0 _ rfl
                             rw [Nat.add_zero] at hv351_0
                             replace hv351_0 := Option.some.inj (hv351_0.symm.trans hx351_0)
                             rw [hv351_0] at ge351_0
                             have HL351_0 := Aside0.mk (show Kd.R (Kd.int .i64) 3 _ _ _ _ ((rd_T36 t334 x18_4).f0) from ge351_0)
                             clear hv351_0 ge351_0
                             clear hcc351 hce351
                             have HR351_0 := Aside0.mk hi351_0
                             have HC351_0 := Aside0.mk hl351_0
                             clear hi351_0 hl351_0
                             replace p351 := eq_true p351
                             replace q351 := eq_true q351
                             obtain ⟨Ao76, co76, eo76⟩ := Kd.S_slice HO_16.out
                             subst eo76
                             have p352 := dT (0 ≤ (x18_4 : Int))
                             have q352 := dT (x18_4 < (t338.length : Int))
                             obtain ⟨ad352, A352_0, c352_0, e352, hx352_0, hx352_1, hx352_2, hx352_3, hl352_0, hi352_0⟩ := at_T36 (Kd.S_reads' HO_16.out).2.2 x18_4 p352 q352
                             cases e352
                             obtain ⟨ce352, hce352, hMe352, hcc352⟩ := Kd.S_get HO_16.out z36 x18_4 p352 (by first | exact q352 | exact of_decide_eq_true (by first | (with_reducible assumption) | assumption) | (have e_ := (Kd.S_reads' HO_16.out).1; omega))
                             obtain ⟨ve352_0, rfl, ge352_0⟩ := k36_openM hMe352
                             have hv352_0 := hcc352 0 _ rfl
                             rw [Nat.add_zero] at hv352_0
                             replace hv352_0 := Option.some.inj (hv352_0.symm.trans hx352_0)
                             rw [hv352_0] at ge352_0
                             have HL352_0 := Aside0.mk (show Kd.R (Kd.int .i64) 3 _ _ _ _ ((rd_T36 t338 x18_4).f0) from ge352_0)
                             clear hv352_0 ge352_0
                             clear hcc352 hce352
                             have HR352_0 := Aside0.mk hi352_0
                             have HC352_0 := Aside0.mk hl352_0
                             clear hi352_0 hl352_0
                             replace p352 := eq_true p352
                             replace q352 := eq_true q352
                             obtain ⟨ad353, e353, hx353_0, p353, q353⟩ := atI (by repeat (first | (with_reducible exact HR352_0.out) | (with_reducible refine Kd.C_alloc ?_ _) | (with_reducible refine Kd.C_drewN ?_ _) | (with_reducible refine Kd.C_drew ?_) | exact HR352_0.out)) x19_6
                             cases e353
                             obtain ⟨Ao77, co77, eo77⟩ := Kd.R_slice HO_11.out
                             subst eo77
                             obtain ⟨ad354, e354, hx354_0, p354, q354⟩ := atI (Kd.R_reads' HO_11.out).2.2 (rd ((rd_T36 t338 x18_4).f0) x19_6)
                             cases e354
                             have p355 := dT (0 ≤ (x18_4 : Int))
                             have q355 := dT (x18_4 < (t334.length : Int))
                             obtain ⟨ad355, A355_0, c355_0, e355, hx355_0, hx355_1, hx355_2, hx355_3, hl355_0, hi355_0⟩ := at_T36 (Kd.S_reads' HO_14.out).2.2 x18_4 p355 q355
                             obtain rfl : ad351 = ad355 := (by injection e355)
                             obtain ⟨ce355, hce355, hMe355, hcc355⟩ := Kd.S_get HO_14.out z36 x18_4 p355 (by first | exact q355 | exact of_decide_eq_true (by first | (with_reducible assumption) | assumption) | (have e_ := (Kd.S_reads' HO_14.out).1; omega))
                             obtain ⟨ve355_0, rfl, ge355_0⟩ := k36_openM hMe355
                             have hv355_0 := hcc355 0 _ rfl
                             rw [Nat.add_zero] at hv355_0
                             replace hv355_0 := Option.some.inj (hv355_0.symm.trans hx355_0)
                             rw [hv355_0] at ge355_0
                             have HL355_0 := Aside0.mk (show Kd.R (Kd.int .i64) 3 _ _ _ _ ((rd_T36 t334 x18_4).f0) from ge355_0)
                             clear hv355_0 ge355_0
                             clear hcc355 hce355
                             have HR355_0 := Aside0.mk hi355_0
                             have HC355_0 := Aside0.mk hl355_0
                             clear hi355_0 hl355_0
                             replace p355 := eq_true p355
                             replace q355 := eq_true q355
                             have ea_ := Option.some.inj (hx351_0.symm.trans hx355_0)
                             injection ea_ with ea_ en_ ec_
                             subst ea_
                             subst ec_
                             clear en_
                             obtain ⟨ad356, e356, hx356_0, p356, q356⟩ := atI (by repeat (first | (with_reducible exact HR355_0.out) | (with_reducible refine Kd.C_alloc ?_ _) | (with_reducible refine Kd.C_drewN ?_ _) | (with_reducible refine Kd.C_drew ?_) | exact HR355_0.out)) x19_6
                             cases e356
                             go_wp2
                             repeat (go_quiet (fail); try go_wp2)
                             go_roundg k6
                             case measure => have := HJ4.out; have := HK2.out; have := HJ38.out; have := HK4.out; have := HJ49.out; have := HK6.out; omega
                             case rel => exact ⟨(wrap64 (x19_6 + 1)), (by first | rfl | (simp; done) | (simp [*]; done)), H', ⟨by have := HJ4.out; have := HK2.out; have := HJ38.out; have := HK4.out; have := HJ49.out; have := HK6.out; omega⟩, ⟨mvR HO_11⟩, ⟨by (with_reducible repeat (first | apply Kd.S_alloc | apply Kd.S_drewN | apply Kd.S_drew)); exact HO_14.out⟩, ⟨by (with_reducible repeat (first | apply Kd.S_alloc | apply Kd.S_drewN | apply Kd.S_drew)); exact HO_16.out⟩, ⟨mvB HB⟩⟩
                            ·rw [if_neg c75] at H
                             have c75b0 : ((rd x11_2 (rd ((rd_T36 t338 x18_4).f0) x19_6)) == (rd ((rd_T36 t334 x18_4).f0) x19_6)) = false := beq_eq_false_iff_ne.mpr c75
                             have c75b1 : ((rd x11_2 (rd ((rd_T36 t338 x18_4).f0) x19_6)) != (rd ((rd_T36 t334 x18_4).f0) x19_6)) = true := bne_iff_ne.mpr c75
                             obtain rfl := Option.some.inj H
                             have p351 := dT (0 ≤ (x18_4 : Int))
                             have q351 := dT (x18_4 < (t334.length : Int))
                             obtain ⟨ad351, A351_0, c351_0, e351, hx351_0, hx351_1, hx351_2, hx351_3, hl351_0, hi351_0⟩ := at_T36 (Kd.S_reads' HO_14.out).2.2 x18_4 p351 q351
                             cases e351
                             obtain ⟨ce351, hce351, hMe351, hcc351⟩ := Kd.S_get HO_14.out z36 x18_4 p351 (by first | exact q351 | exact of_decide_eq_true (by first | (with_reducible assumption) | assumption) | (have e_ := (Kd.S_reads' HO_14.out).1; omega))
                             obtain ⟨ve351_0, rfl, ge351_0⟩ := k36_openM hMe351
                             have hv351_0 := hcc351 0 _ rfl
                             rw [Nat.add_zero] at hv351_0
                             replace hv351_0 := Option.some.inj (hv351_0.symm.trans hx351_0)
                             rw [hv351_0] at ge351_0
                             have HL351_0 := Aside0.mk (show Kd.R (Kd.int .i64) 3 _ _ _ _ ((rd_T36 t334 x18_4).f0) from ge351_0)
                             clear hv351_0 ge351_0
                             clear hcc351 hce351
                             have HR351_0 := Aside0.mk hi351_0
                             have HC351_0 := Aside0.mk hl351_0
                             clear hi351_0 hl351_0
                             replace p351 := eq_true p351
                             replace q351 := eq_true q351
                             obtain ⟨Ao78, co78, eo78⟩ := Kd.S_slice HO_16.out
                             subst eo78
                             have p352 := dT (0 ≤ (x18_4 : Int))
                             have q352 := dT (x18_4 < (t338.length : Int))
                             obtain ⟨ad352, A352_0, c352_0, e352, hx352_0, hx352_1, hx352_2, hx352_3, hl352_0, hi352_0⟩ := at_T36 (Kd.S_reads' HO_16.out).2.2 x18_4 p352 q352
                             cases e352
                             obtain ⟨ce352, hce352, hMe352, hcc352⟩ := Kd.S_get HO_16.out z36 x18_4 p352 (by first | exact q352 | exact of_decide_eq_true (by first | (with_reducible assumption) | assumption) | (have e_ := (Kd.S_reads' HO_16.out).1; omega))
                             obtain ⟨ve352_0, rfl, ge352_0⟩ := k36_openM hMe352
                             have hv352_0 := hcc352 0 _ rfl
                             rw [Nat.add_zero] at hv352_0
                             replace hv352_0 := Option.some.inj (hv352_0.symm.trans hx352_0)
                             rw [hv352_0] at ge352_0
                             have HL352_0 := Aside0.mk (show Kd.R (Kd.int .i64) 3 _ _ _ _ ((rd_T36 t338 x18_4).f0) from ge352_0)
                             clear hv352_0 ge352_0
                             clear hcc352 hce352
                             have HR352_0 := Aside0.mk hi352_0
                             have HC352_0 := Aside0.mk hl352_0
                             clear hi352_0 hl352_0
                             replace p352 := eq_true p352
                             replace q352 := eq_true q352
                             obtain ⟨ad353, e353, hx353_0, p353, q353⟩ := atI (by repeat (first | (with_reducible exact HR352_0.out) | (with_reducible refine Kd.C_alloc ?_ _) | (with_reducible refine Kd.C_drewN ?_ _) | (with_reducible refine Kd.C_drew ?_) | exact HR352_0.out)) x19_6
                             cases e353
                             obtain ⟨Ao79, co79, eo79⟩ := Kd.R_slice HO_11.out
                             subst eo79
                             obtain ⟨ad354, e354, hx354_0, p354, q354⟩ := atI (Kd.R_reads' HO_11.out).2.2 (rd ((rd_T36 t338 x18_4).f0) x19_6)
                             cases e354
                             have p355 := dT (0 ≤ (x18_4 : Int))
                             have q355 := dT (x18_4 < (t334.length : Int))
                             obtain ⟨ad355, A355_0, c355_0, e355, hx355_0, hx355_1, hx355_2, hx355_3, hl355_0, hi355_0⟩ := at_T36 (Kd.S_reads' HO_14.out).2.2 x18_4 p355 q355
                             obtain rfl : ad351 = ad355 := (by injection e355)
                             obtain ⟨ce355, hce355, hMe355, hcc355⟩ := Kd.S_get HO_14.out z36 x18_4 p355 (by first | exact q355 | exact of_decide_eq_true (by first | (with_reducible assumption) | assumption) | (have e_ := (Kd.S_reads' HO_14.out).1; omega))
                             obtain ⟨ve355_0, rfl, ge355_0⟩ := k36_openM hMe355
                             have hv355_0 := hcc355 0 _ rfl
                             rw [Nat.add_zero] at hv355_0
                             replace hv355_0 := Option.some.inj (hv355_0.symm.trans hx355_0)
                             rw [hv355_0] at ge355_0
                             have HL355_0 := Aside0.mk (show Kd.R (Kd.int .i64) 3 _ _ _ _ ((rd_T36 t334 x18_4).f0) from ge355_0)
                             clear hv355_0 ge355_0
                             clear hcc355 hce355
                             have HR355_0 := Aside0.mk hi355_0
                             have HC355_0 := Aside0.mk hl355_0
                             clear hi355_0 hl355_0
                             replace p355 := eq_true p355
                             replace q355 := eq_true q355
                             have ea_ := Option.some.inj (hx351_0.symm.trans hx355_0)
                             injection ea_ with ea_ en_ ec_
                             subst ea_
                             subst ec_
                             clear en_
                             obtain ⟨ad356, e356, hx356_0, p356, q356⟩ := atI (by repeat (first | (with_reducible exact HR355_0.out) | (with_reducible refine Kd.C_alloc ?_ _) | (with_reducible refine Kd.C_drewN ?_ _) | (with_reducible refine Kd.C_drew ?_) | exact HR355_0.out)) x19_6
                             cases e356
                             go_wp2
                             repeat (go_quiet (fail); try go_wp2)
                             go_ret
                             exact ⟨by first | rfl | (simp [errW_none, errW_some] <;> rfl) | (simp [*, errW_none, errW_some] <;> rfl), mvB HB⟩
                           ·rw [if_neg c74] at H
                            exact absurd H (by simp)
                          ·rw [if_neg c73] at H
                           exact absurd H (by simp)
                       ·rw [if_neg c67] at H
                        exact absurd H (by simp)
                      ·rw [if_neg c66] at H
                       exact absurd H (by simp)
                     ·rw [if_neg c65] at H
                      exact absurd H (by simp)
                    ·rw [if_neg c64] at H
                     have c64b0 : decide (x19_6 < (((rd_T36 t334 x18_4).f0).length : Int)) = false := decide_eq_false c64
                     clear c64
                     have H' := Aside0.mk H
                     clear H
                     have p351 := dT (0 ≤ (x18_4 : Int))
                     have q351 := dT (x18_4 < (t334.length : Int))
                     obtain ⟨ad351, A351_0, c351_0, e351, hx351_0, hx351_1, hx351_2, hx351_3, hl351_0, hi351_0⟩ := at_T36 (Kd.S_reads' HO_14.out).2.2 x18_4 p351 q351
                     cases e351
                     obtain ⟨ce351, hce351, hMe351, hcc351⟩ := Kd.S_get HO_14.out z36 x18_4 p351 (by first | exact q351 | exact of_decide_eq_true (by first | (with_reducible assumption) | assumption) | (have e_ := (Kd.S_reads' HO_14.out).1; omega))
                     obtain ⟨ve351_0, rfl, ge351_0⟩ := k36_openM hMe351
                     have hv351_0 := hcc351 0 _ rfl
                     rw [Nat.add_zero] at hv351_0
                     replace hv351_0 := Option.some.inj (hv351_0.symm.trans hx351_0)
                     rw [hv351_0] at ge351_0
                     have HL351_0 := Aside0.mk (show Kd.R (Kd.int .i64) 3 _ _ _ _ ((rd_T36 t334 x18_4).f0) from ge351_0)
                     clear hv351_0 ge351_0
                     clear hcc351 hce351
                     have HR351_0 := Aside0.mk hi351_0
                     have HC351_0 := Aside0.mk hl351_0
                     clear hi351_0 hl351_0
                     replace p351 := eq_true p351
                     replace q351 := eq_true q351
                     go_wp2
                     repeat (go_quiet (fail); try go_wp2)
                     go_roundg k6
                     case measure => have := HJ4.out; have := HK2.out; have := HJ38.out; have := HK4.out; have := HJ49.out; have := HK6.out; omega
                     case rel => exact ⟨(wrap64 (x18_4 + 1)), (by first | rfl | (simp; done) | (simp [*]; done)), H', ⟨by have := HJ4.out; have := HK2.out; have := HJ38.out; have := HK4.out; have := HJ49.out; have := HK6.out; omega⟩, ⟨mvR HO_11⟩, ⟨by (with_reducible repeat (first | apply Kd.S_alloc | apply Kd.S_drewN | apply Kd.S_drew)); exact HO_14.out⟩, ⟨by (with_reducible repeat (first | apply Kd.S_alloc | apply Kd.S_drewN | apply Kd.S_drew)); exact HO_16.out⟩, ⟨mvB HB⟩⟩
                   ·rw [if_neg c63] at H
                    exact absurd H (by simp)
                  ·rw [if_neg c62] at H
                   exact absurd H (by simp)
            ·rw [if_neg c49] at H
             have c49b0 : decide (x18_4 < (t334.length : Int)) = false := decide_eq_false c49
             clear c49
             replace H := Option.bind_eq_some_iff.mp H
             obtain ⟨t342, A800, H⟩ := H
             replace H : (some t342) = some r := H
             have A80 := Aside0.mk A800
             clear A800
             obtain rfl := Option.some.inj H
             obtain ⟨Ao81, co81, eo81⟩ := Kd.S_slice HO_14.out
             subst eo81
             go_wp2_with (first | (go_at_call 8; (with_reducible refine (selvedgelaw15_works.calls k4  t342 _ A80.out).mono ?_); rintro e w82 ⟨rfl, hb⟩; have n0_ := Aside0.mk (Kd.R_below (mvR HO_11) hb); have n1_ := Aside0.mk (Kd.S_below (by (with_reducible repeat (first | apply Kd.S_alloc | apply Kd.S_drewN | apply Kd.S_drew)); exact HO_14.out) hb); have n2_ := Aside0.mk (Kd.S_below (by (with_reducible repeat (first | apply Kd.S_alloc | apply Kd.S_drewN | apply Kd.S_drew)); exact HO_16.out) hb); have n3_ := Aside0.mk (below_step (mvB HB) hb); clear HO_11; clear HO_14; clear HO_16; clear HB; have HO_11 := n0_; have HO_14 := n1_; have HO_16 := n2_; have HB := n3_; clear n0_ n1_ n2_ n3_; (try clear hb); (try clear hb2); (try clear hk); (try clear hi)))
             repeat (go_quiet (first | (go_at_call 8; (with_reducible refine (selvedgelaw15_works.calls k4  t342 _ A80.out).mono ?_); rintro e w82 ⟨rfl, hb⟩; have n0_ := Aside0.mk (Kd.R_below (mvR HO_11) hb); have n1_ := Aside0.mk (Kd.S_below (by (with_reducible repeat (first | apply Kd.S_alloc | apply Kd.S_drewN | apply Kd.S_drew)); exact HO_14.out) hb); have n2_ := Aside0.mk (Kd.S_below (by (with_reducible repeat (first | apply Kd.S_alloc | apply Kd.S_drewN | apply Kd.S_drew)); exact HO_16.out) hb); have n3_ := Aside0.mk (below_step (mvB HB) hb); clear HO_11; clear HO_14; clear HO_16; clear HB; have HO_11 := n0_; have HO_14 := n1_; have HO_16 := n2_; have HB := n3_; clear n0_ n1_ n2_ n3_; (try clear hb); (try clear hb2); (try clear hk); (try clear hi))); try go_wp2_with (first | (go_at_call 8; (with_reducible refine (selvedgelaw15_works.calls k4  t342 _ A80.out).mono ?_); rintro e w82 ⟨rfl, hb⟩; have n0_ := Aside0.mk (Kd.R_below (mvR HO_11) hb); have n1_ := Aside0.mk (Kd.S_below (by (with_reducible repeat (first | apply Kd.S_alloc | apply Kd.S_drewN | apply Kd.S_drew)); exact HO_14.out) hb); have n2_ := Aside0.mk (Kd.S_below (by (with_reducible repeat (first | apply Kd.S_alloc | apply Kd.S_drewN | apply Kd.S_drew)); exact HO_16.out) hb); have n3_ := Aside0.mk (below_step (mvB HB) hb); clear HO_11; clear HO_14; clear HO_16; clear HB; have HO_11 := n0_; have HO_14 := n1_; have HO_16 := n2_; have HB := n3_; clear n0_ n1_ n2_ n3_; (try clear hb); (try clear hb2); (try clear hk); (try clear hi))))
             go_ret
             exact ⟨by first | rfl | (simp [errW_none, errW_some] <;> rfl) | (simp [*, errW_none, errW_some] <;> rfl), mvB HB⟩

/-- THE ONE PURE STATEMENT of selvedgelaw15_RunsWithout: yours. -/
def selvedgelaw15_RunsWithout.Pure : Prop := ∀ (l0 : List Int) (l1 : List Int) (a2 : Int) (l3 : List Int), l0.length ≤ maxLen → l0.length * 1 ≤ 140737488351232 → (∀ x ∈ l0, (Lit.int .u8 x).wf = true) → l1.length ≤ maxLen → l1.length * 1 ≤ 140737488351232 → (∀ x ∈ l1, (Lit.int .u8 x).wf = true) → (Lit.int .u8 a2).wf = true → l3.length ≤ maxLen → l3.length * 2 ≤ 140737488351232 → (∀ x ∈ l3, (Lit.int .u16 x).wf = true) → ∃ k, selvedgelaw15_RunsWithout.f k l0 l1 a2 l3 = some true
theorem selvedgelaw15_RunsWithout.walk (P : selvedgelaw15_RunsWithout.Pure) (a0 : Option Addr) (len0 cap0 : Nat) (z0 : List Int) (a1 : Option Addr) (len1 cap1 : Nat) (z1 : List Int) (a2 : Int) (a3 : Option Addr) (len3 cap3 : Nat) (z3 : List Int) (w : World) (w0 : (a0 = none ∧ len0 = 0 ∧ cap0 = 0 ∧ z0 = []) ∨ ∃ x, a0 = some x ∧ len0 ≤ cap0 ∧ cap0 ≤ maxLen ∧ z0.length = cap0 ∧ (∀ i, i < z0.length → w.cell? (x.add i) = some (.int .u8 (z0.getD i 0))) ∧ ∀ n ∈ z0, (Lit.int .u8 n).wf = true) (y0 : len0 * 1 ≤ 140737488351232) (w1 : (a1 = none ∧ len1 = 0 ∧ cap1 = 0 ∧ z1 = []) ∨ ∃ x, a1 = some x ∧ len1 ≤ cap1 ∧ cap1 ≤ maxLen ∧ z1.length = cap1 ∧ (∀ i, i < z1.length → w.cell? (x.add i) = some (.int .u8 (z1.getD i 0))) ∧ ∀ n ∈ z1, (Lit.int .u8 n).wf = true) (y1 : len1 * 1 ≤ 140737488351232) (w2 : (Lit.int .u8 a2).wf = true) (w3 : (a3 = none ∧ len3 = 0 ∧ cap3 = 0 ∧ z3 = []) ∨ ∃ x, a3 = some x ∧ len3 ≤ cap3 ∧ cap3 ≤ maxLen ∧ z3.length = cap3 ∧ (∀ i, i < z3.length → w.cell? (x.add i) = some (.int .u16 (z3.getD i 0))) ∧ ∀ n ∈ z3, (Lit.int .u16 n).wf = true) (y3 : len3 * 2 ≤ 140737488351232) :
  Calls Try.prog 5 #[.slice a0 len0 cap0, .slice a1 len1 cap1, .int .u8 a2, .slice a3 len3 cap3] w fun e w' => e = .returned (.bool true) ∧ Below w.heap.size w w' := by
 obtain ⟨l0, rfl, hr0, hm0, hw0, hc0⟩ := ReadsInt.ofRowC w0
 obtain ⟨l1, rfl, hr1, hm1, hw1, hc1⟩ := ReadsInt.ofRowC w1
 obtain ⟨l3, rfl, hr3, hm3, hw3, hc3⟩ := ReadsInt.ofRowC w3
 obtain ⟨k, h⟩ := P l0 l1 a2 l3 hm0 y0 hw0 hm1 y1 hw1 w2 hm3 y3 hw3
 refine (selvedgelaw15_RunsWithout.calls k _ _ l0 _ _ l1 a2 _ _ l3 true w (Kd.C_of_reads (d := (0 : Int)) (h1 := fun _ => rfl) hr0) hc0 (Kd.C_of_reads (d := (0 : Int)) (h1 := fun _ => rfl) hr1) hc1 (Kd.C_of_reads (d := (0 : Int)) (h1 := fun _ => rfl) hr3) hc3 h).mono ?_
 rintro e w' ⟨rfl, hd⟩
 exact ⟨rfl, hd⟩

end Go.Proofs.Ytofiflhjlohakaa.X
