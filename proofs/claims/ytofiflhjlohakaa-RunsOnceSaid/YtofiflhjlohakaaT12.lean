-- by xprint.py: the kit's printer over texts of this session
import Derived.Test.YtofiflhjlohakaaX0
import Derived.Test.YtofiflhjlohakaaX1
import Derived.Test.YtofiflhjlohakaaT9
import Derived.Test.YtofiflhjlohakaaU2
import Derived.Test.YtofiflhjlohakaaT8
namespace Go.Proofs.Ytofiflhjlohakaa.X
open Go.RowKit Go.Proofs.YtofiflhjlohakaaW.PrintWords Go.Proofs.YtofiflhjlohakaaW.PrintLast Go.Proofs.YtofiflhjlohakaaW.PrintMore
attribute [local go_sem] max2_int min2_int max_two min_two max_three min_three max_four min_four   -- for this text's walks alone
set_option linter.unusedVariables false
set_option linter.unusedSimpArgs false

/-! ### selvedgelaw15_RunsOnce: function 4 -/
mutual
def selvedgelaw15_RunsOnce.l0 : Nat → List Int → List Int → List (S36) → List Int → List Bool → Int → Option (Bool)
 | 0, _, _, _, _, _, _ => none
 | k + 1, x0, x5, x9, x11, x12, x13 => if x13 < (x9.length : Int) then (selvedgelaw15_RunsOnce.l1 k x0 x5 x9 x11 x12 x13 (-1) 0) else (selvedgelaw15_RunsOnce.l3 k x0 x12 0)
def selvedgelaw15_RunsOnce.l1 : Nat → List Int → List Int → List (S36) → List Int → List Bool → Int → Int → Int → Option (Bool)
 | 0, _, _, _, _, _, _, _, _ => none
 | k + 1, x0, x5, x9, x11, x12, x13, x14, x15 => if 0 ≤ x13 then (if x13 < (x9.length : Int) then (if x15 < (((rd_T36 x9 x13).f0).length : Int) then (if 0 ≤ x15 then (if (rd ((rd_T36 x9 x13).f0) x15) ≤ x14 then (none) else (if (rd ((rd_T36 x9 x13).f0) x15) ≥ (x0.length : Int) then (none) else (if 0 ≤ (rd ((rd_T36 x9 x13).f0) x15) then (if (rd ((rd_T36 x9 x13).f0) x15) < (x12.length : Int) then (if rdOf false x12 (rd ((rd_T36 x9 x13).f0) x15) = true then (none) else (if (rd ((rd_T36 x9 x13).f0) x15) < (x0.length : Int) then ((selvedgeref14_Removed.f (rd x0 (rd ((rd_T36 x9 x13).f0) x15))).bind fun t295 => (if t295 = true then (none) else (if (rd ((rd_T36 x9 x13).f0) x15) < (x5.length : Int) then (selvedgelaw15_RunsOnce.j2 k x0 x5 x9 x11 x12 x13 x14 x15 (rd ((rd_T36 x9 x13).f0) x15) ((rd x5 (rd ((rd_T36 x9 x13).f0) x15)) != ((rd_T36 x9 x13).f1))) else (none)))) else (none))) else (none)) else (none)))) else (none)) else (if (((rd_T36 x9 x13).f0).length : Int) = 0 then (none) else (if x13 > 0 then (if 0 < (((rd_T36 x9 x13).f0).length : Int) then (if 0 ≤ (wrap64 (x13 - 1)) then (if (wrap64 (x13 - 1)) < (x9.length : Int) then (if 0 < (((rd_T36 x9 (wrap64 (x13 - 1))).f0).length : Int) then (if (rd ((rd_T36 x9 x13).f0) 0) ≤ (rd ((rd_T36 x9 (wrap64 (x13 - 1))).f0) 0) then (none) else (selvedgelaw15_RunsOnce.l0 k x0 x5 x9 x11 x12 (wrap64 (x13 + 1)))) else (none)) else (none)) else (none)) else (none)) else (selvedgelaw15_RunsOnce.l0 k x0 x5 x9 x11 x12 (wrap64 (x13 + 1)))))) else (none)) else (none)
def selvedgelaw15_RunsOnce.j2 : Nat → List Int → List Int → List (S36) → List Int → List Bool → Int → Int → Int → Int → Bool → Option (Bool)
 | 0, _, _, _, _, _, _, _, _, _, _ => none
 | k + 1, x0, x5, x9, x11, x12, x13, x14, x15, x16, x105 => if x105 = true then (none) else (if 0 ≤ x16 then (if x16 < (x12.length : Int) then (selvedgelaw15_RunsOnce.l2 k x0 x5 x9 x11 (x12.set (x16 : Int).toNat true) x13 x14 x15 x16 (wrap64 (x14 + 1))) else (none)) else (none))
def selvedgelaw15_RunsOnce.l2 : Nat → List Int → List Int → List (S36) → List Int → List Bool → Int → Int → Int → Int → Int → Option (Bool)
 | 0, _, _, _, _, _, _, _, _, _, _ => none
 | k + 1, x0, x5, x9, x11, x12, x13, x14, x15, x16, x17 => if x15 > 0 then (selvedgelaw15_RunsOnce.j4 k x0 x5 x9 x11 x12 x13 x14 x15 x16 x17 (decide (x17 < x16))) else (selvedgelaw15_RunsOnce.j4 k x0 x5 x9 x11 x12 x13 x14 x15 x16 x17 false)
def selvedgelaw15_RunsOnce.j4 : Nat → List Int → List Int → List (S36) → List Int → List Bool → Int → Int → Int → Int → Int → Bool → Option (Bool)
 | 0, _, _, _, _, _, _, _, _, _, _, _ => none
 | k + 1, x0, x5, x9, x11, x12, x13, x14, x15, x16, x17, x117 => if x117 = true then (if 0 ≤ x17 then (if x17 < (x0.length : Int) then ((selvedgeref14_Removed.f (rd x0 x17)).bind fun t300 => (if t300 = true then (selvedgelaw15_RunsOnce.l2 k x0 x5 x9 x11 x12 x13 x14 x15 x16 (wrap64 (x17 + 1))) else (if 0 ≤ x14 then (if x14 < (x11.length : Int) then (if (rd x11 x14) = x16 then (selvedgelaw15_RunsOnce.l2 k x0 x5 x9 x11 x12 x13 x14 x15 x16 (wrap64 (x17 + 1))) else (none)) else (none)) else (none)))) else (none)) else (none)) else (selvedgelaw15_RunsOnce.l1 k x0 x5 x9 x11 x12 x13 x16 (wrap64 (x15 + 1)))
def selvedgelaw15_RunsOnce.l3 : Nat → List Int → List Bool → Int → Option (Bool)
 | 0, _, _, _ => none
 | k + 1, x0, x12, x18 => if x18 < (x0.length : Int) then (if 0 ≤ x18 then (if x18 < (x12.length : Int) then ((selvedgeref14_Removed.f (rd x0 x18)).bind fun t304 => (if ((rdOf false x12 x18) == t304) = true then (none) else (selvedgelaw15_RunsOnce.l3 k x0 x12 (wrap64 (x18 + 1))))) else (none)) else (none)) else ((selvedgelaw15_works.f k).bind fun t305 => (some t305))
end
def selvedgelaw15_RunsOnce.f (k : Nat) (l0 : List Int) (a1 : Int) : Option (Bool) := if (l0.length : Int) > 2000 then ((selvedgelaw15_works.f k).bind fun t265 => (some t265)) else ((selvedgeref14_Levels.f l0 a1).bind fun bt266 => (if bt266.2.2.2 = 0 then ((runs_Sequences.f l0 bt266.1 bt266.2.2.1).bind fun bt275 => (if bt275.2 = 0 then ((selvedgeref14_Match.f k l0).bind fun t279 => (if 0 ≤ (l0.length : Int) then (if ((l0.length : Int) : Int).toNat ≤ 281474976710656 then (selvedgelaw15_RunsOnce.l0 k l0 bt266.1 bt275.1 t279 (List.replicate ((l0.length : Int) : Int).toNat false) 0) else (none)) else (none))) else (none))) else ((selvedgelaw15_works.f k).bind fun t274 => (some t274))))
theorem selvedgelaw15_RunsOnce.mono_l : ∀ k, (∀ y0 y1 y2 y3 y4 y5, LeO (selvedgelaw15_RunsOnce.l0 k y0 y1 y2 y3 y4 y5) (selvedgelaw15_RunsOnce.l0 (k + 1) y0 y1 y2 y3 y4 y5)) ∧ (∀ y0 y1 y2 y3 y4 y5 y6 y7, LeO (selvedgelaw15_RunsOnce.l1 k y0 y1 y2 y3 y4 y5 y6 y7) (selvedgelaw15_RunsOnce.l1 (k + 1) y0 y1 y2 y3 y4 y5 y6 y7)) ∧ (∀ y0 y1 y2 y3 y4 y5 y6 y7 y8 y9, LeO (selvedgelaw15_RunsOnce.j2 k y0 y1 y2 y3 y4 y5 y6 y7 y8 y9) (selvedgelaw15_RunsOnce.j2 (k + 1) y0 y1 y2 y3 y4 y5 y6 y7 y8 y9)) ∧ (∀ y0 y1 y2 y3 y4 y5 y6 y7 y8 y9, LeO (selvedgelaw15_RunsOnce.l2 k y0 y1 y2 y3 y4 y5 y6 y7 y8 y9) (selvedgelaw15_RunsOnce.l2 (k + 1) y0 y1 y2 y3 y4 y5 y6 y7 y8 y9)) ∧ (∀ y0 y1 y2 y3 y4 y5 y6 y7 y8 y9 y10, LeO (selvedgelaw15_RunsOnce.j4 k y0 y1 y2 y3 y4 y5 y6 y7 y8 y9 y10) (selvedgelaw15_RunsOnce.j4 (k + 1) y0 y1 y2 y3 y4 y5 y6 y7 y8 y9 y10)) ∧ (∀ y0 y1 y2, LeO (selvedgelaw15_RunsOnce.l3 k y0 y1 y2) (selvedgelaw15_RunsOnce.l3 (k + 1) y0 y1 y2))
 | 0 => ⟨fun _ _ _ _ _ _ r h => by simp [selvedgelaw15_RunsOnce.l0] at h, fun _ _ _ _ _ _ _ _ r h => by simp [selvedgelaw15_RunsOnce.l1] at h, fun _ _ _ _ _ _ _ _ _ _ r h => by simp [selvedgelaw15_RunsOnce.j2] at h, fun _ _ _ _ _ _ _ _ _ _ r h => by simp [selvedgelaw15_RunsOnce.l2] at h, fun _ _ _ _ _ _ _ _ _ _ _ r h => by simp [selvedgelaw15_RunsOnce.j4] at h, fun _ _ _ r h => by simp [selvedgelaw15_RunsOnce.l3] at h⟩
 | k + 1 => by
  obtain ⟨ih0, ih1, ih2, ih3, ih4, ih5⟩ := selvedgelaw15_RunsOnce.mono_l k
  refine ⟨?_, ?_, ?_, ?_, ?_, ?_⟩
  ·intro y0 y1 y2 y3 y4 y5
   unfold selvedgelaw15_RunsOnce.l0
   repeat' first
   | (with_reducible exact ih0 _ _ _ _ _ _)
   | (with_reducible exact ih1 _ _ _ _ _ _ _ _)
   | (with_reducible exact ih2 _ _ _ _ _ _ _ _ _ _)
   | (with_reducible exact ih3 _ _ _ _ _ _ _ _ _ _)
   | (with_reducible exact ih4 _ _ _ _ _ _ _ _ _ _ _)
   | (with_reducible exact ih5 _ _ _)
   | (with_reducible exact selvedgelaw15_works.mono _)
   | (with_reducible exact selvedgeref14_Match.mono _ _)
   | (with_reducible exact LeO.refl _)
   | (with_reducible exact LeO.none _)
   | (with_reducible refine LeO.ite ?_ ?_)
   | (with_reducible refine LeO.bind ?_ (fun _ => ?_))
   | exact ih0 _ _ _ _ _ _
   | exact ih1 _ _ _ _ _ _ _ _
   | exact ih2 _ _ _ _ _ _ _ _ _ _
   | exact ih3 _ _ _ _ _ _ _ _ _ _
   | exact ih4 _ _ _ _ _ _ _ _ _ _ _
   | exact ih5 _ _ _
   | exact selvedgelaw15_works.mono _
   | exact selvedgeref14_Match.mono _ _
   | exact LeO.none _
   | refine LeO.ite ?_ ?_
   | refine LeO.bind ?_ (fun _ => ?_)
  ·intro y0 y1 y2 y3 y4 y5 y6 y7
   unfold selvedgelaw15_RunsOnce.l1
   repeat' first
   | (with_reducible exact ih0 _ _ _ _ _ _)
   | (with_reducible exact ih1 _ _ _ _ _ _ _ _)
   | (with_reducible exact ih2 _ _ _ _ _ _ _ _ _ _)
   | (with_reducible exact ih3 _ _ _ _ _ _ _ _ _ _)
   | (with_reducible exact ih4 _ _ _ _ _ _ _ _ _ _ _)
   | (with_reducible exact ih5 _ _ _)
   | (with_reducible exact selvedgelaw15_works.mono _)
   | (with_reducible exact selvedgeref14_Match.mono _ _)
   | (with_reducible exact LeO.refl _)
   | (with_reducible exact LeO.none _)
   | (with_reducible refine LeO.ite ?_ ?_)
   | (with_reducible refine LeO.bind ?_ (fun _ => ?_))
   | exact ih0 _ _ _ _ _ _
   | exact ih1 _ _ _ _ _ _ _ _
   | exact ih2 _ _ _ _ _ _ _ _ _ _
   | exact ih3 _ _ _ _ _ _ _ _ _ _
   | exact ih4 _ _ _ _ _ _ _ _ _ _ _
   | exact ih5 _ _ _
   | exact selvedgelaw15_works.mono _
   | exact selvedgeref14_Match.mono _ _
   | exact LeO.none _
   | refine LeO.ite ?_ ?_
   | refine LeO.bind ?_ (fun _ => ?_)
  ·intro y0 y1 y2 y3 y4 y5 y6 y7 y8 y9
   unfold selvedgelaw15_RunsOnce.j2
   repeat' first
   | (with_reducible exact ih0 _ _ _ _ _ _)
   | (with_reducible exact ih1 _ _ _ _ _ _ _ _)
   | (with_reducible exact ih2 _ _ _ _ _ _ _ _ _ _)
   | (with_reducible exact ih3 _ _ _ _ _ _ _ _ _ _)
   | (with_reducible exact ih4 _ _ _ _ _ _ _ _ _ _ _)
   | (with_reducible exact ih5 _ _ _)
   | (with_reducible exact selvedgelaw15_works.mono _)
   | (with_reducible exact selvedgeref14_Match.mono _ _)
   | (with_reducible exact LeO.refl _)
   | (with_reducible exact LeO.none _)
   | (with_reducible refine LeO.ite ?_ ?_)
   | (with_reducible refine LeO.bind ?_ (fun _ => ?_))
   | exact ih0 _ _ _ _ _ _
   | exact ih1 _ _ _ _ _ _ _ _
   | exact ih2 _ _ _ _ _ _ _ _ _ _
   | exact ih3 _ _ _ _ _ _ _ _ _ _
   | exact ih4 _ _ _ _ _ _ _ _ _ _ _
   | exact ih5 _ _ _
   | exact selvedgelaw15_works.mono _
   | exact selvedgeref14_Match.mono _ _
   | exact LeO.none _
   | refine LeO.ite ?_ ?_
   | refine LeO.bind ?_ (fun _ => ?_)
  ·intro y0 y1 y2 y3 y4 y5 y6 y7 y8 y9
   unfold selvedgelaw15_RunsOnce.l2
   repeat' first
   | (with_reducible exact ih0 _ _ _ _ _ _)
   | (with_reducible exact ih1 _ _ _ _ _ _ _ _)
   | (with_reducible exact ih2 _ _ _ _ _ _ _ _ _ _)
   | (with_reducible exact ih3 _ _ _ _ _ _ _ _ _ _)
   | (with_reducible exact ih4 _ _ _ _ _ _ _ _ _ _ _)
   | (with_reducible exact ih5 _ _ _)
   | (with_reducible exact selvedgelaw15_works.mono _)
   | (with_reducible exact selvedgeref14_Match.mono _ _)
   | (with_reducible exact LeO.refl _)
   | (with_reducible exact LeO.none _)
   | (with_reducible refine LeO.ite ?_ ?_)
   | (with_reducible refine LeO.bind ?_ (fun _ => ?_))
   | exact ih0 _ _ _ _ _ _
   | exact ih1 _ _ _ _ _ _ _ _
   | exact ih2 _ _ _ _ _ _ _ _ _ _
   | exact ih3 _ _ _ _ _ _ _ _ _ _
   | exact ih4 _ _ _ _ _ _ _ _ _ _ _
   | exact ih5 _ _ _
   | exact selvedgelaw15_works.mono _
   | exact selvedgeref14_Match.mono _ _
   | exact LeO.none _
   | refine LeO.ite ?_ ?_
   | refine LeO.bind ?_ (fun _ => ?_)
  ·intro y0 y1 y2 y3 y4 y5 y6 y7 y8 y9 y10
   unfold selvedgelaw15_RunsOnce.j4
   repeat' first
   | (with_reducible exact ih0 _ _ _ _ _ _)
   | (with_reducible exact ih1 _ _ _ _ _ _ _ _)
   | (with_reducible exact ih2 _ _ _ _ _ _ _ _ _ _)
   | (with_reducible exact ih3 _ _ _ _ _ _ _ _ _ _)
   | (with_reducible exact ih4 _ _ _ _ _ _ _ _ _ _ _)
   | (with_reducible exact ih5 _ _ _)
   | (with_reducible exact selvedgelaw15_works.mono _)
   | (with_reducible exact selvedgeref14_Match.mono _ _)
   | (with_reducible exact LeO.refl _)
   | (with_reducible exact LeO.none _)
   | (with_reducible refine LeO.ite ?_ ?_)
   | (with_reducible refine LeO.bind ?_ (fun _ => ?_))
   | exact ih0 _ _ _ _ _ _
   | exact ih1 _ _ _ _ _ _ _ _
   | exact ih2 _ _ _ _ _ _ _ _ _ _
   | exact ih3 _ _ _ _ _ _ _ _ _ _
   | exact ih4 _ _ _ _ _ _ _ _ _ _ _
   | exact ih5 _ _ _
   | exact selvedgelaw15_works.mono _
   | exact selvedgeref14_Match.mono _ _
   | exact LeO.none _
   | refine LeO.ite ?_ ?_
   | refine LeO.bind ?_ (fun _ => ?_)
  ·intro y0 y1 y2
   unfold selvedgelaw15_RunsOnce.l3
   repeat' first
   | (with_reducible exact ih0 _ _ _ _ _ _)
   | (with_reducible exact ih1 _ _ _ _ _ _ _ _)
   | (with_reducible exact ih2 _ _ _ _ _ _ _ _ _ _)
   | (with_reducible exact ih3 _ _ _ _ _ _ _ _ _ _)
   | (with_reducible exact ih4 _ _ _ _ _ _ _ _ _ _ _)
   | (with_reducible exact ih5 _ _ _)
   | (with_reducible exact selvedgelaw15_works.mono _)
   | (with_reducible exact selvedgeref14_Match.mono _ _)
   | (with_reducible exact LeO.refl _)
   | (with_reducible exact LeO.none _)
   | (with_reducible refine LeO.ite ?_ ?_)
   | (with_reducible refine LeO.bind ?_ (fun _ => ?_))
   | exact ih0 _ _ _ _ _ _
   | exact ih1 _ _ _ _ _ _ _ _
   | exact ih2 _ _ _ _ _ _ _ _ _ _
   | exact ih3 _ _ _ _ _ _ _ _ _ _
   | exact ih4 _ _ _ _ _ _ _ _ _ _ _
   | exact ih5 _ _ _
   | exact selvedgelaw15_works.mono _
   | exact selvedgeref14_Match.mono _ _
   | exact LeO.none _
   | refine LeO.ite ?_ ?_
   | refine LeO.bind ?_ (fun _ => ?_)
theorem selvedgelaw15_RunsOnce.mono : ∀ a0 a1 k, LeO (selvedgelaw15_RunsOnce.f k a0 a1) (selvedgelaw15_RunsOnce.f (k + 1) a0 a1) := by
 intro a0 a1 k
 obtain ⟨ih0, ih1, ih2, ih3, ih4, ih5⟩ := selvedgelaw15_RunsOnce.mono_l k
 unfold selvedgelaw15_RunsOnce.f
 repeat' first
   | (with_reducible exact ih0 _ _ _ _ _ _)
   | (with_reducible exact ih1 _ _ _ _ _ _ _ _)
   | (with_reducible exact ih2 _ _ _ _ _ _ _ _ _ _)
   | (with_reducible exact ih3 _ _ _ _ _ _ _ _ _ _)
   | (with_reducible exact ih4 _ _ _ _ _ _ _ _ _ _ _)
   | (with_reducible exact ih5 _ _ _)
   | (with_reducible exact selvedgelaw15_works.mono _)
   | (with_reducible exact selvedgeref14_Match.mono _ _)
   | (with_reducible exact LeO.refl _)
   | (with_reducible exact LeO.none _)
   | (with_reducible refine LeO.ite ?_ ?_)
   | (with_reducible refine LeO.bind ?_ (fun _ => ?_))
   | exact ih0 _ _ _ _ _ _
   | exact ih1 _ _ _ _ _ _ _ _
   | exact ih2 _ _ _ _ _ _ _ _ _ _
   | exact ih3 _ _ _ _ _ _ _ _ _ _
   | exact ih4 _ _ _ _ _ _ _ _ _ _ _
   | exact ih5 _ _ _
   | exact selvedgelaw15_works.mono _
   | exact selvedgeref14_Match.mono _ _
   | exact LeO.none _
   | refine LeO.ite ?_ ?_
   | refine LeO.bind ?_ (fun _ => ?_)
def selvedgelaw15_RunsOnce.T19 : Bool × List (List Nat × List Nat) := (true, [([], []), ([], []), ([0, 1], [0, 1]), ([2], [2]), ([3], [3]), ([3], [3]), ([5, 3], [3, 5]), ([4, 6, 3], [3, 4, 6]), ([3, 7], [3, 7]), ([8, 3], [8]), ([9], [9]), ([9], [9]), ([10, 11, 9], [9, 10, 11]), ([12, 9], [9, 12]), ([9, 13], [9, 13]), ([14, 9], [14]), ([15], [15]), ([15], [15]), ([16, 17, 15], [15, 16, 17]), ([18, 15], [15, 18]), ([19, 15, 15], [15, 19]), ([15, 20], [15, 20]), ([21, 20], [21]), ([22], [22]), ([22], [22]), ([23, 24, 22], [22, 23, 24]), ([25, 22], [22, 25]), ([22], [22]), ([22], [22]), ([27, 28, 22], [22, 27, 28]), ([29, 22], [22, 29]), ([30, 22], [22, 30]), ([26, 31, 22], [22, 26, 31]), ([22, 32], [22, 32])])
def selvedgelaw15_RunsOnce.B19 : List Nat := [0, 0, 3, 7, 15, 15, 47, 127, 255, 511, 1023, 1023, 4095, 8191, 16383, 32767, 65535, 65535, 262143, 524287, 1048575, 2097151, 4194303, 8388607, 8388607, 33554431, 67108863, 8388607, 8388607, 411041791, 947912703, 2021654527, 4294967295, 8589934591]
theorem selvedgelaw15_RunsOnce.tab19 : rtab .any (opsOf Try.f4 19) = selvedgelaw15_RunsOnce.T19 := by kernel_rfl
theorem selvedgelaw15_RunsOnce.bits19 : waitsOk selvedgelaw15_RunsOnce.T19.2 selvedgelaw15_RunsOnce.B19 = true := by kernel_rfl
def selvedgelaw15_RunsOnce.T28 : Bool × List (List Nat × List Nat) := (true, [([], []), ([], []), ([0, 1], [0, 1]), ([2], [2]), ([3], [3]), ([4], [4]), ([5], [5]), ([6], [6]), ([7], [7]), ([8, 7], [7, 8]), ([9, 7, 7], [7, 9]), ([10], [10]), ([10], [10]), ([11, 12, 10], [10, 11, 12]), ([13, 10], [10, 13]), ([14, 10], [10, 14]), ([15, 10], [10, 15]), ([16, 10], [10, 16]), ([10], [10]), ([10], [10]), ([19, 10], [10, 19]), ([18, 20, 10], [10, 18, 20]), ([21, 10], [10, 21]), ([22, 10], [10, 22]), ([23, 10], [10, 23]), ([24, 10], [10, 24]), ([17, 25, 10], [10, 17, 25]), ([10, 26, 7], [7, 10, 26]), ([7, 27], [7, 27])])
def selvedgelaw15_RunsOnce.B28 : List Nat := [0, 0, 3, 7, 15, 31, 63, 127, 255, 511, 1023, 2047, 2047, 8191, 16383, 32767, 65535, 131071, 2047, 2047, 526335, 1837055, 3934207, 8128511, 16517119, 33294335, 67108863, 134217727, 268435455]
theorem selvedgelaw15_RunsOnce.tab28 : rtab .any (opsOf Try.f4 28) = selvedgelaw15_RunsOnce.T28 := by kernel_rfl
theorem selvedgelaw15_RunsOnce.bits28 : waitsOk selvedgelaw15_RunsOnce.T28.2 selvedgelaw15_RunsOnce.B28 = true := by kernel_rfl
def selvedgelaw15_RunsOnce.T33 : Bool × List (List Nat × List Nat) := (true, [([], []), ([], []), ([0, 1], [0, 1]), ([2], [2]), ([], []), ([], []), ([4, 5], [4, 5]), ([6], [6]), ([7], [7]), ([3, 8], [3, 8])])
def selvedgelaw15_RunsOnce.B33 : List Nat := [0, 0, 3, 7, 0, 0, 48, 112, 240, 511]
theorem selvedgelaw15_RunsOnce.tab33 : rtab .any (opsOf Try.f4 33) = selvedgelaw15_RunsOnce.T33 := by kernel_rfl
theorem selvedgelaw15_RunsOnce.bits33 : waitsOk selvedgelaw15_RunsOnce.T33.2 selvedgelaw15_RunsOnce.B33 = true := by kernel_rfl
set_option maxHeartbeats 8000000 in
set_option maxRecDepth 100000 in
theorem selvedgelaw15_RunsOnce.calls (k : Nat) (A0 : Option Addr) (c0 : Nat) (l0 : List Int) (a1 : Int) (r : Bool) (w : World) (hr0 : Kd.C (Kd.int .u8) w A0 l0.length l0) (hc0 : l0.length ≤ c0) (h : selvedgelaw15_RunsOnce.f k l0 a1 = some r) :
  Calls Try.prog 4 #[.slice A0 l0.length c0, .int .u8 a1] w fun e w' => e = .returned (.bool r) ∧ Below w.heap.size w w' := by
 have HR0 := Aside0.mk hr0
 have HC0 := Aside0.mk hc0
 clear hr0 hc0
 have HB := Aside0.mk (Below.refl w.heap.size w)
 have H : (if (l0.length : Int) > 2000 then ((selvedgelaw15_works.f k).bind fun t265 => (some t265)) else ((selvedgeref14_Levels.f l0 a1).bind fun bt266 => (if bt266.2.2.2 = 0 then ((runs_Sequences.f l0 bt266.1 bt266.2.2.1).bind fun bt275 => (if bt275.2 = 0 then ((selvedgeref14_Match.f k l0).bind fun t279 => (if 0 ≤ (l0.length : Int) then (if ((l0.length : Int) : Int).toNat ≤ 281474976710656 then (selvedgelaw15_RunsOnce.l0 k l0 bt266.1 bt275.1 t279 (List.replicate ((l0.length : Int) : Int).toNat false) 0) else (none)) else (none))) else (none))) else ((selvedgelaw15_works.f k).bind fun t274 => (some t274))))) = some r := h
 clear h
 by_cases c3 : (l0.length : Int) > 2000
 ·rw [if_pos c3] at H
  have c3b0 : decide (2000 < (l0.length : Int)) = true := decide_eq_true c3
  have c3b1 : decide (2000 < l0.length) = true := decide_eq_true (by omega)
  clear c3
  replace H := Option.bind_eq_some_iff.mp H
  obtain ⟨t265, A40, H⟩ := H
  replace H : (some t265) = some r := H
  have A4 := Aside0.mk A40
  clear A40
  obtain rfl := Option.some.inj H
  go_enter Try.func4, Try.ntmps4
  go_wp2_with (first | ((with_reducible refine gate_callee (f := 8) rfl ?_); refine goesL_ (some 22) rfl rfl Try.func8 (by kernel_rfl) rfl #[] rfl (by (try simp only [List.map_toArray, List.map_cons, List.map_nil]); first | done | rfl | (simp only [List.length_drop, List.length_take]; rfl)) ?_; (with_reducible refine (selvedgelaw15_works.calls k  t265 _ A4.out).mono ?_); rintro e w5 ⟨rfl, hb⟩; refine ⟨_, rfl, ?_⟩; have n0_ := Aside0.mk (below_step (mvB HB) hb); clear HB; have HB := n0_; clear n0_; (try clear hb); (try clear hb2); (try clear hk); (try clear hi)))
  go_ret
  exact ⟨by first | rfl | (simp [errW_none, errW_some] <;> rfl) | (simp [*, errW_none, errW_some] <;> rfl), mvB HB⟩
 ·rw [if_neg c3] at H
  have c3b0 : decide (2000 < (l0.length : Int)) = false := decide_eq_false c3
  have c3b1 : decide (2000 < l0.length) = false := decide_eq_false (by omega)
  clear c3
  replace H := Option.bind_eq_some_iff.mp H
  obtain ⟨⟨t266, t267, t268, t269⟩, A60, H⟩ := H
  replace H : (if t269 = 0 then ((runs_Sequences.f l0 t266 t268).bind fun bt275 => (if bt275.2 = 0 then ((selvedgeref14_Match.f k l0).bind fun t279 => (if 0 ≤ (l0.length : Int) then (if ((l0.length : Int) : Int).toNat ≤ 281474976710656 then (selvedgelaw15_RunsOnce.l0 k l0 t266 bt275.1 t279 (List.replicate ((l0.length : Int) : Int).toNat false) 0) else (none)) else (none))) else (none))) else ((selvedgelaw15_works.f k).bind fun t274 => (some t274))) = some r := H
  have A6 := Aside0.mk A60
  clear A60
  by_cases c7 : t269 = 0
  ·rw [if_pos c7] at H
   have c7b0 : (t269 == 0) = true := beq_iff_eq.mpr c7
   have c7b1 : (t269 != 0) = false := bne_eq_false_iff_eq.mpr c7
   clear c7
   replace H := Option.bind_eq_some_iff.mp H
   obtain ⟨⟨t275, t276⟩, A80, H⟩ := H
   replace H : (if t276 = 0 then ((selvedgeref14_Match.f k l0).bind fun t279 => (if 0 ≤ (l0.length : Int) then (if ((l0.length : Int) : Int).toNat ≤ 281474976710656 then (selvedgelaw15_RunsOnce.l0 k l0 t266 t275 t279 (List.replicate ((l0.length : Int) : Int).toNat false) 0) else (none)) else (none))) else (none)) = some r := H
   have A8 := Aside0.mk A80
   clear A80
   by_cases c9 : t276 = 0
   ·rw [if_pos c9] at H
    have c9b0 : (t276 == 0) = true := beq_iff_eq.mpr c9
    have c9b1 : (t276 != 0) = false := bne_eq_false_iff_eq.mpr c9
    clear c9
    replace H := Option.bind_eq_some_iff.mp H
    obtain ⟨t279, A100, H⟩ := H
    replace H : (if 0 ≤ (l0.length : Int) then (if ((l0.length : Int) : Int).toNat ≤ 281474976710656 then (selvedgelaw15_RunsOnce.l0 k l0 t266 t275 t279 (List.replicate ((l0.length : Int) : Int).toNat false) 0) else (none)) else (none)) = some r := H
    have A10 := Aside0.mk A100
    clear A100
    by_cases c11 : 0 ≤ (l0.length : Int)
    ·rw [if_pos c11] at H
     have c11b0 := eq_true c11
     have c11b1 : decide (0 ≤ (l0.length : Int)) = true := decide_eq_true c11
     clear c11
     by_cases c12 : ((l0.length : Int) : Int).toNat ≤ 281474976710656
     ·rw [if_pos c12] at H
      have c12b0 := eq_true c12
      have c12b1 : decide (((l0.length : Int) : Int).toNat ≤ 281474976710656) = true := decide_eq_true c12
      clear c12
      obtain ⟨y282, hy282⟩ : ∃ y_ : List Bool, y_ = (List.replicate ((l0.length : Int) : Int).toNat false) := ⟨_, rfl⟩
      replace H : (selvedgelaw15_RunsOnce.l0 k l0 t266 t275 t279 y282 0) = some r := by first | (rw [hy282]; with_reducible exact H) | (have H2_ := (Option.bind_some _ _).symm.trans H; rw [hy282]; with_reducible exact H2_) | (have H2_ := (Option.bind_some _ _).symm.trans H; with_reducible exact H2_) | with_reducible exact H | (rw [hy282]; exact H) | exact H
      have Ny282 := Aside0.mk hy282
      clear hy282
      have H' := Aside0.mk H
      clear H
      go_enter Try.func4, Try.ntmps4
      go_wp2_with (first | ((with_reducible refine gate_callee (f := 12) rfl ?_); refine goesL_ (some 26) rfl rfl Try.func12 (by kernel_rfl) rfl #[.slice A0 l0.length c0, .int .u8 a1] rfl (by (try simp only [List.map_toArray, List.map_cons, List.map_nil]); first | done | rfl | (simp only [List.length_drop, List.length_take]; rfl)) ?_; (with_reducible refine (selvedgeref14_Levels.calls _ _ l0 a1 t266 t267 t268 t269 _ ?side1 ?side2 A6.out).mono ?_); (case side1 => repeat (first | exact HR0.out | (with_reducible refine Kd.C_alloc ?_ _) | (with_reducible refine Kd.C_drewN ?_ _) | (with_reducible refine Kd.C_drew ?_))); (case side2 => exact HC0.out); rintro e w13 ⟨v270, v272, rfl, ho0, ho1, hb⟩; refine ⟨_, rfl, ?_⟩; have n0_ := Aside0.mk (Kd.R_lower ho0 (below_size (mvB HB))); have n1_ := Aside0.mk (Kd.R_lower ho1 (below_size (mvB HB))); have n2_ := Aside0.mk (below_step (mvB HB) hb); clear HB; have HO271 := n0_; have HO273 := n1_; have HB := n2_; clear n0_ n1_ n2_; (try clear hb); (try clear hb2); (try clear hk); (try clear hi); (try clear ho0); (try clear ho1); obtain ⟨Ao14, co14, eo14⟩ := Kd.R_slice HO271.out; subst eo14) | ((with_reducible refine gate_callee (f := 10) rfl ?_); refine goesL_ (some 38) rfl rfl Try.func10 (by kernel_rfl) rfl #[.slice A0 l0.length c0, .slice Ao14 t266.length co14, .int .u8 t268] rfl (by (try simp only [List.map_toArray, List.map_cons, List.map_nil]); first | done | rfl | (simp only [List.length_drop, List.length_take]; rfl)) ?_; (with_reducible refine (runs_Sequences.calls _ _ l0 _ _ t266 t268 t275 t276 _ ?side1 ?side2 ?side3 ?side4 A8.out).mono ?_); (case side1 => repeat (first | exact (Kd.C_below HR0.out HB.out) | (with_reducible refine Kd.C_alloc ?_ _) | (with_reducible refine Kd.C_drewN ?_ _) | (with_reducible refine Kd.C_drew ?_))); (case side2 => exact HC0.out); (case side3 => repeat (first | exact (Kd.R_reads' HO271.out).2.2 | (with_reducible refine Kd.C_alloc ?_ _) | (with_reducible refine Kd.C_drewN ?_ _) | (with_reducible refine Kd.C_drew ?_))); (case side4 => exact (Kd.R_reads' HO271.out).2.1); rintro e w15 ⟨v277, rfl, ho0, hb⟩; refine ⟨_, rfl, ?_⟩; have n0_ := Aside0.mk (Kd.R_below (mvR HO271) hb); have n1_ := Aside0.mk (Kd.R_below (mvR HO273) hb); have n2_ := Aside0.mk (Kd.S_lower ho0 (below_size (mvB HB))); have n3_ := Aside0.mk (below_step (mvB HB) hb); clear HO271; clear HO273; clear HB; have HO271 := n0_; have HO273 := n1_; have HO278 := n2_; have HB := n3_; clear n0_ n1_ n2_ n3_; (try clear hb); (try clear hb2); (try clear hk); (try clear hi); (try clear ho0)) | ((with_reducible refine gate_callee (f := 13) rfl ?_); refine goesL_ (some 44) rfl rfl Try.func13 (by kernel_rfl) rfl #[.slice A0 l0.length c0] rfl (by (try simp only [List.map_toArray, List.map_cons, List.map_nil]); first | done | rfl | (simp only [List.length_drop, List.length_take]; rfl)) ?_; (with_reducible refine (selvedgeref14_Match.calls k _ _ l0 t279 _ ?side1 ?side2 A10.out).mono ?_); (case side1 => repeat (first | exact (Kd.C_below HR0.out HB.out) | (with_reducible refine Kd.C_alloc ?_ _) | (with_reducible refine Kd.C_drewN ?_ _) | (with_reducible refine Kd.C_drew ?_))); (case side2 => exact HC0.out); rintro e w16 ⟨v280, rfl, ho0, hb⟩; refine ⟨_, rfl, ?_⟩; have n0_ := Aside0.mk (Kd.R_below (mvR HO271) hb); have n1_ := Aside0.mk (Kd.R_below (mvR HO273) hb); have n2_ := Aside0.mk (Kd.S_elder' (by (with_reducible repeat (first | apply Kd.S_alloc | apply Kd.S_drewN | apply Kd.S_drew)); exact HO278.out) (Kd.R_base ho0) hb); have n3_ := Aside0.mk (Kd.R_lower ho0 (below_size (mvB HB))); have n4_ := Aside0.mk (below_step (mvB HB) hb); clear HO271; clear HO273; clear HO278; clear HB; have HO271 := n0_; have HO273 := n1_; have HO278 := n2_; have HO281 := n3_; have HB := n4_; clear n0_ n1_ n2_ n3_ n4_; (try clear hb); (try clear hb2); (try clear hk); (try clear hi); (try clear ho0)) | ((with_reducible refine gate_dst (N := 47) rfl ?_); (try (refine gate_guard (by rfl) ?_; dsimp only)); refine Kd.R_make Kd.bool _ 4 rfl (N := 47) rfl 41 _ _ rfl (l0.length : Int) rfl rfl Try.underlying41 (.bool false) 1 info4 rfl (by decide) (by omega) false (ok := fun _ => True) (okp := fun _ => True) rfl (fun _ hk => hk) trivial (of_decide_eq_true (by first | (with_reducible assumption) | assumption)) (Nat.le_trans (Nat.mul_le_mul_right _ (of_decide_eq_true (by first | (with_reducible assumption) | assumption) : (l0.length : Int).toNat ≤ 281474976710656)) (by omega)) (Below.refl _ _) (Nat.le_refl _) ?_; intro v283 w17 ho18 hb hg_ hnew_; clear hg_ hnew_; (first | rw [← Ny282.out] at ho18 | (simp only [Int.reduceToNat] at ho18; rw [← Ny282.out] at ho18)); have n0_ := Aside0.mk (Kd.R_below (mvR HO271) hb); have n1_ := Aside0.mk (Kd.R_below (mvR HO273) hb); have n2_ := Aside0.mk (Kd.S_below (by (with_reducible repeat (first | apply Kd.S_alloc | apply Kd.S_drewN | apply Kd.S_drew)); exact HO278.out) hb); have n3_ := Aside0.mk (Kd.R_below (mvR HO281) hb); have n4_ := Aside0.mk (Kd.R_lower ho18 (below_size (mvB HB))); have n5_ := Aside0.mk (below_step (mvB HB) hb); clear HO271; clear HO273; clear HO278; clear HO281; clear HB; have HO271 := n0_; have HO273 := n1_; have HO278 := n2_; have HO281 := n3_; have HO284 := n4_; have HB := n5_; clear n0_ n1_ n2_ n3_ n4_ n5_; clear hb ho18))
      go_loopg [13] k (fun kq v13 w' => ∃ (x12_1 : List Bool) (x13_1 : Int), v13 = .int .i64 x13_1 ∧ Aside0 (selvedgelaw15_RunsOnce.l0 kq l0 t266 t275 t279 x12_1 x13_1 = some r) ∧ Aside0 (kq ≤ k) ∧ Aside0 (Kd.R (Kd.int .u8) 5 w' w.heap.size (fun _ => True) (.slice Ao14 t266.length co14) t266) ∧ Aside0 (Kd.S k36 36 w' w.heap.size (fun k_ => some k_ ≠ (v280 : Value).ownBlock) v277 t275) ∧ Aside0 (Kd.R (Kd.int .i64) 3 w' w.heap.size (fun _ => True) v280 t279) ∧ Aside0 (Kd.R Kd.bool 4 w' w.heap.size (fun _ => True) v283 x12_1) ∧ Aside0 (Below w.heap.size w w'))
      case atStart => exact ⟨(y282), (0), (by first | rfl | (simp; done) | (simp [*]; done)), H', ⟨Nat.le_refl _⟩, ⟨mvR HO271⟩, ⟨by (with_reducible repeat (first | apply Kd.S_alloc | apply Kd.S_drewN | apply Kd.S_drew)); exact Kd.S_mono HO278.out (fun _ hk => hk.2)⟩, ⟨mvR HO281⟩, ⟨mvR HO284⟩, ⟨mvB HB⟩⟩
      case round =>
       clear H'
       try clear c1
       try clear p2
       try clear c3
       try clear c3b0
       try clear c3b1
       try clear c4
       try clear c7
       try clear c7b0
       try clear c7b1
       try clear c8
       try clear c9
       try clear c9b0
       try clear c9b1
       try clear c10
       try clear c11
       try clear c11b0
       try clear c11b1
       try clear c12
       try clear c12b0
       try clear c12b1
       try clear c13
       obtain ⟨x12_1, x13_1, rfl, HA, HK1, HO_5, HO_9, HO_11, HO_12, HB⟩ := hrel
       cases gk with
       | zero => exact absurd HA.out (by simp [selvedgelaw15_RunsOnce.l0])
       | succ k1 =>
        have H := HA.out
        clear HA
        simp only [selvedgelaw15_RunsOnce.l0] at H
        by_cases c19 : x13_1 < (t275.length : Int)
        ·rw [if_pos c19] at H
         have c19b0 : decide (x13_1 < (t275.length : Int)) = true := decide_eq_true c19
         clear c19
         have H' := Aside0.mk H
         clear H
         obtain ⟨Ao20, co20, eo20⟩ := Kd.S_slice HO_9.out
         subst eo20
         go_wp2
         go_loopg [14, 15] k1 (fun kq v14 v15 w' => ∃ (x12_2 : List Bool) (x14_2 : Int) (x15_2 : Int), v14 = .int .i64 x14_2 ∧ v15 = .int .i64 x15_2 ∧ Aside0 (selvedgelaw15_RunsOnce.l1 kq l0 t266 t275 t279 x12_2 x13_1 x14_2 x15_2 = some r) ∧ Aside0 (kq ≤ k1) ∧ Aside0 (Kd.R (Kd.int .u8) 5 w' w.heap.size (fun _ => True) (.slice Ao14 t266.length co14) t266) ∧ Aside0 (Kd.S k36 36 w' w.heap.size (fun k_ => some k_ ≠ (v280 : Value).ownBlock) (.slice Ao20 t275.length co20) t275) ∧ Aside0 (Kd.R (Kd.int .i64) 3 w' w.heap.size (fun _ => True) v280 t279) ∧ Aside0 (Kd.R Kd.bool 4 w' w.heap.size (fun _ => True) v283 x12_2) ∧ Aside0 (Below w.heap.size w w'))
         case atStart => exact ⟨(x12_1), ((-1)), (0), (by first | rfl | (simp; done) | (simp [*]; done)), (by first | rfl | (simp; done) | (simp [*]; done)), H', ⟨Nat.le_refl _⟩, ⟨mvR HO_5⟩, ⟨by (with_reducible repeat (first | apply Kd.S_alloc | apply Kd.S_drewN | apply Kd.S_drew)); exact HO_9.out⟩, ⟨mvR HO_11⟩, ⟨mvR HO_12⟩, ⟨mvB HB⟩⟩
         case round =>
          clear H'
          try clear c1
          try clear p2
          try clear c3
          try clear c3b0
          try clear c3b1
          try clear c4
          try clear c7
          try clear c7b0
          try clear c7b1
          try clear c8
          try clear c9
          try clear c9b0
          try clear c9b1
          try clear c10
          try clear c11
          try clear c11b0
          try clear c11b1
          try clear c12
          try clear c12b0
          try clear c12b1
          try clear c13
          try clear c19
          try clear c19b0
          try clear p2
          obtain ⟨x12_2, x14_2, x15_2, rfl, rfl, HA, HK2, HO_5, HO_9, HO_11, HO_12, HB⟩ := hrel
          cases gk with
          | zero => exact absurd HA.out (by simp [selvedgelaw15_RunsOnce.l1])
          | succ k2 =>
           have H := HA.out
           clear HA
           simp only [selvedgelaw15_RunsOnce.l1] at H
           by_cases c21 : 0 ≤ x13_1
           ·rw [if_pos c21] at H
            have c21b0 : decide (0 ≤ x13_1) = true := decide_eq_true c21
            clear c21
            by_cases c22 : x13_1 < (t275.length : Int)
            ·rw [if_pos c22] at H
             have c22b0 : decide (x13_1 < (t275.length : Int)) = true := decide_eq_true c22
             clear c22
             by_cases c23 : x15_2 < (((rd_T36 t275 x13_1).f0).length : Int)
             ·rw [if_pos c23] at H
              have c23b0 : decide (x15_2 < (((rd_T36 t275 x13_1).f0).length : Int)) = true := decide_eq_true c23
              clear c23
              by_cases c24 : 0 ≤ x15_2
              ·rw [if_pos c24] at H
               have c24b0 : decide (0 ≤ x15_2) = true := decide_eq_true c24
               clear c24
               have HC25 := Aside0.mk H
               clear H
               have p285 := dT (0 ≤ (x13_1 : Int))
               have q285 := dT (x13_1 < (t275.length : Int))
               obtain ⟨ad285, A285_0, c285_0, e285, hx285_0, hx285_1, hx285_2, hx285_3, hl285_0, hi285_0⟩ := at_T36 (Kd.S_reads' HO_9.out).2.2 x13_1 p285 q285
               cases e285
               obtain ⟨ce285, hce285, hMe285, hcc285⟩ := Kd.S_get HO_9.out z36 x13_1 p285 (by first | exact q285 | exact of_decide_eq_true (by first | (with_reducible assumption) | assumption) | (have e_ := (Kd.S_reads' HO_9.out).1; omega))
               obtain ⟨ve285_0, rfl, ge285_0⟩ := k36_openM hMe285
               have hv285_0 := hcc285 0 _ rfl
               rw [Nat.add_zero] at hv285_0
               replace hv285_0 := Option.some.inj (hv285_0.symm.trans hx285_0)
               rw [hv285_0] at ge285_0
               have HL285_0 := Aside0.mk (show Kd.R (Kd.int .i64) 3 _ _ _ _ ((rd_T36 t275 x13_1).f0) from ge285_0)
               clear hv285_0 ge285_0
               clear hcc285 hce285
               have HR285_0 := Aside0.mk hi285_0
               have HC285_0 := Aside0.mk hl285_0
               clear hi285_0 hl285_0
               replace p285 := eq_true p285
               replace q285 := eq_true q285
               have p291 := dT (0 ≤ (x13_1 : Int))
               have q291 := dT (x13_1 < (t275.length : Int))
               obtain ⟨ad291, A291_0, c291_0, e291, hx291_0, hx291_1, hx291_2, hx291_3, hl291_0, hi291_0⟩ := at_T36 (Kd.S_reads' HO_9.out).2.2 x13_1 p291 q291
               obtain rfl : ad285 = ad291 := (by injection e291)
               obtain ⟨ce291, hce291, hMe291, hcc291⟩ := Kd.S_get HO_9.out z36 x13_1 p291 (by first | exact q291 | exact of_decide_eq_true (by first | (with_reducible assumption) | assumption) | (have e_ := (Kd.S_reads' HO_9.out).1; omega))
               obtain ⟨ve291_0, rfl, ge291_0⟩ := k36_openM hMe291
               have hv291_0 := hcc291 0 _ rfl
               rw [Nat.add_zero] at hv291_0
               replace hv291_0 := Option.some.inj (hv291_0.symm.trans hx291_0)
               rw [hv291_0] at ge291_0
               have HL291_0 := Aside0.mk (show Kd.R (Kd.int .i64) 3 _ _ _ _ ((rd_T36 t275 x13_1).f0) from ge291_0)
               clear hv291_0 ge291_0
               clear hcc291 hce291
               have HR291_0 := Aside0.mk hi291_0
               have HC291_0 := Aside0.mk hl291_0
               clear hi291_0 hl291_0
               replace p291 := eq_true p291
               replace q291 := eq_true q291
               have ea_ := Option.some.inj (hx285_0.symm.trans hx291_0)
               injection ea_ with ea_ en_ ec_
               subst ea_
               subst ec_
               clear en_
               obtain ⟨ad292, e292, hx292_0, p292, q292⟩ := atI (by repeat (first | (with_reducible exact HR291_0.out) | (with_reducible refine Kd.C_alloc ?_ _) | (with_reducible refine Kd.C_drewN ?_ _) | (with_reducible refine Kd.C_drew ?_) | exact HR291_0.out)) x15_2
               cases e292
               go_upto_region 19 with (fail)
               go_cut [105] (fun v105 wc => ∃ (kq : Nat) (x105_24 : Bool), v105 = .bool x105_24 ∧ Aside0 (selvedgelaw15_RunsOnce.j2 kq l0 t266 t275 t279 x12_2 x13_1 x14_2 x15_2 (rd ((rd_T36 t275 x13_1).f0) x15_2) x105_24 = some r) ∧ Aside0 (kq ≤ k2) ∧ Aside0 (Kd.R (Kd.int .u8) 5 wc w.heap.size (fun _ => True) (.slice Ao14 t266.length co14) t266) ∧ Aside0 (Kd.S k36 36 wc w.heap.size (fun k_ => some k_ ≠ (v280 : Value).ownBlock) (.slice (some ad285) t275.length co20) t275) ∧ Aside0 (Kd.R (Kd.int .i64) 3 wc w.heap.size (fun _ => True) v280 t279) ∧ Aside0 (Kd.R Kd.bool 4 wc w.heap.size (fun _ => True) v283 x12_2) ∧ Aside0 (Kd.C (Kd.int .i64) wc (some ad292) ((rd_T36 t275 x13_1).f0).length ((rd_T36 t275 x13_1).f0)) ∧ Aside0 (Kd.C (Kd.int .i64) wc (some ad292) ((rd_T36 t275 x13_1).f0).length ((rd_T36 t275 x13_1).f0)) ∧ Aside0 (Below w.heap.size w wc))
               case first =>
                have H := HC25.out
                clear HC25
                by_cases c26 : (rd ((rd_T36 t275 x13_1).f0) x15_2) ≤ x14_2
                ·rw [if_pos c26] at H
                 exact absurd H (by simp)
                ·rw [if_neg c26] at H
                 have c26b0 : decide ((rd ((rd_T36 t275 x13_1).f0) x15_2) ≤ x14_2) = false := decide_eq_false c26
                 clear c26
                 (first | rw [c26b0] | (simp only [i64_w, i32_w]; rw [c26b0]) | skip)
                 by_cases c28 : (rd ((rd_T36 t275 x13_1).f0) x15_2) ≥ (l0.length : Int)
                 ·rw [if_pos c28] at H
                  exact absurd H (by simp)
                 ·rw [if_neg c28] at H
                  have c28b0 : decide ((l0.length : Int) ≤ (rd ((rd_T36 t275 x13_1).f0) x15_2)) = false := decide_eq_false c28
                  clear c28
                  by_cases c30 : 0 ≤ (rd ((rd_T36 t275 x13_1).f0) x15_2)
                  ·rw [if_pos c30] at H
                   have c30b0 : decide (0 ≤ (rd ((rd_T36 t275 x13_1).f0) x15_2)) = true := decide_eq_true c30
                   clear c30
                   by_cases c31 : (rd ((rd_T36 t275 x13_1).f0) x15_2) < (x12_2.length : Int)
                   ·rw [if_pos c31] at H
                    have c31b0 : decide ((rd ((rd_T36 t275 x13_1).f0) x15_2) < (x12_2.length : Int)) = true := decide_eq_true c31
                    clear c31
                    obtain ⟨bq32, hbq32⟩ : ∃ b_ : Bool, b_ = (rdOf false x12_2 (rd ((rd_T36 t275 x13_1).f0) x15_2)) := ⟨_, rfl⟩
                    replace H : (if bq32 = true then (none) else (if (rd ((rd_T36 t275 x13_1).f0) x15_2) < (l0.length : Int) then ((selvedgeref14_Removed.f (rd l0 (rd ((rd_T36 t275 x13_1).f0) x15_2))).bind fun t295 => (if t295 = true then (none) else (if (rd ((rd_T36 t275 x13_1).f0) x15_2) < (t266.length : Int) then (selvedgelaw15_RunsOnce.j2 k2 l0 t266 t275 t279 x12_2 x13_1 x14_2 x15_2 (rd ((rd_T36 t275 x13_1).f0) x15_2) ((rd t266 (rd ((rd_T36 t275 x13_1).f0) x15_2)) != ((rd_T36 t275 x13_1).f1))) else (none)))) else (none))) = some r := by rw [← hbq32] at H; exact H
                    have Nbq32 := Aside0.mk hbq32
                    clear hbq32
                    by_cases c33 : bq32 = true
                    ·rw [if_pos c33] at H
                     exact absurd H (by simp)
                    ·replace c33 := Bool.eq_false_iff.mpr c33
                     subst c33
                     have H1 : (if (rd ((rd_T36 t275 x13_1).f0) x15_2) < (l0.length : Int) then ((selvedgeref14_Removed.f (rd l0 (rd ((rd_T36 t275 x13_1).f0) x15_2))).bind fun t295 => (if t295 = true then (none) else (if (rd ((rd_T36 t275 x13_1).f0) x15_2) < (t266.length : Int) then (selvedgelaw15_RunsOnce.j2 k2 l0 t266 t275 t279 x12_2 x13_1 x14_2 x15_2 (rd ((rd_T36 t275 x13_1).f0) x15_2) ((rd t266 (rd ((rd_T36 t275 x13_1).f0) x15_2)) != ((rd_T36 t275 x13_1).f1))) else (none)))) else (none)) = some r := by rw [if_neg (show ¬ (false = true) by decide)] at H; exact H
                     clear H
                     have H := H1
                     clear H1
                     by_cases c36 : (rd ((rd_T36 t275 x13_1).f0) x15_2) < (l0.length : Int)
                     ·rw [if_pos c36] at H
                      have c36b0 : decide ((rd ((rd_T36 t275 x13_1).f0) x15_2) < (l0.length : Int)) = true := decide_eq_true c36
                      clear c36
                      replace H := Option.bind_eq_some_iff.mp H
                      obtain ⟨t295, A370, H⟩ := H
                      replace H : (if t295 = true then (none) else (if (rd ((rd_T36 t275 x13_1).f0) x15_2) < (t266.length : Int) then (selvedgelaw15_RunsOnce.j2 k2 l0 t266 t275 t279 x12_2 x13_1 x14_2 x15_2 (rd ((rd_T36 t275 x13_1).f0) x15_2) ((rd t266 (rd ((rd_T36 t275 x13_1).f0) x15_2)) != ((rd_T36 t275 x13_1).f1))) else (none))) = some r := H
                      have A37 := Aside0.mk A370
                      clear A370
                      by_cases c38 : t295 = true
                      ·rw [if_pos c38] at H
                       exact absurd H (by simp)
                      ·replace c38 := Bool.eq_false_iff.mpr c38
                       subst c38
                       have H1 : (if (rd ((rd_T36 t275 x13_1).f0) x15_2) < (t266.length : Int) then (selvedgelaw15_RunsOnce.j2 k2 l0 t266 t275 t279 x12_2 x13_1 x14_2 x15_2 (rd ((rd_T36 t275 x13_1).f0) x15_2) ((rd t266 (rd ((rd_T36 t275 x13_1).f0) x15_2)) != ((rd_T36 t275 x13_1).f1))) else (none)) = some r := by rw [if_neg (show ¬ (false = true) by decide)] at H; exact H
                       clear H
                       have H := H1
                       clear H1
                       by_cases c41 : (rd ((rd_T36 t275 x13_1).f0) x15_2) < (t266.length : Int)
                       ·rw [if_pos c41] at H
                        have c41b0 : decide ((rd ((rd_T36 t275 x13_1).f0) x15_2) < (t266.length : Int)) = true := decide_eq_true c41
                        clear c41
                        have H' := Aside0.mk H
                        clear H
                        try go_wp2
                        have n0_ := Aside0.mk (Kd.R_drew HO_5.out)
                        have n1_ := Aside0.mk (Kd.S_drew HO_9.out)
                        have n2_ := Aside0.mk (Kd.R_drew HO_11.out)
                        have n3_ := Aside0.mk (Kd.R_drew HO_12.out)
                        have n4_ := Aside0.mk (Kd.R_drew HL285_0.out)
                        have n5_ := Aside0.mk (Kd.R_drew HL291_0.out)
                        have n6_ := Aside0.mk (Kd.C_drew HR285_0.out)
                        have n7_ := Aside0.mk (Kd.C_drew HR291_0.out)
                        have n8_ := Aside0.mk (below_drew1 HB.out)
                        clear HO_5
                        clear HO_9
                        clear HO_11
                        clear HO_12
                        clear HL285_0
                        clear HL291_0
                        clear HR285_0
                        clear HR291_0
                        clear HB
                        have HO_5 := n0_
                        have HO_9 := n1_
                        have HO_11 := n2_
                        have HO_12 := n3_
                        have HL285_0 := n4_
                        have HL291_0 := n5_
                        have HR285_0 := n6_
                        have HR291_0 := n7_
                        have HB := n8_
                        clear n0_ n1_ n2_ n3_ n4_ n5_ n6_ n7_ n8_
                        obtain ⟨Ao43, co43, eo43⟩ := Kd.R_slice HO_12.out
                        (first | subst eo43 | (injection eo43 with f1_ f2_ f3_; have f4_ := f1_.symm; have f5_ := f3_.symm; clear f1_ f2_ f3_; subst f4_; subst f5_))
                        have p293 := dT (0 ≤ ((rd ((rd_T36 t275 x13_1).f0) x15_2) : Int))
                        have q293 := dT ((rd ((rd_T36 t275 x13_1).f0) x15_2) < (x12_2.length : Int))
                        obtain ⟨ad293, e293, hx293_0⟩ := Kd.at_bool (Kd.R_reads' HO_12.out).2.2 (rd ((rd_T36 t275 x13_1).f0) x15_2) p293 q293
                        (try rw [← Nbq32.out] at hx293_0)
                        cases e293
                        replace p293 := eq_true p293
                        replace q293 := eq_true q293
                        have p294 := dT (0 ≤ ((rd ((rd_T36 t275 x13_1).f0) x15_2) : Int))
                        have q294 := dT ((rd ((rd_T36 t275 x13_1).f0) x15_2) < (l0.length : Int))
                        obtain ⟨ad294, e294, hx294_0⟩ := Kd.at_int HR0.out (rd ((rd_T36 t275 x13_1).f0) x15_2) p294 q294
                        have hw294_0 := hx294_0
                        cases e294
                        replace hx294_0 := (HB.out.cell (World.block_lt_of_cell? w _ hx294_0)).trans hx294_0
                        replace p294 := eq_true p294
                        replace q294 := eq_true q294
                        obtain ⟨ad296, e296, hx296_0, p296, q296⟩ := atI (Kd.R_reads' HO_5.out).2.2 (rd ((rd_T36 t275 x13_1).f0) x15_2)
                        cases e296
                        have p297 := dT (0 ≤ (x13_1 : Int))
                        have q297 := dT (x13_1 < (t275.length : Int))
                        obtain ⟨ad297, A297_0, c297_0, e297, hx297_0, hx297_1, hx297_2, hx297_3, hl297_0, hi297_0⟩ := at_T36 (Kd.S_reads' HO_9.out).2.2 x13_1 p297 q297
                        obtain rfl : ad285 = ad297 := (by injection e297)
                        obtain ⟨ce297, hce297, hMe297, hcc297⟩ := Kd.S_get HO_9.out z36 x13_1 p297 (by first | exact q297 | exact of_decide_eq_true (by first | (with_reducible assumption) | assumption) | (have e_ := (Kd.S_reads' HO_9.out).1; omega))
                        obtain ⟨ve297_0, rfl, ge297_0⟩ := k36_openM hMe297
                        have hv297_0 := hcc297 0 _ rfl
                        rw [Nat.add_zero] at hv297_0
                        replace hv297_0 := Option.some.inj (hv297_0.symm.trans hx297_0)
                        rw [hv297_0] at ge297_0
                        have HL297_0 := Aside0.mk (show Kd.R (Kd.int .i64) 3 _ _ _ _ ((rd_T36 t275 x13_1).f0) from ge297_0)
                        clear hv297_0 ge297_0
                        clear hcc297 hce297
                        have HR297_0 := Aside0.mk hi297_0
                        have HC297_0 := Aside0.mk hl297_0
                        clear hi297_0 hl297_0
                        replace p297 := eq_true p297
                        replace q297 := eq_true q297
                        refine start_ (n := 34) (S := fun w' => w'.cell? (ad293.add ((rd ((rd_T36 t275 x13_1).f0) x15_2)).toNat) = some (.bool false) ∧ w'.cell? (ad294.add ((rd ((rd_T36 t275 x13_1).f0) x15_2)).toNat) = some (.int .u8 (rd l0 (rd ((rd_T36 t275 x13_1).f0) x15_2))) ∧ w'.cell? (ad296.add ((rd ((rd_T36 t275 x13_1).f0) x15_2)).toNat) = some (.int .u8 (rd t266 (rd ((rd_T36 t275 x13_1).f0) x15_2))) ∧ w'.cell? (ad285.add ((x13_1).toNat * 4)) = some (.slice A297_0 ((rd_T36 t275 x13_1).f0).length c297_0) ∧ w'.cell? ⟨(ad285.add ((x13_1).toNat * 4)).block, (ad285.add ((x13_1).toNat * 4)).off + 1, none⟩ = some (.int .u8 ((rd_T36 t275 x13_1).f1)) ∧ w'.cell? ⟨(ad285.add ((x13_1).toNat * 4)).block, (ad285.add ((x13_1).toNat * 4)).off + 2, none⟩ = some (.int .u8 ((rd_T36 t275 x13_1).f2)) ∧ w'.cell? ⟨(ad285.add ((x13_1).toNat * 4)).block, (ad285.add ((x13_1).toNat * 4)).off + 3, none⟩ = some (.int .u8 ((rd_T36 t275 x13_1).f3))) (ds := []) #[false, false, false, false, false, false, false, false, false, false, false, false, false, false, false, false, false, false, false, false, false, false, false, false, false, false, false, false, false, false, false, false, false, false] (by kernel_rfl) rfl rfl ⟨hx293_0, ((HB.out.cell (World.block_lt_of_cell? w _ hw294_0)).trans hw294_0), hx296_0, hx297_0, hx297_1, hx297_2, hx297_3⟩ (fun hHeld => ?_); refine with_tabW selvedgelaw15_RunsOnce.tab19 selvedgelaw15_RunsOnce.bits19 (fun HT_ HW_ => ?_)
                        generalize wr.drew = w42 at HO_5 HO_9 HO_11 HO_12 HL285_0 HL291_0 HR285_0 HR291_0 HB HL297_0 HR297_0 hx293_0 hx294_0 hx296_0 hx297_0 hx297_1 hx297_2 hx297_3 hHeld ⊢
                        refine pure_ (i := 0) (N := some 72) (v := ?_) (a' := ?_) #[true, false, false, false, false, false, false, false, false, false, false, false, false, false, false, false, false, false, false, false, false, false, false, false, false, false, false, false, false, false, false, false, false, false] rfl rfl (any_of HT_.out (by kernel_rfl)) (fun _ _ _ h => h) (Or.inl ⟨by rfl, ?_⟩) ?_ ?_
                        rotate_left
                        ·intro w'
                         go_simp
                         with_reducible rfl
                        rotate_left
                        ·simp only [Act.put, List.setIfInBounds_toArray, List.set_cons_zero, List.set_cons_succ, i64_w, i32_w]
                         rfl
                        refine pure_ (i := 1) (N := some 73) (v := ?_) (a' := ?_) #[true, true, false, false, false, false, false, false, false, false, false, false, false, false, false, false, false, false, false, false, false, false, false, false, false, false, false, false, false, false, false, false, false, false] rfl rfl (any_of HT_.out (by kernel_rfl)) (fun _ _ _ h => h) (Or.inl ⟨by rfl, ?_⟩) ?_ ?_
                        rotate_left
                        ·intro w'
                         go_simp
                         with_reducible rfl
                        rotate_left
                        ·simp only [Act.put, List.setIfInBounds_toArray, List.set_cons_zero, List.set_cons_succ, i64_w, i32_w]
                         rfl
                        refine pure_ (i := 2) (N := some 74) (v := ?_) (a' := ?_) #[true, true, true, false, false, false, false, false, false, false, false, false, false, false, false, false, false, false, false, false, false, false, false, false, false, false, false, false, false, false, false, false, false, false] rfl rfl (any_of HT_.out (by kernel_rfl)) (fun _ _ _ h => h) (Or.inl ⟨by rfl, ?_⟩) ?_ ?_
                        rotate_left
                        ·intro w'
                         go_simp
                         with_reducible rfl
                        rotate_left
                        ·simp only [Act.put, List.setIfInBounds_toArray, List.set_cons_zero, List.set_cons_succ, i64_w, i32_w]
                         rfl
                        refine pure_ (i := 3) (N := some 75) (v := ?_) (a' := ?_) #[true, true, true, true, false, false, false, false, false, false, false, false, false, false, false, false, false, false, false, false, false, false, false, false, false, false, false, false, false, false, false, false, false, false] rfl rfl (any_of HT_.out (by kernel_rfl)) (fun _ _ _ h => h) (Or.inl ⟨by rfl, ?_⟩) ?_ ?_
                        rotate_left
                        ·intro w'
                         go_simp
                         with_reducible rfl
                        rotate_left
                        ·simp only [Act.put, List.setIfInBounds_toArray, List.set_cons_zero, List.set_cons_succ, i64_w, i32_w]
                         rfl
                        refine pure_ (i := 4) (N := some 76) (v := ?_) (a' := ?_) #[true, true, true, true, true, false, false, false, false, false, false, false, false, false, false, false, false, false, false, false, false, false, false, false, false, false, false, false, false, false, false, false, false, false] rfl rfl (any_of HT_.out (by kernel_rfl)) (fun _ _ _ h => h) (Or.inl ⟨by rfl, ?_⟩) ?_ ?_
                        rotate_left
                        ·intro w'
                         go_simp
                         with_reducible rfl
                        rotate_left
                        ·simp only [Act.put, List.setIfInBounds_toArray, List.set_cons_zero, List.set_cons_succ, i64_w, i32_w]
                         rfl
                        refine pure_ (i := 5) (N := some 77) (v := ?_) (a' := ?_) #[true, true, true, true, true, true, false, false, false, false, false, false, false, false, false, false, false, false, false, false, false, false, false, false, false, false, false, false, false, false, false, false, false, false] rfl rfl (any_of HT_.out (by kernel_rfl)) (fun _ _ _ h => h) (Or.inl ⟨by rfl, ?_⟩) ?_ ?_
                        rotate_left
                        ·intro w'
                         go_simp
                         with_reducible rfl
                        rotate_left
                        ·simp only [Act.put, List.setIfInBounds_toArray, List.set_cons_zero, List.set_cons_succ, i64_w, i32_w]
                         rfl
                        refine pure_ (i := 6) (N := some 78) (v := ?_) (a' := ?_) #[true, true, true, true, true, true, true, false, false, false, false, false, false, false, false, false, false, false, false, false, false, false, false, false, false, false, false, false, false, false, false, false, false, false] rfl rfl (any_of HT_.out (by kernel_rfl)) (fun _ _ _ h => h) (Or.inl ⟨by rfl, ?_⟩) ?_ ?_
                        rotate_left
                        ·intro w'
                         go_simp
                         with_reducible rfl
                        rotate_left
                        ·simp only [Act.put, List.setIfInBounds_toArray, List.set_cons_zero, List.set_cons_succ, i64_w, i32_w]
                         rfl
                        refine pure_ (i := 7) (N := some 79) (v := ?_) (a' := ?_) #[true, true, true, true, true, true, true, true, false, false, false, false, false, false, false, false, false, false, false, false, false, false, false, false, false, false, false, false, false, false, false, false, false, false] rfl rfl (any_of HT_.out (by kernel_rfl)) (fun _ _ _ h => h) (Or.inl ⟨by rfl, ?_⟩) ?_ ?_
                        rotate_left
                        ·intro w'
                         go_simp
                         with_reducible rfl
                        rotate_left
                        ·simp only [Act.put, List.setIfInBounds_toArray, List.set_cons_zero, List.set_cons_succ, i64_w, i32_w]
                         rfl
                        refine pure_ (i := 8) (N := some 80) (v := ?_) (a' := ?_) #[true, true, true, true, true, true, true, true, true, false, false, false, false, false, false, false, false, false, false, false, false, false, false, false, false, false, false, false, false, false, false, false, false, false] rfl rfl (any_of HT_.out (by kernel_rfl)) (fun _ _ _ h => h) (Or.inl ⟨by rfl, ?_⟩) ?_ ?_
                        rotate_left
                        ·intro w'
                         go_simp
                         with_reducible rfl
                        rotate_left
                        ·simp only [Act.put, List.setIfInBounds_toArray, List.set_cons_zero, List.set_cons_succ, i64_w, i32_w]
                         rfl
                        refine pure_ (i := 9) (N := some 81) (v := ?_) (a' := ?_) #[true, true, true, true, true, true, true, true, true, true, false, false, false, false, false, false, false, false, false, false, false, false, false, false, false, false, false, false, false, false, false, false, false, false] rfl rfl (any_of HT_.out (by kernel_rfl)) (fun _ _ _ h => h) (Or.inl ⟨by rfl, ?_⟩) ?_ ?_
                        rotate_left
                        ·intro w'
                         go_simp
                         with_reducible rfl
                        rotate_left
                        ·simp only [Act.put, List.setIfInBounds_toArray, List.set_cons_zero, List.set_cons_succ, i64_w, i32_w]
                         rfl
                        refine pure_ (i := 10) (N := some 82) (v := ?_) (a' := ?_) #[true, true, true, true, true, true, true, true, true, true, true, false, false, false, false, false, false, false, false, false, false, false, false, false, false, false, false, false, false, false, false, false, false, false] rfl rfl (any_of HT_.out (by kernel_rfl)) (fun _ _ _ h => h) (Or.inl ⟨by rfl, ?_⟩) ?_ ?_
                        rotate_left
                        ·intro w'
                         go_simp
                         with_reducible rfl
                        rotate_left
                        ·simp only [Act.put, List.setIfInBounds_toArray, List.set_cons_zero, List.set_cons_succ, i64_w, i32_w]
                         rfl
                        refine pure_ (i := 11) (N := some 83) (v := ?_) (a' := ?_) #[true, true, true, true, true, true, true, true, true, true, true, true, false, false, false, false, false, false, false, false, false, false, false, false, false, false, false, false, false, false, false, false, false, false] rfl rfl (any_of HT_.out (by kernel_rfl)) (fun _ _ _ h => h) (Or.inl ⟨by rfl, ?_⟩) ?_ ?_
                        rotate_left
                        ·intro w'
                         go_simp
                         with_reducible rfl
                        rotate_left
                        ·simp only [Act.put, List.setIfInBounds_toArray, List.set_cons_zero, List.set_cons_succ, i64_w, i32_w]
                         rfl
                        refine pure_ (i := 12) (N := some 84) (v := ?_) (a' := ?_) #[true, true, true, true, true, true, true, true, true, true, true, true, true, false, false, false, false, false, false, false, false, false, false, false, false, false, false, false, false, false, false, false, false, false] rfl rfl (any_of HT_.out (by kernel_rfl)) (fun _ _ _ h => h) (Or.inl ⟨by rfl, ?_⟩) ?_ ?_
                        rotate_left
                        ·intro w'
                         go_simp
                         with_reducible rfl
                        rotate_left
                        ·simp only [Act.put, List.setIfInBounds_toArray, List.set_cons_zero, List.set_cons_succ, i64_w, i32_w]
                         rfl
                        refine take_ (i := 13) (N := some 85) (v := ?_) (a' := ?_) #[true, true, true, true, true, true, true, true, true, true, true, true, true, true, false, false, false, false, false, false, false, false, false, false, false, false, false, false, false, false, false, false, false, false] rfl rfl (take_ofW HT_.out HW_.out (by kernel_rfl)) (fun _ _ _ h => h) (Or.inl ⟨by rfl, ?_⟩) hHeld ?_ ?_
                        rotate_left
                        ·rintro w' ⟨s0, s1, s2, s3, s4, s5, s6⟩
                         go_simp
                         with_reducible rfl
                        rotate_left
                        ·simp only [Act.put, List.setIfInBounds_toArray, List.set_cons_zero, List.set_cons_succ, i64_w, i32_w]
                         rfl
                        refine pure_ (i := 14) (N := some 86) (v := ?_) (a' := ?_) #[true, true, true, true, true, true, true, true, true, true, true, true, true, true, true, false, false, false, false, false, false, false, false, false, false, false, false, false, false, false, false, false, false, false] rfl rfl (any_of HT_.out (by kernel_rfl)) (fun _ _ _ h => h) (Or.inl ⟨by rfl, ?_⟩) ?_ ?_
                        rotate_left
                        ·intro w'
                         go_simp
                         with_reducible rfl
                        rotate_left
                        ·simp only [Act.put, List.setIfInBounds_toArray, List.set_cons_zero, List.set_cons_succ, i64_w, i32_w]
                         rfl
                        refine pure_ (i := 15) (N := some 87) (v := ?_) (a' := ?_) #[true, true, true, true, true, true, true, true, true, true, true, true, true, true, true, true, false, false, false, false, false, false, false, false, false, false, false, false, false, false, false, false, false, false] rfl rfl (any_of HT_.out (by kernel_rfl)) (fun _ _ _ h => h) (Or.inl ⟨by rfl, ?_⟩) ?_ ?_
                        rotate_left
                        ·intro w'
                         go_simp
                         with_reducible rfl
                        rotate_left
                        ·simp only [Act.put, List.setIfInBounds_toArray, List.set_cons_zero, List.set_cons_succ, i64_w, i32_w]
                         rfl
                        refine pure_ (i := 16) (N := some 88) (v := ?_) (a' := ?_) #[true, true, true, true, true, true, true, true, true, true, true, true, true, true, true, true, true, false, false, false, false, false, false, false, false, false, false, false, false, false, false, false, false, false] rfl rfl (any_of HT_.out (by kernel_rfl)) (fun _ _ _ h => h) (Or.inl ⟨by rfl, ?_⟩) ?_ ?_
                        rotate_left
                        ·intro w'
                         go_simp
                         with_reducible rfl
                        rotate_left
                        ·simp only [Act.put, List.setIfInBounds_toArray, List.set_cons_zero, List.set_cons_succ, i64_w, i32_w]
                         rfl
                        refine pure_ (i := 17) (N := some 89) (v := ?_) (a' := ?_) #[true, true, true, true, true, true, true, true, true, true, true, true, true, true, true, true, true, true, false, false, false, false, false, false, false, false, false, false, false, false, false, false, false, false] rfl rfl (any_of HT_.out (by kernel_rfl)) (fun _ _ _ h => h) (Or.inl ⟨by rfl, ?_⟩) ?_ ?_
                        rotate_left
                        ·intro w'
                         go_simp
                         with_reducible rfl
                        rotate_left
                        ·simp only [Act.put, List.setIfInBounds_toArray, List.set_cons_zero, List.set_cons_succ, i64_w, i32_w]
                         rfl
                        refine pure_ (i := 18) (N := some 90) (v := ?_) (a' := ?_) #[true, true, true, true, true, true, true, true, true, true, true, true, true, true, true, true, true, true, true, false, false, false, false, false, false, false, false, false, false, false, false, false, false, false] rfl rfl (any_of HT_.out (by kernel_rfl)) (fun _ _ _ h => h) (Or.inl ⟨by rfl, ?_⟩) ?_ ?_
                        rotate_left
                        ·intro w'
                         go_simp
                         with_reducible rfl
                        rotate_left
                        ·simp only [Act.put, List.setIfInBounds_toArray, List.set_cons_zero, List.set_cons_succ, i64_w, i32_w]
                         rfl
                        refine take_ (i := 19) (N := some 91) (v := ?_) (a' := ?_) #[true, true, true, true, true, true, true, true, true, true, true, true, true, true, true, true, true, true, true, true, false, false, false, false, false, false, false, false, false, false, false, false, false, false] rfl rfl (take_ofW HT_.out HW_.out (by kernel_rfl)) (fun _ _ _ h => h) (Or.inl ⟨by rfl, ?_⟩) hHeld ?_ ?_
                        rotate_left
                        ·rintro w' ⟨s0, s1, s2, s3, s4, s5, s6⟩
                         go_simp
                         with_reducible rfl
                        rotate_left
                        ·simp only [Act.put, List.setIfInBounds_toArray, List.set_cons_zero, List.set_cons_succ, i64_w, i32_w]
                         rfl
                        refine one_ (i := 20) (N := some 92) #[true, true, true, true, true, true, true, true, true, true, true, true, true, true, true, true, true, true, true, true, true, false, false, false, false, false, false, false, false, false, false, false, false, false] rfl rfl (one_of HT_.out (by kernel_rfl)) (by decide) (fun K hK => ?_)
                        refine goes_ Try.func14 (by kernel_rfl) rfl #[.int .u8 (rd l0 (rd ((rd_T36 t275 x13_1).f0) x15_2))] (by rfl) rfl rfl (by (try simp only [List.map_toArray, List.map_cons, List.map_nil]); first | done | rfl | (simp only [List.length_drop, List.length_take]; rfl)) ?_
                        with_reducible refine (selvedgeref14_Removed.calls (rd l0 (rd ((rd_T36 t275 x13_1).f0) x15_2)) false _ A37.out).mono ?_
                        rintro e w' ⟨rfl, ⟨nd, rfl⟩⟩
                        refine ⟨_, rfl, ?_⟩
                        refine hK.out _ _ ⟨hHeld.1, ((HB.out.cell (World.block_lt_of_cell? w _ hw294_0)).trans hw294_0), hHeld.2.2.1, hHeld.2.2.2.1, hHeld.2.2.2.2.1, hHeld.2.2.2.2.2.1, hHeld.2.2.2.2.2.2⟩ (fun hHeld => ?_)
                        clear hK K
                        refine norm_ (a' := ?_) ?_ ?_
                        rotate_left
                        ·show Act.put _ (some 92) _ = _
                         simp only [Act.put, List.setIfInBounds_toArray, List.set_cons_zero, List.set_cons_succ, i64_w, i32_w]
                         rfl
                        refine pure_ (i := 21) (N := some 93) (v := ?_) (a' := ?_) #[true, true, true, true, true, true, true, true, true, true, true, true, true, true, true, true, true, true, true, true, true, true, false, false, false, false, false, false, false, false, false, false, false, false] rfl rfl (any_of HT_.out (by kernel_rfl)) (fun _ _ _ h => h) (Or.inl ⟨by rfl, ?_⟩) ?_ ?_
                        rotate_left
                        ·intro w'
                         go_simp
                         with_reducible rfl
                        rotate_left
                        ·simp only [Act.put, List.setIfInBounds_toArray, List.set_cons_zero, List.set_cons_succ, i64_w, i32_w]
                         rfl
                        refine pure_ (i := 22) (N := some 94) (v := ?_) (a' := ?_) #[true, true, true, true, true, true, true, true, true, true, true, true, true, true, true, true, true, true, true, true, true, true, true, false, false, false, false, false, false, false, false, false, false, false] rfl rfl (any_of HT_.out (by kernel_rfl)) (fun _ _ _ h => h) (Or.inl ⟨by rfl, ?_⟩) ?_ ?_
                        rotate_left
                        ·intro w'
                         go_simp
                         with_reducible rfl
                        rotate_left
                        ·simp only [Act.put, List.setIfInBounds_toArray, List.set_cons_zero, List.set_cons_succ, i64_w, i32_w]
                         rfl
                        refine pure_ (i := 23) (N := some 95) (v := ?_) (a' := ?_) #[true, true, true, true, true, true, true, true, true, true, true, true, true, true, true, true, true, true, true, true, true, true, true, true, false, false, false, false, false, false, false, false, false, false] rfl rfl (any_of HT_.out (by kernel_rfl)) (fun _ _ _ h => h) (Or.inl ⟨by rfl, ?_⟩) ?_ ?_
                        rotate_left
                        ·intro w'
                         go_simp
                         with_reducible rfl
                        rotate_left
                        ·simp only [Act.put, List.setIfInBounds_toArray, List.set_cons_zero, List.set_cons_succ, i64_w, i32_w]
                         rfl
                        refine pure_ (i := 24) (N := some 96) (v := ?_) (a' := ?_) #[true, true, true, true, true, true, true, true, true, true, true, true, true, true, true, true, true, true, true, true, true, true, true, true, true, false, false, false, false, false, false, false, false, false] rfl rfl (any_of HT_.out (by kernel_rfl)) (fun _ _ _ h => h) (Or.inl ⟨by rfl, ?_⟩) ?_ ?_
                        rotate_left
                        ·intro w'
                         go_simp
                         with_reducible rfl
                        rotate_left
                        ·simp only [Act.put, List.setIfInBounds_toArray, List.set_cons_zero, List.set_cons_succ, i64_w, i32_w]
                         rfl
                        refine pure_ (i := 25) (N := some 97) (v := ?_) (a' := ?_) #[true, true, true, true, true, true, true, true, true, true, true, true, true, true, true, true, true, true, true, true, true, true, true, true, true, true, false, false, false, false, false, false, false, false] rfl rfl (any_of HT_.out (by kernel_rfl)) (fun _ _ _ h => h) (Or.inl ⟨by rfl, ?_⟩) ?_ ?_
                        rotate_left
                        ·intro w'
                         go_simp
                         with_reducible rfl
                        rotate_left
                        ·simp only [Act.put, List.setIfInBounds_toArray, List.set_cons_zero, List.set_cons_succ, i64_w, i32_w]
                         rfl
                        refine pure_ (i := 27) (N := some 99) (v := ?_) (a' := ?_) #[true, true, true, true, true, true, true, true, true, true, true, true, true, true, true, true, true, true, true, true, true, true, true, true, true, true, false, true, false, false, false, false, false, false] rfl rfl (any_of HT_.out (by kernel_rfl)) (fun _ _ _ h => h) (Or.inl ⟨by rfl, ?_⟩) ?_ ?_
                        rotate_left
                        ·intro w'
                         go_simp
                         with_reducible rfl
                        rotate_left
                        ·simp only [Act.put, List.setIfInBounds_toArray, List.set_cons_zero, List.set_cons_succ, i64_w, i32_w]
                         rfl
                        refine pure_ (i := 28) (N := some 100) (v := ?_) (a' := ?_) #[true, true, true, true, true, true, true, true, true, true, true, true, true, true, true, true, true, true, true, true, true, true, true, true, true, true, false, true, true, false, false, false, false, false] rfl rfl (any_of HT_.out (by kernel_rfl)) (fun _ _ _ h => h) (Or.inl ⟨by rfl, ?_⟩) ?_ ?_
                        rotate_left
                        ·intro w'
                         go_simp
                         with_reducible rfl
                        rotate_left
                        ·simp only [Act.put, List.setIfInBounds_toArray, List.set_cons_zero, List.set_cons_succ, i64_w, i32_w]
                         rfl
                        refine pure_ (i := 29) (N := some 101) (v := ?_) (a' := ?_) #[true, true, true, true, true, true, true, true, true, true, true, true, true, true, true, true, true, true, true, true, true, true, true, true, true, true, false, true, true, true, false, false, false, false] rfl rfl (any_of HT_.out (by kernel_rfl)) (fun _ _ _ h => h) (Or.inl ⟨by rfl, ?_⟩) ?_ ?_
                        rotate_left
                        ·intro w'
                         go_simp
                         with_reducible rfl
                        rotate_left
                        ·simp only [Act.put, List.setIfInBounds_toArray, List.set_cons_zero, List.set_cons_succ, i64_w, i32_w]
                         rfl
                        refine pure_ (i := 30) (N := some 102) (v := ?_) (a' := ?_) #[true, true, true, true, true, true, true, true, true, true, true, true, true, true, true, true, true, true, true, true, true, true, true, true, true, true, false, true, true, true, true, false, false, false] rfl rfl (any_of HT_.out (by kernel_rfl)) (fun _ _ _ h => h) (Or.inl ⟨by rfl, ?_⟩) ?_ ?_
                        rotate_left
                        ·intro w'
                         go_simp
                         with_reducible rfl
                        rotate_left
                        ·simp only [Act.put, List.setIfInBounds_toArray, List.set_cons_zero, List.set_cons_succ, i64_w, i32_w]
                         rfl
                        refine take_ (i := 26) (N := some 98) (v := ?_) (a' := ?_) #[true, true, true, true, true, true, true, true, true, true, true, true, true, true, true, true, true, true, true, true, true, true, true, true, true, true, true, true, true, true, true, false, false, false] rfl rfl (take_ofW HT_.out HW_.out (by kernel_rfl)) (fun _ _ _ h => h) (Or.inl ⟨by rfl, ?_⟩) hHeld ?_ ?_
                        rotate_left
                        ·rintro w' ⟨s0, s1, s2, s3, s4, s5, s6⟩
                         go_simp
                         with_reducible rfl
                        rotate_left
                        ·simp only [Act.put, List.setIfInBounds_toArray, List.set_cons_zero, List.set_cons_succ, i64_w, i32_w]
                         rfl
                        refine take_ (i := 31) (N := some 103) (v := ?_) (a' := ?_) #[true, true, true, true, true, true, true, true, true, true, true, true, true, true, true, true, true, true, true, true, true, true, true, true, true, true, true, true, true, true, true, true, false, false] rfl rfl (take_ofW HT_.out HW_.out (by kernel_rfl)) (fun _ _ _ h => h) (Or.inl ⟨by rfl, ?_⟩) hHeld ?_ ?_
                        rotate_left
                        ·rintro w' ⟨s0, s1, s2, s3, s4, s5, s6⟩
                         go_simp
                         with_reducible rfl
                        rotate_left
                        ·simp only [Act.put, List.setIfInBounds_toArray, List.set_cons_zero, List.set_cons_succ, i64_w, i32_w]
                         rfl
                        refine pure_ (i := 32) (N := some 104) (v := ?_) (a' := ?_) #[true, true, true, true, true, true, true, true, true, true, true, true, true, true, true, true, true, true, true, true, true, true, true, true, true, true, true, true, true, true, true, true, true, false] rfl rfl (any_of HT_.out (by kernel_rfl)) (fun _ _ _ h => h) (Or.inl ⟨by rfl, ?_⟩) ?_ ?_
                        rotate_left
                        ·intro w'
                         go_simp
                         with_reducible rfl
                        rotate_left
                        ·simp only [Act.put, List.setIfInBounds_toArray, List.set_cons_zero, List.set_cons_succ, i64_w, i32_w]
                         rfl
                        refine pure_ (i := 33) (N := some 105) (v := ?_) (a' := ?_) #[true, true, true, true, true, true, true, true, true, true, true, true, true, true, true, true, true, true, true, true, true, true, true, true, true, true, true, true, true, true, true, true, true, true] rfl rfl (any_of HT_.out (by kernel_rfl)) (fun _ _ _ h => h) (Or.inl ⟨by rfl, ?_⟩) ?_ ?_
                        rotate_left
                        ·intro w'
                         go_simp
                         with_reducible rfl
                        rotate_left
                        ·simp only [Act.put, List.setIfInBounds_toArray, List.set_cons_zero, List.set_cons_succ, i64_w, i32_w]
                         rfl
                        refine done_ (done_of HT_.out (by kernel_rfl)) ?_
                        try go_wp2
                        go_meet
                        case rel => exact ⟨_, (((rd t266 (rd ((rd_T36 t275 x13_1).f0) x15_2)) != ((rd_T36 t275 x13_1).f1))), (by first | rfl | (simp; done) | (simp [*]; done)), H', ⟨by have := HK1.out; have := HK2.out; first | omega | exact Nat.le_refl _⟩, ⟨mvR HO_5⟩, ⟨by (with_reducible repeat (first | apply Kd.S_alloc | apply Kd.S_drewN | apply Kd.S_drew)); exact HO_9.out⟩, ⟨mvR HO_11⟩, ⟨mvR HO_12⟩, ⟨by repeat (first | (with_reducible exact HR285_0.out) | (with_reducible refine Kd.C_alloc ?_ _) | (with_reducible refine Kd.C_drewN ?_ _) | (with_reducible refine Kd.C_drew ?_) | exact HR285_0.out)⟩, ⟨by repeat (first | (with_reducible exact HR291_0.out) | (with_reducible refine Kd.C_alloc ?_ _) | (with_reducible refine Kd.C_drewN ?_ _) | (with_reducible refine Kd.C_drew ?_) | exact HR291_0.out)⟩, ⟨mvB HB⟩⟩
                       ·rw [if_neg c41] at H
                        exact absurd H (by simp)
                     ·rw [if_neg c36] at H
                      exact absurd H (by simp)
                   ·rw [if_neg c31] at H
                    exact absurd H (by simp)
                  ·rw [if_neg c30] at H
                   exact absurd H (by simp)
               case rest =>
                clear HC25
                try clear c1
                try clear c2
                try clear p2
                try clear q2
                try clear hx2
                try clear c3
                try clear q3
                try clear c4
                try clear c14
                try clear c29
                try clear p29
                try clear q29
                try clear hx29
                try clear c30
                try clear c31
                try clear q32
                try clear c36
                try clear c38
                try clear c41
                try clear c41b0
                try clear hx293_0
                try clear hx294_0
                try clear hx296_0
                try clear hx297_0
                try clear hx297_1
                try clear hx297_2
                try clear hx297_3
                try clear p293
                try clear p294
                try clear p296
                try clear p297
                try clear q293
                try clear q294
                try clear q296
                try clear q297
                obtain ⟨kq, x105_24, rfl, HA, HJ24, HO_5, HO_9, HO_11, HO_12, HR285_0, HR291_0, HB⟩ := hcut
                cases kq with
                | zero => exact absurd HA.out (by simp [selvedgelaw15_RunsOnce.j2])
                | succ kj24 =>
                 have H := HA.out
                 clear HA
                 simp only [selvedgelaw15_RunsOnce.j2] at H
                 by_cases c44 : x105_24 = true
                 ·rw [if_pos c44] at H
                  exact absurd H (by simp)
                 ·replace c44 := Bool.eq_false_iff.mpr c44
                  subst c44
                  have H1 : (if 0 ≤ (rd ((rd_T36 t275 x13_1).f0) x15_2) then (if (rd ((rd_T36 t275 x13_1).f0) x15_2) < (x12_2.length : Int) then (selvedgelaw15_RunsOnce.l2 kj24 l0 t266 t275 t279 (x12_2.set ((rd ((rd_T36 t275 x13_1).f0) x15_2) : Int).toNat true) x13_1 x14_2 x15_2 (rd ((rd_T36 t275 x13_1).f0) x15_2) (wrap64 (x14_2 + 1))) else (none)) else (none)) = some r := by rw [if_neg (show ¬ (false = true) by decide)] at H; exact H
                  clear H
                  have H := H1
                  clear H1
                  by_cases c45 : 0 ≤ (rd ((rd_T36 t275 x13_1).f0) x15_2)
                  ·rw [if_pos c45] at H
                   have c45b0 : decide (0 ≤ (rd ((rd_T36 t275 x13_1).f0) x15_2)) = true := decide_eq_true c45
                   clear c45
                   by_cases c46 : (rd ((rd_T36 t275 x13_1).f0) x15_2) < (x12_2.length : Int)
                   ·rw [if_pos c46] at H
                    have c46b0 : decide ((rd ((rd_T36 t275 x13_1).f0) x15_2) < (x12_2.length : Int)) = true := decide_eq_true c46
                    clear c46
                    obtain ⟨y298, hy298⟩ : ∃ y_ : List Bool, y_ = (x12_2.set ((rd ((rd_T36 t275 x13_1).f0) x15_2) : Int).toNat true) := ⟨_, rfl⟩
                    replace H : (selvedgelaw15_RunsOnce.l2 kj24 l0 t266 t275 t279 y298 x13_1 x14_2 x15_2 (rd ((rd_T36 t275 x13_1).f0) x15_2) (wrap64 (x14_2 + 1))) = some r := by first | (rw [hy298]; with_reducible exact H) | (have H2_ := (Option.bind_some _ _).symm.trans H; rw [hy298]; with_reducible exact H2_) | (have H2_ := (Option.bind_some _ _).symm.trans H; with_reducible exact H2_) | with_reducible exact H | (rw [hy298]; exact H) | exact H
                    have Ny298 := Aside0.mk hy298
                    clear hy298
                    have H' := Aside0.mk H
                    clear H
                    have p47 := dT (0 ≤ ((rd ((rd_T36 t275 x13_1).f0) x15_2) : Int))
                    have q47 : ((rd ((rd_T36 t275 x13_1).f0) x15_2) : Int) < ((x12_2.length : Int) : Int) := of_decide_eq_true (by first | (with_reducible assumption) | assumption)
                    obtain ⟨go47, co47, eo47, gb47, gl47, cl47, HG47⟩ := Kd.R_form HO_12.out (by omega)
                    (first | cases eo47 | (injection eo47 with ea_ en_ ec_; (first | subst ea_ | (injection ea_ with ea_; subst ea_)); subst ec_; clear en_))
                    have GB47 := Aside0.mk gb47
                    have GG47 := Aside0.mk HG47
                    clear gb47 gl47 HG47
                    obtain ⟨hx47_0, hf47_0⟩ := Kd.R_celln false HO_12.out ((rd ((rd_T36 t275 x13_1).f0) x15_2) : Int) p47 q47
                    replace p47 := eq_true p47
                    replace q47 := eq_true q47
                    have HP48 := Kd.R_putg HO_12.out ((rd ((rd_T36 t275 x13_1).f0) x15_2) : Int) true
                    go_wp2_with (first | ((with_reducible refine gate_store (t := 4) (p := 108) rfl ?_); refine store_event (t := 4) (p := 108) (v := ?vo_w49) (w1 := (wc.setCell ⟨go47, ((rd ((rd_T36 t275 x13_1).f0) x15_2) : Int).toNat, none⟩ (.bool true))) ?hg ?ho ?hn ?hr ?_; (case ho => rfl); (case hg => rfl); (case hn => rfl); (case hr => first | (go_simp; done) | (go_simp; rfl)); intro w49 hw; have hg : wc.grownBy w49 (some go47) := (by rw [hw]; exact HP48.2); have hp_ : Kd.R Kd.bool 4 w49 w.heap.size (fun _ => True) (.slice (some ⟨go47, 0, none⟩) x12_2.length co47) y298 := (by rw [hw, Ny298.out]; exact HP48.1); clear HP48; have n0_ := Aside0.mk (Kd.R_over' (v := (.slice (some ⟨go47, 0, none⟩) x12_2.length co47)) (mvR HO_5) (Kd.R_typed HO_12.out) (by decide) hg); have n1_ := Aside0.mk (Kd.S_over' (v := (.slice (some ⟨go47, 0, none⟩) x12_2.length co47)) (by (with_reducible repeat (first | apply Kd.S_alloc | apply Kd.S_drewN | apply Kd.S_drew)); exact HO_9.out) (Kd.R_typed HO_12.out) (by decide) hg); have n2_ := Aside0.mk (Kd.R_over' (v := (.slice (some ⟨go47, 0, none⟩) x12_2.length co47)) (mvR HO_11) (Kd.R_typed HO_12.out) (by decide) hg); have n3_ := Aside0.mk (hp_); have n4_ := Aside0.mk ((by rw [hw]; exact below_set (HB.out) GB47.out : Below w.heap.size w w49)); clear HO_5; clear HO_9; clear HO_11; clear HO_12; clear HB; have HO_5 := n0_; have HO_9 := n1_; have HO_11 := n2_; have HO_12 := n3_; have HB := n4_; clear n0_ n1_ n2_ n3_ n4_; clear hg hw hp_))
                    go_loopg [17] kj24 (fun kq v17 w' => ∃ (x17_4 : Int), v17 = .int .i64 x17_4 ∧ Aside0 (selvedgelaw15_RunsOnce.l2 kq l0 t266 t275 t279 y298 x13_1 x14_2 x15_2 (rd ((rd_T36 t275 x13_1).f0) x15_2) x17_4 = some r) ∧ Aside0 (kq ≤ kj24) ∧ Aside0 (Kd.R (Kd.int .u8) 5 w' w.heap.size (fun _ => True) (.slice Ao14 t266.length co14) t266) ∧ Aside0 (Kd.S k36 36 w' w.heap.size (fun k_ => some k_ ≠ (v280 : Value).ownBlock) (.slice (some ad285) t275.length co20) t275) ∧ Aside0 (Kd.R (Kd.int .i64) 3 w' w.heap.size (fun _ => True) v280 t279) ∧ Aside0 (Kd.R Kd.bool 4 w' w.heap.size (fun _ => True) (.slice (some ⟨go47, 0, none⟩) x12_2.length co47) y298) ∧ Aside0 (Below w.heap.size w w'))
                    case atStart => exact ⟨(wrap64 (x14_2 + 1)), (by first | rfl | (simp; done) | (simp [*]; done)), H', ⟨Nat.le_refl _⟩, ⟨mvR HO_5⟩, ⟨by (with_reducible repeat (first | apply Kd.S_alloc | apply Kd.S_drewN | apply Kd.S_drew)); exact HO_9.out⟩, ⟨mvR HO_11⟩, ⟨mvR HO_12⟩, ⟨mvB HB⟩⟩
                    case round =>
                     clear H'
                     try clear c1
                     try clear c2
                     try clear p2
                     try clear q2
                     try clear hx2
                     try clear c3
                     try clear q3
                     try clear c4
                     try clear p4
                     try clear q4
                     try clear hx4
                     try clear hf4
                     try clear p6
                     try clear c14
                     try clear c29
                     try clear p29
                     try clear q29
                     try clear hx29
                     try clear c30
                     try clear c31
                     try clear q32
                     try clear c36
                     try clear c38
                     try clear c41
                     try clear c41b0
                     try clear c44
                     try clear c45
                     try clear c45b0
                     try clear c46
                     try clear c46b0
                     try clear p47
                     try clear q47
                     try clear hx47
                     try clear hf47
                     try clear hx293_0
                     try clear hx294_0
                     try clear hx296_0
                     try clear hx297_0
                     try clear hx297_1
                     try clear hx297_2
                     try clear hx297_3
                     try clear hx47_0
                     try clear p2
                     try clear p29
                     try clear p293
                     try clear p294
                     try clear p296
                     try clear p297
                     try clear p47
                     try clear q2
                     try clear q29
                     try clear q293
                     try clear q294
                     try clear q296
                     try clear q297
                     try clear q3
                     try clear q32
                     try clear q47
                     obtain ⟨x17_4, rfl, HA, HK4, HO_5, HO_9, HO_11, HO_12, HB⟩ := hrel
                     have hl12_4 := (Kd.R_reads' HO_12.out).1
                     rw [hl12_4] at HO_12
                     (try simp only [hl12_4])
                     (try simp only [hl12_4] at HO_5)
                     (try simp only [hl12_4] at HO_9)
                     (try simp only [hl12_4] at HO_11)
                     cases gk with
                     | zero => exact absurd HA.out (by simp [selvedgelaw15_RunsOnce.l2])
                     | succ k4 =>
                      have H := HA.out
                      clear HA
                      simp only [selvedgelaw15_RunsOnce.l2] at H
                      have HC50 := Aside0.mk H
                      clear H
                      go_upto_region 23 with (fail)
                      go_cut [117] (fun v117 wc => ∃ (kq : Nat) (x117_49 : Bool), v117 = .bool x117_49 ∧ Aside0 (selvedgelaw15_RunsOnce.j4 kq l0 t266 t275 t279 y298 x13_1 x14_2 x15_2 (rd ((rd_T36 t275 x13_1).f0) x15_2) x17_4 x117_49 = some r) ∧ Aside0 (kq ≤ k4) ∧ Aside0 (Kd.R (Kd.int .u8) 5 wc w.heap.size (fun _ => True) (.slice Ao14 t266.length co14) t266) ∧ Aside0 (Kd.S k36 36 wc w.heap.size (fun k_ => some k_ ≠ (v280 : Value).ownBlock) (.slice (some ad285) t275.length co20) t275) ∧ Aside0 (Kd.R (Kd.int .i64) 3 wc w.heap.size (fun _ => True) v280 t279) ∧ Aside0 (Kd.R Kd.bool 4 wc w.heap.size (fun _ => True) (.slice (some ⟨go47, 0, none⟩) y298.length co47) y298) ∧ Aside0 (Below w.heap.size w wc))
                      case first =>
                       have H := HC50.out
                       clear HC50
                       by_cases c51 : x15_2 > 0
                       ·rw [if_pos c51] at H
                        have c51b0 : decide (0 < x15_2) = true := decide_eq_true c51
                        clear c51
                        (first | rw [c51b0] | (simp only [i64_w, i32_w]; rw [c51b0]) | skip)
                        have H' := Aside0.mk H
                        clear H
                        go_wp2
                        go_meet
                        case rel => exact ⟨_, (decide (x17_4 < (rd ((rd_T36 t275 x13_1).f0) x15_2))), (by first | rfl | (simp; done) | (simp [*]; done)), H', ⟨by have := HK1.out; have := HK2.out; have := HJ24.out; have := HK4.out; first | omega | exact Nat.le_refl _⟩, ⟨by (try simp only [hl12_4]); (with_reducible repeat (first | apply Kd.R_alloc | apply Kd.R_drewN | apply Kd.R_drew)); exact HO_5.out⟩, ⟨by (try simp only [hl12_4]); (with_reducible repeat (first | apply Kd.S_alloc | apply Kd.S_drewN | apply Kd.S_drew)); exact HO_9.out⟩, ⟨by (try simp only [hl12_4]); (with_reducible repeat (first | apply Kd.R_alloc | apply Kd.R_drewN | apply Kd.R_drew)); exact HO_11.out⟩, ⟨by (try simp only [hl12_4]); (with_reducible repeat (first | apply Kd.R_alloc | apply Kd.R_drewN | apply Kd.R_drew)); exact HO_12.out⟩, ⟨mvB HB⟩⟩
                       ·rw [if_neg c51] at H
                        have c51b0 : decide (0 < x15_2) = false := decide_eq_false c51
                        clear c51
                        (first | rw [c51b0] | (simp only [i64_w, i32_w]; rw [c51b0]) | skip)
                        have H' := Aside0.mk H
                        clear H
                        go_wp2
                        go_meet
                        case rel => exact ⟨_, (false), (by first | rfl | (simp; done) | (simp [*]; done)), H', ⟨by have := HK1.out; have := HK2.out; have := HJ24.out; have := HK4.out; first | omega | exact Nat.le_refl _⟩, ⟨by (try simp only [hl12_4]); (with_reducible repeat (first | apply Kd.R_alloc | apply Kd.R_drewN | apply Kd.R_drew)); exact HO_5.out⟩, ⟨by (try simp only [hl12_4]); (with_reducible repeat (first | apply Kd.S_alloc | apply Kd.S_drewN | apply Kd.S_drew)); exact HO_9.out⟩, ⟨by (try simp only [hl12_4]); (with_reducible repeat (first | apply Kd.R_alloc | apply Kd.R_drewN | apply Kd.R_drew)); exact HO_11.out⟩, ⟨by (try simp only [hl12_4]); (with_reducible repeat (first | apply Kd.R_alloc | apply Kd.R_drewN | apply Kd.R_drew)); exact HO_12.out⟩, ⟨mvB HB⟩⟩
                      case rest =>
                       clear HC50
                       try clear c1
                       try clear c2
                       try clear p2
                       try clear q2
                       try clear hx2
                       try clear c3
                       try clear q3
                       try clear c4
                       try clear p4
                       try clear q4
                       try clear hx4
                       try clear hf4
                       try clear c5
                       try clear p6
                       try clear c14
                       try clear c29
                       try clear p29
                       try clear q29
                       try clear hx29
                       try clear c30
                       try clear c31
                       try clear q32
                       try clear c36
                       try clear c38
                       try clear c41
                       try clear c41b0
                       try clear c44
                       try clear c45
                       try clear c45b0
                       try clear c46
                       try clear c46b0
                       try clear p47
                       try clear q47
                       try clear hx47
                       try clear hf47
                       try clear c51
                       try clear c51b0
                       try clear hx293_0
                       try clear hx294_0
                       try clear hx296_0
                       try clear hx297_0
                       try clear hx297_1
                       try clear hx297_2
                       try clear hx297_3
                       try clear hx47_0
                       try clear p2
                       try clear p29
                       try clear p293
                       try clear p294
                       try clear p296
                       try clear p297
                       try clear p4
                       try clear p47
                       try clear p6
                       try clear q2
                       try clear q29
                       try clear q293
                       try clear q294
                       try clear q296
                       try clear q297
                       try clear q3
                       try clear q32
                       try clear q4
                       try clear q47
                       obtain ⟨kq, x117_49, rfl, HA, HJ49, HO_5, HO_9, HO_11, HO_12, HB⟩ := hcut
                       cases kq with
                       | zero => exact absurd HA.out (by simp [selvedgelaw15_RunsOnce.j4])
                       | succ kj49 =>
                        have H := HA.out
                        clear HA
                        simp only [selvedgelaw15_RunsOnce.j4] at H
                        by_cases c52 : x117_49 = true
                        ·subst c52
                         have H1 : (if 0 ≤ x17_4 then (if x17_4 < (l0.length : Int) then ((selvedgeref14_Removed.f (rd l0 x17_4)).bind fun t300 => (if t300 = true then (selvedgelaw15_RunsOnce.l2 kj49 l0 t266 t275 t279 y298 x13_1 x14_2 x15_2 (rd ((rd_T36 t275 x13_1).f0) x15_2) (wrap64 (x17_4 + 1))) else (if 0 ≤ x14_2 then (if x14_2 < (t279.length : Int) then (if (rd t279 x14_2) = (rd ((rd_T36 t275 x13_1).f0) x15_2) then (selvedgelaw15_RunsOnce.l2 kj49 l0 t266 t275 t279 y298 x13_1 x14_2 x15_2 (rd ((rd_T36 t275 x13_1).f0) x15_2) (wrap64 (x17_4 + 1))) else (none)) else (none)) else (none)))) else (none)) else (none)) = some r := by rw [if_pos rfl] at H; exact H
                         clear H
                         have H := H1
                         clear H1
                         by_cases c53 : 0 ≤ x17_4
                         ·rw [if_pos c53] at H
                          have c53b0 : decide (0 ≤ x17_4) = true := decide_eq_true c53
                          clear c53
                          by_cases c54 : x17_4 < (l0.length : Int)
                          ·rw [if_pos c54] at H
                           have c54b0 : decide (x17_4 < (l0.length : Int)) = true := decide_eq_true c54
                           clear c54
                           replace H := Option.bind_eq_some_iff.mp H
                           obtain ⟨t300, A550, H⟩ := H
                           replace H : (if t300 = true then (selvedgelaw15_RunsOnce.l2 kj49 l0 t266 t275 t279 y298 x13_1 x14_2 x15_2 (rd ((rd_T36 t275 x13_1).f0) x15_2) (wrap64 (x17_4 + 1))) else (if 0 ≤ x14_2 then (if x14_2 < (t279.length : Int) then (if (rd t279 x14_2) = (rd ((rd_T36 t275 x13_1).f0) x15_2) then (selvedgelaw15_RunsOnce.l2 kj49 l0 t266 t275 t279 y298 x13_1 x14_2 x15_2 (rd ((rd_T36 t275 x13_1).f0) x15_2) (wrap64 (x17_4 + 1))) else (none)) else (none)) else (none))) = some r := H
                           have A55 := Aside0.mk A550
                           clear A550
                           by_cases c56 : t300 = true
                           ·subst c56
                            have H1 : (selvedgelaw15_RunsOnce.l2 kj49 l0 t266 t275 t279 y298 x13_1 x14_2 x15_2 (rd ((rd_T36 t275 x13_1).f0) x15_2) (wrap64 (x17_4 + 1))) = some r := by rw [if_pos rfl] at H; exact H
                            clear H
                            have H := H1
                            clear H1
                            have H' := Aside0.mk H
                            clear H
                            obtain ⟨ad299, e299, hx299_0, p299, q299⟩ := atI HR0.out x17_4
                            cases e299
                            replace hx299_0 := (HB.out.cell (World.block_lt_of_cell? w _ hx299_0)).trans hx299_0
                            go_wp2_with (first | ((with_reducible refine gate_callee (f := 14) rfl ?_); refine goesL_ (some 124) rfl rfl Try.func14 (by kernel_rfl) rfl #[.int .u8 (rd l0 x17_4)] rfl (by (try simp only [List.map_toArray, List.map_cons, List.map_nil]); first | done | rfl | (simp only [List.length_drop, List.length_take]; rfl)) ?_; (with_reducible refine (selvedgeref14_Removed.calls (rd l0 x17_4) true _ A55.out).mono ?_); rintro e w' ⟨rfl, ⟨nd, rfl⟩⟩; refine ⟨_, rfl, ?_⟩))
                            (try simp only [← hl12_4])
                            go_roundg kj49
                            case measure => have := HK1.out; have := HK2.out; have := HJ24.out; have := HK4.out; have := HJ49.out; omega
                            case rel => exact ⟨(wrap64 (x17_4 + 1)), (by first | rfl | (simp; done) | (simp [*]; done)), H', ⟨by have := HK1.out; have := HK2.out; have := HJ24.out; have := HK4.out; have := HJ49.out; omega⟩, ⟨by (try simp only [hl12_4]); (with_reducible repeat (first | apply Kd.R_alloc | apply Kd.R_drewN | apply Kd.R_drew)); exact HO_5.out⟩, ⟨by (try simp only [hl12_4]); (with_reducible repeat (first | apply Kd.S_alloc | apply Kd.S_drewN | apply Kd.S_drew)); exact HO_9.out⟩, ⟨by (try simp only [hl12_4]); (with_reducible repeat (first | apply Kd.R_alloc | apply Kd.R_drewN | apply Kd.R_drew)); exact HO_11.out⟩, ⟨by (try simp only [hl12_4]); (with_reducible repeat (first | apply Kd.R_alloc | apply Kd.R_drewN | apply Kd.R_drew)); exact HO_12.out⟩, ⟨mvB HB⟩⟩
                           ·replace c56 := Bool.eq_false_iff.mpr c56
                            subst c56
                            have H1 : (if 0 ≤ x14_2 then (if x14_2 < (t279.length : Int) then (if (rd t279 x14_2) = (rd ((rd_T36 t275 x13_1).f0) x15_2) then (selvedgelaw15_RunsOnce.l2 kj49 l0 t266 t275 t279 y298 x13_1 x14_2 x15_2 (rd ((rd_T36 t275 x13_1).f0) x15_2) (wrap64 (x17_4 + 1))) else (none)) else (none)) else (none)) = some r := by rw [if_neg (show ¬ (false = true) by decide)] at H; exact H
                            clear H
                            have H := H1
                            clear H1
                            by_cases c57 : 0 ≤ x14_2
                            ·rw [if_pos c57] at H
                             have c57b0 : decide (0 ≤ x14_2) = true := decide_eq_true c57
                             clear c57
                             by_cases c58 : x14_2 < (t279.length : Int)
                             ·rw [if_pos c58] at H
                              have c58b0 : decide (x14_2 < (t279.length : Int)) = true := decide_eq_true c58
                              clear c58
                              by_cases c59 : (rd t279 x14_2) = (rd ((rd_T36 t275 x13_1).f0) x15_2)
                              ·rw [if_pos c59] at H
                               have c59b0 : ((rd t279 x14_2) == (rd ((rd_T36 t275 x13_1).f0) x15_2)) = true := beq_iff_eq.mpr c59
                               have c59b1 : ((rd t279 x14_2) != (rd ((rd_T36 t275 x13_1).f0) x15_2)) = false := bne_eq_false_iff_eq.mpr c59
                               clear c59
                               have H' := Aside0.mk H
                               clear H
                               obtain ⟨ad299, e299, hx299_0, p299, q299⟩ := atI HR0.out x17_4
                               cases e299
                               replace hx299_0 := (HB.out.cell (World.block_lt_of_cell? w _ hx299_0)).trans hx299_0
                               go_wp2_with (first | ((with_reducible refine gate_callee (f := 14) rfl ?_); refine goesL_ (some 124) rfl rfl Try.func14 (by kernel_rfl) rfl #[.int .u8 (rd l0 x17_4)] rfl (by (try simp only [List.map_toArray, List.map_cons, List.map_nil]); first | done | rfl | (simp only [List.length_drop, List.length_take]; rfl)) ?_; (with_reducible refine (selvedgeref14_Removed.calls (rd l0 x17_4) false _ A55.out).mono ?_); rintro e w' ⟨rfl, ⟨nd, rfl⟩⟩; refine ⟨_, rfl, ?_⟩; obtain ⟨Ao60, co60, eo60⟩ := Kd.R_slice HO_11.out; subst eo60; obtain ⟨ad301, e301, hx301_0, p301, q301⟩ := atI (Kd.R_reads' HO_11.out).2.2 x14_2; cases e301))
                               (try simp only [← hl12_4])
                               go_roundg kj49
                               case measure => have := HK1.out; have := HK2.out; have := HJ24.out; have := HK4.out; have := HJ49.out; omega
                               case rel => exact ⟨(wrap64 (x17_4 + 1)), (by first | rfl | (simp; done) | (simp [*]; done)), H', ⟨by have := HK1.out; have := HK2.out; have := HJ24.out; have := HK4.out; have := HJ49.out; omega⟩, ⟨by (try simp only [hl12_4]); (with_reducible repeat (first | apply Kd.R_alloc | apply Kd.R_drewN | apply Kd.R_drew)); exact HO_5.out⟩, ⟨by (try simp only [hl12_4]); (with_reducible repeat (first | apply Kd.S_alloc | apply Kd.S_drewN | apply Kd.S_drew)); exact HO_9.out⟩, ⟨by (try simp only [hl12_4]); (with_reducible repeat (first | apply Kd.R_alloc | apply Kd.R_drewN | apply Kd.R_drew)); exact HO_11.out⟩, ⟨by (try simp only [hl12_4]); (with_reducible repeat (first | apply Kd.R_alloc | apply Kd.R_drewN | apply Kd.R_drew)); exact HO_12.out⟩, ⟨mvB HB⟩⟩
                              ·rw [if_neg c59] at H
                               exact absurd H (by simp)
                             ·rw [if_neg c58] at H
                              exact absurd H (by simp)
                            ·rw [if_neg c57] at H
                             exact absurd H (by simp)
                          ·rw [if_neg c54] at H
                           exact absurd H (by simp)
                         ·rw [if_neg c53] at H
                          exact absurd H (by simp)
                        ·replace c52 := Bool.eq_false_iff.mpr c52
                         subst c52
                         have H1 : (selvedgelaw15_RunsOnce.l1 kj49 l0 t266 t275 t279 y298 x13_1 (rd ((rd_T36 t275 x13_1).f0) x15_2) (wrap64 (x15_2 + 1))) = some r := by rw [if_neg (show ¬ (false = true) by decide)] at H; exact H
                         clear H
                         have H := H1
                         clear H1
                         have H' := Aside0.mk H
                         clear H
                         go_wp2
                         (try simp only [← hl12_4])
                         go_roundg kj49
                         case measure => have := HK1.out; have := HK2.out; have := HJ24.out; have := HK4.out; have := HJ49.out; omega
                         case rel => exact ⟨(y298), ((rd ((rd_T36 t275 x13_1).f0) x15_2)), (wrap64 (x15_2 + 1)), (by first | rfl | (simp; done) | (simp [*]; done)), (by first | rfl | (simp; done) | (simp [*]; done)), H', ⟨by have := HK1.out; have := HK2.out; have := HJ24.out; have := HK4.out; have := HJ49.out; omega⟩, ⟨by (try simp only [hl12_4]); (with_reducible repeat (first | apply Kd.R_alloc | apply Kd.R_drewN | apply Kd.R_drew)); exact HO_5.out⟩, ⟨by (try simp only [hl12_4]); (with_reducible repeat (first | apply Kd.S_alloc | apply Kd.S_drewN | apply Kd.S_drew)); exact HO_9.out⟩, ⟨by (try simp only [hl12_4]); (with_reducible repeat (first | apply Kd.R_alloc | apply Kd.R_drewN | apply Kd.R_drew)); exact HO_11.out⟩, ⟨by (try simp only [hl12_4]); (with_reducible repeat (first | apply Kd.R_alloc | apply Kd.R_drewN | apply Kd.R_drew)); exact HO_12.out⟩, ⟨mvB HB⟩⟩
                   ·rw [if_neg c46] at H
                    exact absurd H (by simp)
                  ·rw [if_neg c45] at H
                   exact absurd H (by simp)
              ·rw [if_neg c24] at H
               exact absurd H (by simp)
             ·rw [if_neg c23] at H
              have c23b0 : decide (x15_2 < (((rd_T36 t275 x13_1).f0).length : Int)) = false := decide_eq_false c23
              clear c23
              by_cases c62 : (((rd_T36 t275 x13_1).f0).length : Int) = 0
              ·rw [if_pos c62] at H
               exact absurd H (by simp)
              ·rw [if_neg c62] at H
               have c62b0 : ((((rd_T36 t275 x13_1).f0).length : Int) == 0) = false := beq_eq_false_iff_ne.mpr c62
               have c62b1 : ((((rd_T36 t275 x13_1).f0).length : Int) != 0) = true := bne_iff_ne.mpr c62
               have c62b2 : ¬ (((rd_T36 t275 x13_1).f0) = []) := fun h_ => c62 (by rw [h_]; rfl)
               by_cases c64 : x13_1 > 0
               ·rw [if_pos c64] at H
                have c64b0 : decide (0 < x13_1) = true := decide_eq_true c64
                clear c64
                by_cases c65 : 0 < (((rd_T36 t275 x13_1).f0).length : Int)
                ·rw [if_pos c65] at H
                 have c65b0 : decide (0 < (((rd_T36 t275 x13_1).f0).length : Int)) = true := decide_eq_true c65
                 have c65b1 : decide (0 < ((rd_T36 t275 x13_1).f0).length) = true := decide_eq_true (by omega)
                 clear c65
                 obtain ⟨ji66, hji66⟩ : ∃ j_ : Int, (wrap64 (x13_1 - 1)) = j_ := ⟨_, rfl⟩
                 replace H : (if 0 ≤ (ji66) then (if (ji66) < (t275.length : Int) then (if 0 < (((rd_T36 t275 (ji66)).f0).length : Int) then (if (rd ((rd_T36 t275 x13_1).f0) 0) ≤ (rd ((rd_T36 t275 (ji66)).f0) 0) then (none) else (selvedgelaw15_RunsOnce.l0 k2 l0 t266 t275 t279 x12_2 (wrap64 (x13_1 + 1)))) else (none)) else (none)) else (none)) = some r := by first | (rw [hji66] at H; exact H) | (simp only [hji66] at H ⊢; exact H)
                 have hji66w : (IntKind.i64.wrap (x13_1 - 1)) = ji66 := (i64_w _).trans hji66
                 by_cases c67 : 0 ≤ (ji66)
                 ·rw [if_pos c67] at H
                  have c67b0 : decide (0 ≤ (ji66)) = true := decide_eq_true c67
                  clear c67
                  by_cases c68 : (ji66) < (t275.length : Int)
                  ·rw [if_pos c68] at H
                   have c68b0 : decide ((ji66) < (t275.length : Int)) = true := decide_eq_true c68
                   clear c68
                   by_cases c69 : 0 < (((rd_T36 t275 (ji66)).f0).length : Int)
                   ·rw [if_pos c69] at H
                    have c69b0 : decide (0 < (((rd_T36 t275 (ji66)).f0).length : Int)) = true := decide_eq_true c69
                    have c69b1 : decide (0 < ((rd_T36 t275 (ji66)).f0).length) = true := decide_eq_true (by omega)
                    clear c69
                    by_cases c70 : (rd ((rd_T36 t275 x13_1).f0) 0) ≤ (rd ((rd_T36 t275 (ji66)).f0) 0)
                    ·rw [if_pos c70] at H
                     exact absurd H (by simp)
                    ·rw [if_neg c70] at H
                     have c70b0 : decide ((rd ((rd_T36 t275 x13_1).f0) 0) ≤ (rd ((rd_T36 t275 (ji66)).f0) 0)) = false := decide_eq_false c70
                     clear c70
                     have H' := Aside0.mk H
                     clear H
                     have p285 := dT (0 ≤ (x13_1 : Int))
                     have q285 := dT (x13_1 < (t275.length : Int))
                     obtain ⟨ad285, A285_0, c285_0, e285, hx285_0, hx285_1, hx285_2, hx285_3, hl285_0, hi285_0⟩ := at_T36 (Kd.S_reads' HO_9.out).2.2 x13_1 p285 q285
                     cases e285
                     obtain ⟨ce285, hce285, hMe285, hcc285⟩ := Kd.S_get HO_9.out z36 x13_1 p285 (by first | exact q285 | exact of_decide_eq_true (by first | (with_reducible assumption) | assumption) | (have e_ := (Kd.S_reads' HO_9.out).1; omega))
                     obtain ⟨ve285_0, rfl, ge285_0⟩ := k36_openM hMe285
                     have hv285_0 := hcc285 0 _ rfl
                     rw [Nat.add_zero] at hv285_0
                     replace hv285_0 := Option.some.inj (hv285_0.symm.trans hx285_0)
                     rw [hv285_0] at ge285_0
                     have HL285_0 := Aside0.mk (show Kd.R (Kd.int .i64) 3 _ _ _ _ ((rd_T36 t275 x13_1).f0) from ge285_0)
                     clear hv285_0 ge285_0
                     clear hcc285 hce285
                     have HR285_0 := Aside0.mk hi285_0
                     have HC285_0 := Aside0.mk hl285_0
                     clear hi285_0 hl285_0
                     replace p285 := eq_true p285
                     replace q285 := eq_true q285
                     try go_wp2
                     have n0_ := Aside0.mk (Kd.R_drew HO_5.out)
                     have n1_ := Aside0.mk (Kd.S_drew HO_9.out)
                     have n2_ := Aside0.mk (Kd.R_drew HO_11.out)
                     have n3_ := Aside0.mk (Kd.R_drew HO_12.out)
                     have n4_ := Aside0.mk (Kd.R_drew HL285_0.out)
                     have n5_ := Aside0.mk (Kd.C_drew HR285_0.out)
                     have n6_ := Aside0.mk (below_drew1 HB.out)
                     clear HO_5
                     clear HO_9
                     clear HO_11
                     clear HO_12
                     clear HL285_0
                     clear HR285_0
                     clear HB
                     have HO_5 := n0_
                     have HO_9 := n1_
                     have HO_11 := n2_
                     have HO_12 := n3_
                     have HL285_0 := n4_
                     have HR285_0 := n5_
                     have HB := n6_
                     clear n0_ n1_ n2_ n3_ n4_ n5_ n6_
                     have p286 := dT (0 ≤ (x13_1 : Int))
                     have q286 := dT (x13_1 < (t275.length : Int))
                     obtain ⟨ad286, A286_0, c286_0, e286, hx286_0, hx286_1, hx286_2, hx286_3, hl286_0, hi286_0⟩ := at_T36 (Kd.S_reads' HO_9.out).2.2 x13_1 p286 q286
                     obtain rfl : ad285 = ad286 := (by injection e286)
                     obtain ⟨ce286, hce286, hMe286, hcc286⟩ := Kd.S_get HO_9.out z36 x13_1 p286 (by first | exact q286 | exact of_decide_eq_true (by first | (with_reducible assumption) | assumption) | (have e_ := (Kd.S_reads' HO_9.out).1; omega))
                     obtain ⟨ve286_0, rfl, ge286_0⟩ := k36_openM hMe286
                     have hv286_0 := hcc286 0 _ rfl
                     rw [Nat.add_zero] at hv286_0
                     replace hv286_0 := Option.some.inj (hv286_0.symm.trans hx286_0)
                     rw [hv286_0] at ge286_0
                     have HL286_0 := Aside0.mk (show Kd.R (Kd.int .i64) 3 _ _ _ _ ((rd_T36 t275 x13_1).f0) from ge286_0)
                     clear hv286_0 ge286_0
                     clear hcc286 hce286
                     have HR286_0 := Aside0.mk hi286_0
                     have HC286_0 := Aside0.mk hl286_0
                     clear hi286_0 hl286_0
                     replace p286 := eq_true p286
                     replace q286 := eq_true q286
                     have p287 := dT (0 ≤ (x13_1 : Int))
                     have q287 := dT (x13_1 < (t275.length : Int))
                     obtain ⟨ad287, A287_0, c287_0, e287, hx287_0, hx287_1, hx287_2, hx287_3, hl287_0, hi287_0⟩ := at_T36 (Kd.S_reads' HO_9.out).2.2 x13_1 p287 q287
                     obtain rfl : ad285 = ad287 := (by injection e287)
                     obtain ⟨ce287, hce287, hMe287, hcc287⟩ := Kd.S_get HO_9.out z36 x13_1 p287 (by first | exact q287 | exact of_decide_eq_true (by first | (with_reducible assumption) | assumption) | (have e_ := (Kd.S_reads' HO_9.out).1; omega))
                     obtain ⟨ve287_0, rfl, ge287_0⟩ := k36_openM hMe287
                     have hv287_0 := hcc287 0 _ rfl
                     rw [Nat.add_zero] at hv287_0
                     replace hv287_0 := Option.some.inj (hv287_0.symm.trans hx287_0)
                     rw [hv287_0] at ge287_0
                     have HL287_0 := Aside0.mk (show Kd.R (Kd.int .i64) 3 _ _ _ _ ((rd_T36 t275 x13_1).f0) from ge287_0)
                     clear hv287_0 ge287_0
                     clear hcc287 hce287
                     have HR287_0 := Aside0.mk hi287_0
                     have HC287_0 := Aside0.mk hl287_0
                     clear hi287_0 hl287_0
                     replace p287 := eq_true p287
                     replace q287 := eq_true q287
                     have ea_ := Option.some.inj (hx286_0.symm.trans hx287_0)
                     injection ea_ with ea_ en_ ec_
                     subst ea_
                     subst ec_
                     clear en_
                     have p288 : 0 ≤ (0 : Int) := (by omega)
                     have q288 := dT (0 < (((rd_T36 t275 x13_1).f0).length : Int))
                     obtain ⟨ad288, e288, hx288_0⟩ := Kd.at_int (by repeat (first | (with_reducible exact HR287_0.out) | (with_reducible refine Kd.C_alloc ?_ _) | (with_reducible refine Kd.C_drewN ?_ _) | (with_reducible refine Kd.C_drew ?_) | exact HR287_0.out)) 0 p288 q288
                     cases e288
                     have qi288 : (0 < ((rd_T36 t275 x13_1).f0).length) = True := eq_true (by omega)
                     (try rw [show ((0 : Int)).toNat = 0 from rfl] at hx288_0)
                     (try rw [Addr.add_zero'] at hx288_0)
                     replace p288 := eq_true p288
                     replace q288 := eq_true q288
                     have p289 := dT (0 ≤ ((ji66) : Int))
                     have q289 := dT ((ji66) < (t275.length : Int))
                     obtain ⟨ad289, A289_0, c289_0, e289, hx289_0, hx289_1, hx289_2, hx289_3, hl289_0, hi289_0⟩ := at_T36 (Kd.S_reads' HO_9.out).2.2 (ji66) p289 q289
                     obtain rfl : ad285 = ad289 := (by injection e289)
                     obtain ⟨ce289, hce289, hMe289, hcc289⟩ := Kd.S_get HO_9.out z36 (ji66) p289 (by first | exact q289 | exact of_decide_eq_true (by first | (with_reducible assumption) | assumption) | (have e_ := (Kd.S_reads' HO_9.out).1; omega))
                     obtain ⟨ve289_0, rfl, ge289_0⟩ := k36_openM hMe289
                     have hv289_0 := hcc289 0 _ rfl
                     rw [Nat.add_zero] at hv289_0
                     replace hv289_0 := Option.some.inj (hv289_0.symm.trans hx289_0)
                     rw [hv289_0] at ge289_0
                     have HL289_0 := Aside0.mk (show Kd.R (Kd.int .i64) 3 _ _ _ _ ((rd_T36 t275 (ji66)).f0) from ge289_0)
                     clear hv289_0 ge289_0
                     clear hcc289 hce289
                     have HR289_0 := Aside0.mk hi289_0
                     have HC289_0 := Aside0.mk hl289_0
                     clear hi289_0 hl289_0
                     replace p289 := eq_true p289
                     replace q289 := eq_true q289
                     have p290 : 0 ≤ (0 : Int) := (by omega)
                     have q290 := dT (0 < (((rd_T36 t275 (ji66)).f0).length : Int))
                     obtain ⟨ad290, e290, hx290_0⟩ := Kd.at_int (by repeat (first | (with_reducible exact HR289_0.out) | (with_reducible refine Kd.C_alloc ?_ _) | (with_reducible refine Kd.C_drewN ?_ _) | (with_reducible refine Kd.C_drew ?_) | exact HR289_0.out)) 0 p290 q290
                     cases e290
                     have qi290 : (0 < ((rd_T36 t275 (ji66)).f0).length) = True := eq_true (by omega)
                     (try rw [show ((0 : Int)).toNat = 0 from rfl] at hx290_0)
                     (try rw [Addr.add_zero'] at hx290_0)
                     replace p290 := eq_true p290
                     replace q290 := eq_true q290
                     refine start_ (n := 29) (S := fun w' => w'.cell? (ad285.add ((x13_1).toNat * 4)) = some (.slice (some ad288) ((rd_T36 t275 x13_1).f0).length c286_0) ∧ w'.cell? ⟨(ad285.add ((x13_1).toNat * 4)).block, (ad285.add ((x13_1).toNat * 4)).off + 1, none⟩ = some (.int .u8 ((rd_T36 t275 x13_1).f1)) ∧ w'.cell? ⟨(ad285.add ((x13_1).toNat * 4)).block, (ad285.add ((x13_1).toNat * 4)).off + 2, none⟩ = some (.int .u8 ((rd_T36 t275 x13_1).f2)) ∧ w'.cell? ⟨(ad285.add ((x13_1).toNat * 4)).block, (ad285.add ((x13_1).toNat * 4)).off + 3, none⟩ = some (.int .u8 ((rd_T36 t275 x13_1).f3)) ∧ w'.cell? (ad285.add ((x13_1).toNat * 4)) = some (.slice (some ad288) ((rd_T36 t275 x13_1).f0).length c286_0) ∧ w'.cell? ⟨(ad285.add ((x13_1).toNat * 4)).block, (ad285.add ((x13_1).toNat * 4)).off + 1, none⟩ = some (.int .u8 ((rd_T36 t275 x13_1).f1)) ∧ w'.cell? ⟨(ad285.add ((x13_1).toNat * 4)).block, (ad285.add ((x13_1).toNat * 4)).off + 2, none⟩ = some (.int .u8 ((rd_T36 t275 x13_1).f2)) ∧ w'.cell? ⟨(ad285.add ((x13_1).toNat * 4)).block, (ad285.add ((x13_1).toNat * 4)).off + 3, none⟩ = some (.int .u8 ((rd_T36 t275 x13_1).f3)) ∧ w'.cell? ad288 = some (.int .i64 (rd ((rd_T36 t275 x13_1).f0) 0)) ∧ w'.cell? (ad285.add (((ji66)).toNat * 4)) = some (.slice (some ad290) ((rd_T36 t275 (ji66)).f0).length c289_0) ∧ w'.cell? ⟨(ad285.add (((ji66)).toNat * 4)).block, (ad285.add (((ji66)).toNat * 4)).off + 1, none⟩ = some (.int .u8 ((rd_T36 t275 (ji66)).f1)) ∧ w'.cell? ⟨(ad285.add (((ji66)).toNat * 4)).block, (ad285.add (((ji66)).toNat * 4)).off + 2, none⟩ = some (.int .u8 ((rd_T36 t275 (ji66)).f2)) ∧ w'.cell? ⟨(ad285.add (((ji66)).toNat * 4)).block, (ad285.add (((ji66)).toNat * 4)).off + 3, none⟩ = some (.int .u8 ((rd_T36 t275 (ji66)).f3)) ∧ w'.cell? ad290 = some (.int .i64 (rd ((rd_T36 t275 (ji66)).f0) 0))) (ds := []) #[false, false, false, false, false, false, false, false, false, false, false, false, false, false, false, false, false, false, false, false, false, false, false, false, false, false, false, false, false] (by kernel_rfl) rfl rfl ⟨hx286_0, hx286_1, hx286_2, hx286_3, hx287_0, hx287_1, hx287_2, hx287_3, hx288_0, hx289_0, hx289_1, hx289_2, hx289_3, hx290_0⟩ (fun hHeld => ?_); refine with_tabW selvedgelaw15_RunsOnce.tab28 selvedgelaw15_RunsOnce.bits28 (fun HT_ HW_ => ?_)
                     generalize wr.drew = w72 at HO_5 HO_9 HO_11 HO_12 HL285_0 HR285_0 HB HL286_0 HL287_0 HL289_0 HR286_0 HR287_0 HR289_0 hx286_0 hx286_1 hx286_2 hx286_3 hx287_0 hx287_1 hx287_2 hx287_3 hx288_0 hx289_0 hx289_1 hx289_2 hx289_3 hx290_0 hHeld ⊢
                     refine pure_ (i := 0) (N := some 135) (v := ?_) (a' := ?_) #[true, false, false, false, false, false, false, false, false, false, false, false, false, false, false, false, false, false, false, false, false, false, false, false, false, false, false, false, false] rfl rfl (any_of HT_.out (by kernel_rfl)) (fun _ _ _ h => h) (Or.inl ⟨by rfl, ?_⟩) ?_ ?_
                     rotate_left
                     ·intro w'
                      go_simp
                      with_reducible rfl
                     rotate_left
                     ·simp only [Act.put, List.setIfInBounds_toArray, List.set_cons_zero, List.set_cons_succ, i64_w, i32_w]
                      rfl
                     refine pure_ (i := 1) (N := some 136) (v := ?_) (a' := ?_) #[true, true, false, false, false, false, false, false, false, false, false, false, false, false, false, false, false, false, false, false, false, false, false, false, false, false, false, false, false] rfl rfl (any_of HT_.out (by kernel_rfl)) (fun _ _ _ h => h) (Or.inl ⟨by rfl, ?_⟩) ?_ ?_
                     rotate_left
                     ·intro w'
                      go_simp
                      with_reducible rfl
                     rotate_left
                     ·simp only [Act.put, List.setIfInBounds_toArray, List.set_cons_zero, List.set_cons_succ, i64_w, i32_w]
                      rfl
                     refine pure_ (i := 2) (N := some 137) (v := ?_) (a' := ?_) #[true, true, true, false, false, false, false, false, false, false, false, false, false, false, false, false, false, false, false, false, false, false, false, false, false, false, false, false, false] rfl rfl (any_of HT_.out (by kernel_rfl)) (fun _ _ _ h => h) (Or.inl ⟨by rfl, ?_⟩) ?_ ?_
                     rotate_left
                     ·intro w'
                      go_simp
                      with_reducible rfl
                     rotate_left
                     ·simp only [Act.put, List.setIfInBounds_toArray, List.set_cons_zero, List.set_cons_succ, i64_w, i32_w]
                      rfl
                     refine pure_ (i := 3) (N := some 138) (v := ?_) (a' := ?_) #[true, true, true, true, false, false, false, false, false, false, false, false, false, false, false, false, false, false, false, false, false, false, false, false, false, false, false, false, false] rfl rfl (any_of HT_.out (by kernel_rfl)) (fun _ _ _ h => h) (Or.inl ⟨by rfl, ?_⟩) ?_ ?_
                     rotate_left
                     ·intro w'
                      go_simp
                      with_reducible rfl
                     rotate_left
                     ·simp only [Act.put, List.setIfInBounds_toArray, List.set_cons_zero, List.set_cons_succ, i64_w, i32_w]
                      rfl
                     refine take_ (i := 4) (N := some 139) (v := ?_) (a' := ?_) #[true, true, true, true, true, false, false, false, false, false, false, false, false, false, false, false, false, false, false, false, false, false, false, false, false, false, false, false, false] rfl rfl (take_ofW HT_.out HW_.out (by kernel_rfl)) (fun _ _ _ h => h) (Or.inl ⟨by rfl, ?_⟩) hHeld ?_ ?_
                     rotate_left
                     ·rintro w' ⟨s0, s1, s2, s3, s4, s5, s6, s7, s8, s9, s10, s11, s12, s13⟩
                      go_simp
                      with_reducible rfl
                     rotate_left
                     ·simp only [Act.put, List.setIfInBounds_toArray, List.set_cons_zero, List.set_cons_succ, i64_w, i32_w]
                      rfl
                     refine pure_ (i := 5) (N := some 140) (v := ?_) (a' := ?_) #[true, true, true, true, true, true, false, false, false, false, false, false, false, false, false, false, false, false, false, false, false, false, false, false, false, false, false, false, false] rfl rfl (any_of HT_.out (by kernel_rfl)) (fun _ _ _ h => h) (Or.inl ⟨by rfl, ?_⟩) ?_ ?_
                     rotate_left
                     ·intro w'
                      go_simp
                      with_reducible rfl
                     rotate_left
                     ·simp only [Act.put, List.setIfInBounds_toArray, List.set_cons_zero, List.set_cons_succ, i64_w, i32_w]
                      rfl
                     refine pure_ (i := 6) (N := some 141) (v := ?_) (a' := ?_) #[true, true, true, true, true, true, true, false, false, false, false, false, false, false, false, false, false, false, false, false, false, false, false, false, false, false, false, false, false] rfl rfl (any_of HT_.out (by kernel_rfl)) (fun _ _ _ h => h) (Or.inl ⟨by rfl, ?_⟩) ?_ ?_
                     rotate_left
                     ·intro w'
                      go_simp
                      with_reducible rfl
                     rotate_left
                     ·simp only [Act.put, List.setIfInBounds_toArray, List.set_cons_zero, List.set_cons_succ, i64_w, i32_w]
                      rfl
                     refine pure_ (i := 7) (N := some 142) (v := ?_) (a' := ?_) #[true, true, true, true, true, true, true, true, false, false, false, false, false, false, false, false, false, false, false, false, false, false, false, false, false, false, false, false, false] rfl rfl (any_of HT_.out (by kernel_rfl)) (fun _ _ _ h => h) (Or.inl ⟨by rfl, ?_⟩) ?_ ?_
                     rotate_left
                     ·intro w'
                      go_simp
                      with_reducible rfl
                     rotate_left
                     ·simp only [Act.put, List.setIfInBounds_toArray, List.set_cons_zero, List.set_cons_succ, i64_w, i32_w]
                      rfl
                     refine pure_ (i := 8) (N := some 143) (v := ?_) (a' := ?_) #[true, true, true, true, true, true, true, true, true, false, false, false, false, false, false, false, false, false, false, false, false, false, false, false, false, false, false, false, false] rfl rfl (any_of HT_.out (by kernel_rfl)) (fun _ _ _ h => h) (Or.inl ⟨by rfl, ?_⟩) ?_ ?_
                     rotate_left
                     ·intro w'
                      go_simp
                      with_reducible rfl
                     rotate_left
                     ·simp only [Act.put, List.setIfInBounds_toArray, List.set_cons_zero, List.set_cons_succ, i64_w, i32_w]
                      rfl
                     refine pure_ (i := 9) (N := some 144) (v := ?_) (a' := ?_) #[true, true, true, true, true, true, true, true, true, true, false, false, false, false, false, false, false, false, false, false, false, false, false, false, false, false, false, false, false] rfl rfl (any_of HT_.out (by kernel_rfl)) (fun _ _ _ h => h) (Or.inl ⟨by rfl, ?_⟩) ?_ ?_
                     rotate_left
                     ·intro w'
                      go_simp
                      with_reducible rfl
                     rotate_left
                     ·simp only [Act.put, List.setIfInBounds_toArray, List.set_cons_zero, List.set_cons_succ, i64_w, i32_w]
                      rfl
                     refine pure_ (i := 10) (N := some 145) (v := ?_) (a' := ?_) #[true, true, true, true, true, true, true, true, true, true, true, false, false, false, false, false, false, false, false, false, false, false, false, false, false, false, false, false, false] rfl rfl (any_of HT_.out (by kernel_rfl)) (fun _ _ _ h => h) (Or.inl ⟨by rfl, ?_⟩) ?_ ?_
                     rotate_left
                     ·intro w'
                      go_simp
                      with_reducible rfl
                     rotate_left
                     ·simp only [Act.put, List.setIfInBounds_toArray, List.set_cons_zero, List.set_cons_succ, i64_w, i32_w]
                      rfl
                     refine pure_ (i := 11) (N := some 146) (v := ?_) (a' := ?_) #[true, true, true, true, true, true, true, true, true, true, true, true, false, false, false, false, false, false, false, false, false, false, false, false, false, false, false, false, false] rfl rfl (any_of HT_.out (by kernel_rfl)) (fun _ _ _ h => h) (Or.inl ⟨by rfl, ?_⟩) ?_ ?_
                     rotate_left
                     ·intro w'
                      go_simp
                      with_reducible rfl
                     rotate_left
                     ·simp only [Act.put, List.setIfInBounds_toArray, List.set_cons_zero, List.set_cons_succ, i64_w, i32_w]
                      rfl
                     refine pure_ (i := 12) (N := some 147) (v := ?_) (a' := ?_) #[true, true, true, true, true, true, true, true, true, true, true, true, true, false, false, false, false, false, false, false, false, false, false, false, false, false, false, false, false] rfl rfl (any_of HT_.out (by kernel_rfl)) (fun _ _ _ h => h) (Or.inl ⟨by rfl, ?_⟩) ?_ ?_
                     rotate_left
                     ·intro w'
                      go_simp
                      with_reducible rfl
                     rotate_left
                     ·simp only [Act.put, List.setIfInBounds_toArray, List.set_cons_zero, List.set_cons_succ, i64_w, i32_w]
                      rfl
                     refine pure_ (i := 13) (N := some 148) (v := ?_) (a' := ?_) #[true, true, true, true, true, true, true, true, true, true, true, true, true, true, false, false, false, false, false, false, false, false, false, false, false, false, false, false, false] rfl rfl (any_of HT_.out (by kernel_rfl)) (fun _ _ _ h => h) (Or.inl ⟨by rfl, ?_⟩) ?_ ?_
                     rotate_left
                     ·intro w'
                      go_simp
                      with_reducible rfl
                     rotate_left
                     ·simp only [Act.put, List.setIfInBounds_toArray, List.set_cons_zero, List.set_cons_succ, i64_w, i32_w]
                      rfl
                     refine pure_ (i := 14) (N := some 149) (v := ?_) (a' := ?_) #[true, true, true, true, true, true, true, true, true, true, true, true, true, true, true, false, false, false, false, false, false, false, false, false, false, false, false, false, false] rfl rfl (any_of HT_.out (by kernel_rfl)) (fun _ _ _ h => h) (Or.inl ⟨by rfl, ?_⟩) ?_ ?_
                     rotate_left
                     ·intro w'
                      go_simp
                      with_reducible rfl
                     rotate_left
                     ·simp only [Act.put, List.setIfInBounds_toArray, List.set_cons_zero, List.set_cons_succ, i64_w, i32_w]
                      rfl
                     refine pure_ (i := 18) (N := some 153) (v := ?_) (a' := ?_) #[true, true, true, true, true, true, true, true, true, true, true, true, true, true, true, false, false, false, true, false, false, false, false, false, false, false, false, false, false] rfl rfl (any_of HT_.out (by kernel_rfl)) (fun _ _ _ h => h) (Or.inl ⟨by rfl, ?_⟩) ?_ ?_
                     rotate_left
                     ·intro w'
                      go_simp
                      with_reducible rfl
                     rotate_left
                     ·simp only [Act.put, List.setIfInBounds_toArray, List.set_cons_zero, List.set_cons_succ, i64_w, i32_w]
                      rfl
                     refine pure_ (i := 19) (N := some 154) (v := ?_) (a' := ?_) #[true, true, true, true, true, true, true, true, true, true, true, true, true, true, true, false, false, false, true, true, false, false, false, false, false, false, false, false, false] rfl rfl (any_of HT_.out (by kernel_rfl)) (fun _ _ _ h => h) (Or.inl ⟨by rfl, ?_⟩) ?_ ?_
                     rotate_left
                     ·intro w'
                      go_simp
                      with_reducible rfl
                     rotate_left
                     ·simp only [Act.put, List.setIfInBounds_toArray, List.set_cons_zero, List.set_cons_succ, i64_w, i32_w]
                      rfl
                     refine pure_ (i := 20) (N := some 155) (v := ?_) (a' := ?_) #[true, true, true, true, true, true, true, true, true, true, true, true, true, true, true, false, false, false, true, true, true, false, false, false, false, false, false, false, false] rfl rfl (any_of HT_.out (by kernel_rfl)) (fun _ _ _ h => h) (Or.inl ⟨by rfl, ?_⟩) ?_ ?_
                     rotate_left
                     ·intro w'
                      go_simp
                      with_reducible rfl
                     rotate_left
                     ·simp only [Act.put, List.setIfInBounds_toArray, List.set_cons_zero, List.set_cons_succ, i64_w, i32_w]
                      rfl
                     refine pure_ (i := 21) (N := some 156) (v := ?_) (a' := ?_) #[true, true, true, true, true, true, true, true, true, true, true, true, true, true, true, false, false, false, true, true, true, true, false, false, false, false, false, false, false] rfl rfl (any_of HT_.out (by kernel_rfl)) (fun _ _ _ h => h) (Or.inl ⟨by rfl, ?_⟩) ?_ ?_
                     rotate_left
                     ·intro w'
                      go_simp
                      with_reducible rfl
                     rotate_left
                     ·simp only [Act.put, List.setIfInBounds_toArray, List.set_cons_zero, List.set_cons_succ, i64_w, i32_w]
                      rfl
                     refine pure_ (i := 22) (N := some 157) (v := ?_) (a' := ?_) #[true, true, true, true, true, true, true, true, true, true, true, true, true, true, true, false, false, false, true, true, true, true, true, false, false, false, false, false, false] rfl rfl (any_of HT_.out (by kernel_rfl)) (fun _ _ _ h => h) (Or.inl ⟨by rfl, ?_⟩) ?_ ?_
                     rotate_left
                     ·intro w'
                      go_simp
                      with_reducible rfl
                     rotate_left
                     ·simp only [Act.put, List.setIfInBounds_toArray, List.set_cons_zero, List.set_cons_succ, i64_w, i32_w]
                      rfl
                     refine take_ (i := 15) (N := some 150) (v := ?_) (a' := ?_) #[true, true, true, true, true, true, true, true, true, true, true, true, true, true, true, true, false, false, true, true, true, true, true, false, false, false, false, false, false] rfl rfl (take_ofW HT_.out HW_.out (by kernel_rfl)) (fun _ _ _ h => h) (Or.inl ⟨by rfl, ?_⟩) hHeld ?_ ?_
                     rotate_left
                     ·rintro w' ⟨s0, s1, s2, s3, s4, s5, s6, s7, s8, s9, s10, s11, s12, s13⟩
                      go_simp
                      with_reducible rfl
                     rotate_left
                     ·simp only [Act.put, List.setIfInBounds_toArray, List.set_cons_zero, List.set_cons_succ, i64_w, i32_w]
                      rfl
                     refine pure_ (i := 16) (N := some 151) (v := ?_) (a' := ?_) #[true, true, true, true, true, true, true, true, true, true, true, true, true, true, true, true, true, false, true, true, true, true, true, false, false, false, false, false, false] rfl rfl (any_of HT_.out (by kernel_rfl)) (fun _ _ _ h => h) (Or.inl ⟨by rfl, ?_⟩) ?_ ?_
                     rotate_left
                     ·intro w'
                      go_simp
                      with_reducible rfl
                     rotate_left
                     ·simp only [Act.put, List.setIfInBounds_toArray, List.set_cons_zero, List.set_cons_succ, i64_w, i32_w]
                      rfl
                     refine take_ (i := 17) (N := some 152) (v := ?_) (a' := ?_) #[true, true, true, true, true, true, true, true, true, true, true, true, true, true, true, true, true, true, true, true, true, true, true, false, false, false, false, false, false] rfl rfl (take_ofW HT_.out HW_.out (by kernel_rfl)) (fun _ _ _ h => h) (Or.inl ⟨by rfl, ?_⟩) hHeld ?_ ?_
                     rotate_left
                     ·rintro w' ⟨s0, s1, s2, s3, s4, s5, s6, s7, s8, s9, s10, s11, s12, s13⟩
                      go_simp
                      with_reducible rfl
                     rotate_left
                     ·simp only [Act.put, List.setIfInBounds_toArray, List.set_cons_zero, List.set_cons_succ, i64_w, i32_w]
                      rfl
                     refine take_ (i := 23) (N := some 158) (v := ?_) (a' := ?_) #[true, true, true, true, true, true, true, true, true, true, true, true, true, true, true, true, true, true, true, true, true, true, true, true, false, false, false, false, false] rfl rfl (take_ofW HT_.out HW_.out (by kernel_rfl)) (fun _ _ _ h => h) (Or.inl ⟨by rfl, ?_⟩) hHeld ?_ ?_
                     rotate_left
                     ·rintro w' ⟨s0, s1, s2, s3, s4, s5, s6, s7, s8, s9, s10, s11, s12, s13⟩
                      go_simp
                      with_reducible rfl
                     rotate_left
                     ·simp only [Act.put, List.setIfInBounds_toArray, List.set_cons_zero, List.set_cons_succ, i64_w, i32_w]
                      rfl
                     refine pure_ (i := 24) (N := some 159) (v := ?_) (a' := ?_) #[true, true, true, true, true, true, true, true, true, true, true, true, true, true, true, true, true, true, true, true, true, true, true, true, true, false, false, false, false] rfl rfl (any_of HT_.out (by kernel_rfl)) (fun _ _ _ h => h) (Or.inl ⟨by rfl, ?_⟩) ?_ ?_
                     rotate_left
                     ·intro w'
                      go_simp
                      with_reducible rfl
                     rotate_left
                     ·simp only [Act.put, List.setIfInBounds_toArray, List.set_cons_zero, List.set_cons_succ, i64_w, i32_w]
                      rfl
                     refine take_ (i := 25) (N := some 160) (v := ?_) (a' := ?_) #[true, true, true, true, true, true, true, true, true, true, true, true, true, true, true, true, true, true, true, true, true, true, true, true, true, true, false, false, false] rfl rfl (take_ofW HT_.out HW_.out (by kernel_rfl)) (fun _ _ _ h => h) (Or.inl ⟨by rfl, ?_⟩) hHeld ?_ ?_
                     rotate_left
                     ·rintro w' ⟨s0, s1, s2, s3, s4, s5, s6, s7, s8, s9, s10, s11, s12, s13⟩
                      go_simp
                      with_reducible rfl
                     rotate_left
                     ·simp only [Act.put, List.setIfInBounds_toArray, List.set_cons_zero, List.set_cons_succ, i64_w, i32_w]
                      rfl
                     refine pure_ (i := 26) (N := some 161) (v := ?_) (a' := ?_) #[true, true, true, true, true, true, true, true, true, true, true, true, true, true, true, true, true, true, true, true, true, true, true, true, true, true, true, false, false] rfl rfl (any_of HT_.out (by kernel_rfl)) (fun _ _ _ h => h) (Or.inl ⟨by rfl, ?_⟩) ?_ ?_
                     rotate_left
                     ·intro w'
                      go_simp
                      with_reducible rfl
                     rotate_left
                     ·simp only [Act.put, List.setIfInBounds_toArray, List.set_cons_zero, List.set_cons_succ, i64_w, i32_w]
                      rfl
                     refine pure_ (i := 27) (N := some 162) (v := ?_) (a' := ?_) #[true, true, true, true, true, true, true, true, true, true, true, true, true, true, true, true, true, true, true, true, true, true, true, true, true, true, true, true, false] rfl rfl (any_of HT_.out (by kernel_rfl)) (fun _ _ _ h => h) (Or.inl ⟨by rfl, ?_⟩) ?_ ?_
                     rotate_left
                     ·intro w'
                      go_simp
                      with_reducible rfl
                     rotate_left
                     ·simp only [Act.put, List.setIfInBounds_toArray, List.set_cons_zero, List.set_cons_succ, i64_w, i32_w]
                      rfl
                     refine pure_ (i := 28) (N := some 163) (v := ?_) (a' := ?_) #[true, true, true, true, true, true, true, true, true, true, true, true, true, true, true, true, true, true, true, true, true, true, true, true, true, true, true, true, true] rfl rfl (any_of HT_.out (by kernel_rfl)) (fun _ _ _ h => h) (Or.inl ⟨by rfl, ?_⟩) ?_ ?_
                     rotate_left
                     ·intro w'
                      go_simp
                      with_reducible rfl
                     rotate_left
                     ·simp only [Act.put, List.setIfInBounds_toArray, List.set_cons_zero, List.set_cons_succ, i64_w, i32_w]
                      rfl
                     refine done_ (done_of HT_.out (by kernel_rfl)) ?_
                     try go_wp2
                     go_roundg k2
                     case measure => have := HK1.out; have := HK2.out; omega
                     case rel => exact ⟨(x12_2), (wrap64 (x13_1 + 1)), (by first | rfl | (simp; done) | (simp [*]; done)), H', ⟨by have := HK1.out; have := HK2.out; omega⟩, ⟨mvR HO_5⟩, ⟨by (with_reducible repeat (first | apply Kd.S_alloc | apply Kd.S_drewN | apply Kd.S_drew)); exact HO_9.out⟩, ⟨mvR HO_11⟩, ⟨mvR HO_12⟩, ⟨mvB HB⟩⟩
                   ·rw [if_neg c69] at H
                    exact absurd H (by simp)
                  ·rw [if_neg c68] at H
                   exact absurd H (by simp)
                 ·rw [if_neg c67] at H
                  exact absurd H (by simp)
                ·rw [if_neg c65] at H
                 exact absurd H (by simp)
               ·rw [if_neg c64] at H
                have c64b0 : decide (0 < x13_1) = false := decide_eq_false c64
                clear c64
                have H' := Aside0.mk H
                clear H
                have p285 := dT (0 ≤ (x13_1 : Int))
                have q285 := dT (x13_1 < (t275.length : Int))
                obtain ⟨ad285, A285_0, c285_0, e285, hx285_0, hx285_1, hx285_2, hx285_3, hl285_0, hi285_0⟩ := at_T36 (Kd.S_reads' HO_9.out).2.2 x13_1 p285 q285
                cases e285
                obtain ⟨ce285, hce285, hMe285, hcc285⟩ := Kd.S_get HO_9.out z36 x13_1 p285 (by first | exact q285 | exact of_decide_eq_true (by first | (with_reducible assumption) | assumption) | (have e_ := (Kd.S_reads' HO_9.out).1; omega))
                obtain ⟨ve285_0, rfl, ge285_0⟩ := k36_openM hMe285
                have hv285_0 := hcc285 0 _ rfl
                rw [Nat.add_zero] at hv285_0
                replace hv285_0 := Option.some.inj (hv285_0.symm.trans hx285_0)
                rw [hv285_0] at ge285_0
                have HL285_0 := Aside0.mk (show Kd.R (Kd.int .i64) 3 _ _ _ _ ((rd_T36 t275 x13_1).f0) from ge285_0)
                clear hv285_0 ge285_0
                clear hcc285 hce285
                have HR285_0 := Aside0.mk hi285_0
                have HC285_0 := Aside0.mk hl285_0
                clear hi285_0 hl285_0
                replace p285 := eq_true p285
                replace q285 := eq_true q285
                try go_wp2
                have n0_ := Aside0.mk (Kd.R_drew HO_5.out)
                have n1_ := Aside0.mk (Kd.S_drew HO_9.out)
                have n2_ := Aside0.mk (Kd.R_drew HO_11.out)
                have n3_ := Aside0.mk (Kd.R_drew HO_12.out)
                have n4_ := Aside0.mk (Kd.R_drew HL285_0.out)
                have n5_ := Aside0.mk (Kd.C_drew HR285_0.out)
                have n6_ := Aside0.mk (below_drew1 HB.out)
                clear HO_5
                clear HO_9
                clear HO_11
                clear HO_12
                clear HL285_0
                clear HR285_0
                clear HB
                have HO_5 := n0_
                have HO_9 := n1_
                have HO_11 := n2_
                have HO_12 := n3_
                have HL285_0 := n4_
                have HR285_0 := n5_
                have HB := n6_
                clear n0_ n1_ n2_ n3_ n4_ n5_ n6_
                have p286 := dT (0 ≤ (x13_1 : Int))
                have q286 := dT (x13_1 < (t275.length : Int))
                obtain ⟨ad286, A286_0, c286_0, e286, hx286_0, hx286_1, hx286_2, hx286_3, hl286_0, hi286_0⟩ := at_T36 (Kd.S_reads' HO_9.out).2.2 x13_1 p286 q286
                obtain rfl : ad285 = ad286 := (by injection e286)
                obtain ⟨ce286, hce286, hMe286, hcc286⟩ := Kd.S_get HO_9.out z36 x13_1 p286 (by first | exact q286 | exact of_decide_eq_true (by first | (with_reducible assumption) | assumption) | (have e_ := (Kd.S_reads' HO_9.out).1; omega))
                obtain ⟨ve286_0, rfl, ge286_0⟩ := k36_openM hMe286
                have hv286_0 := hcc286 0 _ rfl
                rw [Nat.add_zero] at hv286_0
                replace hv286_0 := Option.some.inj (hv286_0.symm.trans hx286_0)
                rw [hv286_0] at ge286_0
                have HL286_0 := Aside0.mk (show Kd.R (Kd.int .i64) 3 _ _ _ _ ((rd_T36 t275 x13_1).f0) from ge286_0)
                clear hv286_0 ge286_0
                clear hcc286 hce286
                have HR286_0 := Aside0.mk hi286_0
                have HC286_0 := Aside0.mk hl286_0
                clear hi286_0 hl286_0
                replace p286 := eq_true p286
                replace q286 := eq_true q286
                refine start_ (n := 29) (S := fun w' => w'.cell? (ad285.add ((x13_1).toNat * 4)) = some (.slice A286_0 ((rd_T36 t275 x13_1).f0).length c286_0) ∧ w'.cell? ⟨(ad285.add ((x13_1).toNat * 4)).block, (ad285.add ((x13_1).toNat * 4)).off + 1, none⟩ = some (.int .u8 ((rd_T36 t275 x13_1).f1)) ∧ w'.cell? ⟨(ad285.add ((x13_1).toNat * 4)).block, (ad285.add ((x13_1).toNat * 4)).off + 2, none⟩ = some (.int .u8 ((rd_T36 t275 x13_1).f2)) ∧ w'.cell? ⟨(ad285.add ((x13_1).toNat * 4)).block, (ad285.add ((x13_1).toNat * 4)).off + 3, none⟩ = some (.int .u8 ((rd_T36 t275 x13_1).f3))) (ds := []) #[false, false, false, false, false, false, false, false, false, false, false, false, false, false, false, false, false, false, false, false, false, false, false, false, false, false, false, false, false] (by kernel_rfl) rfl rfl ⟨hx286_0, hx286_1, hx286_2, hx286_3⟩ (fun hHeld => ?_); refine with_tabW selvedgelaw15_RunsOnce.tab28 selvedgelaw15_RunsOnce.bits28 (fun HT_ HW_ => ?_)
                generalize wr.drew = w73 at HO_5 HO_9 HO_11 HO_12 HL285_0 HR285_0 HB HL286_0 HR286_0 hx286_0 hx286_1 hx286_2 hx286_3 hHeld ⊢
                refine pure_ (i := 0) (N := some 135) (v := ?_) (a' := ?_) #[true, false, false, false, false, false, false, false, false, false, false, false, false, false, false, false, false, false, false, false, false, false, false, false, false, false, false, false, false] rfl rfl (any_of HT_.out (by kernel_rfl)) (fun _ _ _ h => h) (Or.inl ⟨by rfl, ?_⟩) ?_ ?_
                rotate_left
                ·intro w'
                 go_simp
                 with_reducible rfl
                rotate_left
                ·simp only [Act.put, List.setIfInBounds_toArray, List.set_cons_zero, List.set_cons_succ, i64_w, i32_w]
                 rfl
                refine pure_ (i := 1) (N := some 136) (v := ?_) (a' := ?_) #[true, true, false, false, false, false, false, false, false, false, false, false, false, false, false, false, false, false, false, false, false, false, false, false, false, false, false, false, false] rfl rfl (any_of HT_.out (by kernel_rfl)) (fun _ _ _ h => h) (Or.inl ⟨by rfl, ?_⟩) ?_ ?_
                rotate_left
                ·intro w'
                 go_simp
                 with_reducible rfl
                rotate_left
                ·simp only [Act.put, List.setIfInBounds_toArray, List.set_cons_zero, List.set_cons_succ, i64_w, i32_w]
                 rfl
                refine pure_ (i := 2) (N := some 137) (v := ?_) (a' := ?_) #[true, true, true, false, false, false, false, false, false, false, false, false, false, false, false, false, false, false, false, false, false, false, false, false, false, false, false, false, false] rfl rfl (any_of HT_.out (by kernel_rfl)) (fun _ _ _ h => h) (Or.inl ⟨by rfl, ?_⟩) ?_ ?_
                rotate_left
                ·intro w'
                 go_simp
                 with_reducible rfl
                rotate_left
                ·simp only [Act.put, List.setIfInBounds_toArray, List.set_cons_zero, List.set_cons_succ, i64_w, i32_w]
                 rfl
                refine pure_ (i := 3) (N := some 138) (v := ?_) (a' := ?_) #[true, true, true, true, false, false, false, false, false, false, false, false, false, false, false, false, false, false, false, false, false, false, false, false, false, false, false, false, false] rfl rfl (any_of HT_.out (by kernel_rfl)) (fun _ _ _ h => h) (Or.inl ⟨by rfl, ?_⟩) ?_ ?_
                rotate_left
                ·intro w'
                 go_simp
                 with_reducible rfl
                rotate_left
                ·simp only [Act.put, List.setIfInBounds_toArray, List.set_cons_zero, List.set_cons_succ, i64_w, i32_w]
                 rfl
                refine take_ (i := 4) (N := some 139) (v := ?_) (a' := ?_) #[true, true, true, true, true, false, false, false, false, false, false, false, false, false, false, false, false, false, false, false, false, false, false, false, false, false, false, false, false] rfl rfl (take_ofW HT_.out HW_.out (by kernel_rfl)) (fun _ _ _ h => h) (Or.inl ⟨by rfl, ?_⟩) hHeld ?_ ?_
                rotate_left
                ·rintro w' ⟨s0, s1, s2, s3⟩
                 go_simp
                 with_reducible rfl
                rotate_left
                ·simp only [Act.put, List.setIfInBounds_toArray, List.set_cons_zero, List.set_cons_succ, i64_w, i32_w]
                 rfl
                refine pure_ (i := 5) (N := some 140) (v := ?_) (a' := ?_) #[true, true, true, true, true, true, false, false, false, false, false, false, false, false, false, false, false, false, false, false, false, false, false, false, false, false, false, false, false] rfl rfl (any_of HT_.out (by kernel_rfl)) (fun _ _ _ h => h) (Or.inl ⟨by rfl, ?_⟩) ?_ ?_
                rotate_left
                ·intro w'
                 go_simp
                 with_reducible rfl
                rotate_left
                ·simp only [Act.put, List.setIfInBounds_toArray, List.set_cons_zero, List.set_cons_succ, i64_w, i32_w]
                 rfl
                refine pure_ (i := 6) (N := some 141) (v := ?_) (a' := ?_) #[true, true, true, true, true, true, true, false, false, false, false, false, false, false, false, false, false, false, false, false, false, false, false, false, false, false, false, false, false] rfl rfl (any_of HT_.out (by kernel_rfl)) (fun _ _ _ h => h) (Or.inl ⟨by rfl, ?_⟩) ?_ ?_
                rotate_left
                ·intro w'
                 go_simp
                 with_reducible rfl
                rotate_left
                ·simp only [Act.put, List.setIfInBounds_toArray, List.set_cons_zero, List.set_cons_succ, i64_w, i32_w]
                 rfl
                refine pure_ (i := 7) (N := some 142) (v := ?_) (a' := ?_) #[true, true, true, true, true, true, true, true, false, false, false, false, false, false, false, false, false, false, false, false, false, false, false, false, false, false, false, false, false] rfl rfl (any_of HT_.out (by kernel_rfl)) (fun _ _ _ h => h) (Or.inl ⟨by rfl, ?_⟩) ?_ ?_
                rotate_left
                ·intro w'
                 go_simp
                 with_reducible rfl
                rotate_left
                ·simp only [Act.put, List.setIfInBounds_toArray, List.set_cons_zero, List.set_cons_succ, i64_w, i32_w]
                 rfl
                refine pure_ (i := 8) (N := some 143) (v := ?_) (a' := ?_) #[true, true, true, true, true, true, true, true, true, false, false, false, false, false, false, false, false, false, false, false, false, false, false, false, false, false, false, false, false] rfl rfl (any_of HT_.out (by kernel_rfl)) (fun _ _ _ h => h) (Or.inl ⟨by rfl, ?_⟩) ?_ ?_
                rotate_left
                ·intro w'
                 go_simp
                 with_reducible rfl
                rotate_left
                ·simp only [Act.put, List.setIfInBounds_toArray, List.set_cons_zero, List.set_cons_succ, i64_w, i32_w]
                 rfl
                refine pure_ (i := 9) (N := some 144) (v := ?_) (a' := ?_) #[true, true, true, true, true, true, true, true, true, true, false, false, false, false, false, false, false, false, false, false, false, false, false, false, false, false, false, false, false] rfl rfl (any_of HT_.out (by kernel_rfl)) (fun _ _ _ h => h) (Or.inl ⟨by rfl, ?_⟩) ?_ ?_
                rotate_left
                ·intro w'
                 go_simp
                 with_reducible rfl
                rotate_left
                ·simp only [Act.put, List.setIfInBounds_toArray, List.set_cons_zero, List.set_cons_succ, i64_w, i32_w]
                 rfl
                refine pure_ (i := 10) (N := some 145) (v := ?_) (a' := ?_) #[true, true, true, true, true, true, true, true, true, true, true, false, false, false, false, false, false, false, false, false, false, false, false, false, false, false, false, false, false] rfl rfl (any_of HT_.out (by kernel_rfl)) (fun _ _ _ h => h) (Or.inl ⟨by rfl, ?_⟩) ?_ ?_
                rotate_left
                ·intro w'
                 go_simp
                 with_reducible rfl
                rotate_left
                ·simp only [Act.put, List.setIfInBounds_toArray, List.set_cons_zero, List.set_cons_succ, i64_w, i32_w]
                 rfl
                refine pure_ (i := 11) (N := some 146) (v := undef) (a' := ?_) #[true, true, true, true, true, true, true, true, true, true, true, true, false, false, false, false, false, false, false, false, false, false, false, false, false, false, false, false, false] rfl rfl (any_of HT_.out (by kernel_rfl)) (fun _ _ _ h => h) (Or.inr ⟨by rfl, rfl⟩) ?_ ?_
                rotate_left
                ·simp only [Act.put, List.setIfInBounds_toArray, List.set_cons_zero, List.set_cons_succ, i64_w, i32_w]
                 rfl
                refine pure_ (i := 12) (N := some 147) (v := undef) (a' := ?_) #[true, true, true, true, true, true, true, true, true, true, true, true, true, false, false, false, false, false, false, false, false, false, false, false, false, false, false, false, false] rfl rfl (any_of HT_.out (by kernel_rfl)) (fun _ _ _ h => h) (Or.inr ⟨by rfl, rfl⟩) ?_ ?_
                rotate_left
                ·simp only [Act.put, List.setIfInBounds_toArray, List.set_cons_zero, List.set_cons_succ, i64_w, i32_w]
                 rfl
                refine pure_ (i := 13) (N := some 148) (v := undef) (a' := ?_) #[true, true, true, true, true, true, true, true, true, true, true, true, true, true, false, false, false, false, false, false, false, false, false, false, false, false, false, false, false] rfl rfl (any_of HT_.out (by kernel_rfl)) (fun _ _ _ h => h) (Or.inr ⟨by rfl, rfl⟩) ?_ ?_
                rotate_left
                ·simp only [Act.put, List.setIfInBounds_toArray, List.set_cons_zero, List.set_cons_succ, i64_w, i32_w]
                 rfl
                refine pure_ (i := 14) (N := some 149) (v := undef) (a' := ?_) #[true, true, true, true, true, true, true, true, true, true, true, true, true, true, true, false, false, false, false, false, false, false, false, false, false, false, false, false, false] rfl rfl (any_of HT_.out (by kernel_rfl)) (fun _ _ _ h => h) (Or.inr ⟨by rfl, rfl⟩) ?_ ?_
                rotate_left
                ·simp only [Act.put, List.setIfInBounds_toArray, List.set_cons_zero, List.set_cons_succ, i64_w, i32_w]
                 rfl
                refine pure_ (i := 15) (N := some 150) (v := undef) (a' := ?_) #[true, true, true, true, true, true, true, true, true, true, true, true, true, true, true, true, false, false, false, false, false, false, false, false, false, false, false, false, false] rfl rfl (any_of HT_.out (by kernel_rfl)) (fun _ _ _ h => h) (Or.inr ⟨by rfl, rfl⟩) ?_ ?_
                rotate_left
                ·simp only [Act.put, List.setIfInBounds_toArray, List.set_cons_zero, List.set_cons_succ, i64_w, i32_w]
                 rfl
                refine pure_ (i := 16) (N := some 151) (v := undef) (a' := ?_) #[true, true, true, true, true, true, true, true, true, true, true, true, true, true, true, true, true, false, false, false, false, false, false, false, false, false, false, false, false] rfl rfl (any_of HT_.out (by kernel_rfl)) (fun _ _ _ h => h) (Or.inr ⟨by rfl, rfl⟩) ?_ ?_
                rotate_left
                ·simp only [Act.put, List.setIfInBounds_toArray, List.set_cons_zero, List.set_cons_succ, i64_w, i32_w]
                 rfl
                refine pure_ (i := 17) (N := some 152) (v := undef) (a' := ?_) #[true, true, true, true, true, true, true, true, true, true, true, true, true, true, true, true, true, true, false, false, false, false, false, false, false, false, false, false, false] rfl rfl (any_of HT_.out (by kernel_rfl)) (fun _ _ _ h => h) (Or.inr ⟨by rfl, rfl⟩) ?_ ?_
                rotate_left
                ·simp only [Act.put, List.setIfInBounds_toArray, List.set_cons_zero, List.set_cons_succ, i64_w, i32_w]
                 rfl
                refine pure_ (i := 18) (N := some 153) (v := undef) (a' := ?_) #[true, true, true, true, true, true, true, true, true, true, true, true, true, true, true, true, true, true, true, false, false, false, false, false, false, false, false, false, false] rfl rfl (any_of HT_.out (by kernel_rfl)) (fun _ _ _ h => h) (Or.inr ⟨by rfl, rfl⟩) ?_ ?_
                rotate_left
                ·simp only [Act.put, List.setIfInBounds_toArray, List.set_cons_zero, List.set_cons_succ, i64_w, i32_w]
                 rfl
                refine pure_ (i := 19) (N := some 154) (v := undef) (a' := ?_) #[true, true, true, true, true, true, true, true, true, true, true, true, true, true, true, true, true, true, true, true, false, false, false, false, false, false, false, false, false] rfl rfl (any_of HT_.out (by kernel_rfl)) (fun _ _ _ h => h) (Or.inr ⟨by rfl, rfl⟩) ?_ ?_
                rotate_left
                ·simp only [Act.put, List.setIfInBounds_toArray, List.set_cons_zero, List.set_cons_succ, i64_w, i32_w]
                 rfl
                refine pure_ (i := 20) (N := some 155) (v := undef) (a' := ?_) #[true, true, true, true, true, true, true, true, true, true, true, true, true, true, true, true, true, true, true, true, true, false, false, false, false, false, false, false, false] rfl rfl (any_of HT_.out (by kernel_rfl)) (fun _ _ _ h => h) (Or.inr ⟨by rfl, rfl⟩) ?_ ?_
                rotate_left
                ·simp only [Act.put, List.setIfInBounds_toArray, List.set_cons_zero, List.set_cons_succ, i64_w, i32_w]
                 rfl
                refine pure_ (i := 21) (N := some 156) (v := undef) (a' := ?_) #[true, true, true, true, true, true, true, true, true, true, true, true, true, true, true, true, true, true, true, true, true, true, false, false, false, false, false, false, false] rfl rfl (any_of HT_.out (by kernel_rfl)) (fun _ _ _ h => h) (Or.inr ⟨by rfl, rfl⟩) ?_ ?_
                rotate_left
                ·simp only [Act.put, List.setIfInBounds_toArray, List.set_cons_zero, List.set_cons_succ, i64_w, i32_w]
                 rfl
                refine pure_ (i := 22) (N := some 157) (v := undef) (a' := ?_) #[true, true, true, true, true, true, true, true, true, true, true, true, true, true, true, true, true, true, true, true, true, true, true, false, false, false, false, false, false] rfl rfl (any_of HT_.out (by kernel_rfl)) (fun _ _ _ h => h) (Or.inr ⟨by rfl, rfl⟩) ?_ ?_
                rotate_left
                ·simp only [Act.put, List.setIfInBounds_toArray, List.set_cons_zero, List.set_cons_succ, i64_w, i32_w]
                 rfl
                refine pure_ (i := 23) (N := some 158) (v := undef) (a' := ?_) #[true, true, true, true, true, true, true, true, true, true, true, true, true, true, true, true, true, true, true, true, true, true, true, true, false, false, false, false, false] rfl rfl (any_of HT_.out (by kernel_rfl)) (fun _ _ _ h => h) (Or.inr ⟨by rfl, rfl⟩) ?_ ?_
                rotate_left
                ·simp only [Act.put, List.setIfInBounds_toArray, List.set_cons_zero, List.set_cons_succ, i64_w, i32_w]
                 rfl
                refine pure_ (i := 24) (N := some 159) (v := undef) (a' := ?_) #[true, true, true, true, true, true, true, true, true, true, true, true, true, true, true, true, true, true, true, true, true, true, true, true, true, false, false, false, false] rfl rfl (any_of HT_.out (by kernel_rfl)) (fun _ _ _ h => h) (Or.inr ⟨by rfl, rfl⟩) ?_ ?_
                rotate_left
                ·simp only [Act.put, List.setIfInBounds_toArray, List.set_cons_zero, List.set_cons_succ, i64_w, i32_w]
                 rfl
                refine pure_ (i := 25) (N := some 160) (v := undef) (a' := ?_) #[true, true, true, true, true, true, true, true, true, true, true, true, true, true, true, true, true, true, true, true, true, true, true, true, true, true, false, false, false] rfl rfl (any_of HT_.out (by kernel_rfl)) (fun _ _ _ h => h) (Or.inr ⟨by rfl, rfl⟩) ?_ ?_
                rotate_left
                ·simp only [Act.put, List.setIfInBounds_toArray, List.set_cons_zero, List.set_cons_succ, i64_w, i32_w]
                 rfl
                refine pure_ (i := 26) (N := some 161) (v := undef) (a' := ?_) #[true, true, true, true, true, true, true, true, true, true, true, true, true, true, true, true, true, true, true, true, true, true, true, true, true, true, true, false, false] rfl rfl (any_of HT_.out (by kernel_rfl)) (fun _ _ _ h => h) (Or.inr ⟨by rfl, rfl⟩) ?_ ?_
                rotate_left
                ·simp only [Act.put, List.setIfInBounds_toArray, List.set_cons_zero, List.set_cons_succ, i64_w, i32_w]
                 rfl
                refine pure_ (i := 27) (N := some 162) (v := ?_) (a' := ?_) #[true, true, true, true, true, true, true, true, true, true, true, true, true, true, true, true, true, true, true, true, true, true, true, true, true, true, true, true, false] rfl rfl (any_of HT_.out (by kernel_rfl)) (fun _ _ _ h => h) (Or.inl ⟨by rfl, ?_⟩) ?_ ?_
                rotate_left
                ·intro w'
                 go_simp
                 with_reducible rfl
                rotate_left
                ·simp only [Act.put, List.setIfInBounds_toArray, List.set_cons_zero, List.set_cons_succ, i64_w, i32_w]
                 rfl
                refine pure_ (i := 28) (N := some 163) (v := ?_) (a' := ?_) #[true, true, true, true, true, true, true, true, true, true, true, true, true, true, true, true, true, true, true, true, true, true, true, true, true, true, true, true, true] rfl rfl (any_of HT_.out (by kernel_rfl)) (fun _ _ _ h => h) (Or.inl ⟨by rfl, ?_⟩) ?_ ?_
                rotate_left
                ·intro w'
                 go_simp
                 with_reducible rfl
                rotate_left
                ·simp only [Act.put, List.setIfInBounds_toArray, List.set_cons_zero, List.set_cons_succ, i64_w, i32_w]
                 rfl
                refine done_ (done_of HT_.out (by kernel_rfl)) ?_
                try go_wp2
                go_roundg k2
                case measure => have := HK1.out; have := HK2.out; omega
                case rel => exact ⟨(x12_2), (wrap64 (x13_1 + 1)), (by first | rfl | (simp; done) | (simp [*]; done)), H', ⟨by have := HK1.out; have := HK2.out; omega⟩, ⟨mvR HO_5⟩, ⟨by (with_reducible repeat (first | apply Kd.S_alloc | apply Kd.S_drewN | apply Kd.S_drew)); exact HO_9.out⟩, ⟨mvR HO_11⟩, ⟨mvR HO_12⟩, ⟨mvB HB⟩⟩
            ·rw [if_neg c22] at H
             exact absurd H (by simp)
           ·rw [if_neg c21] at H
            exact absurd H (by simp)
        ·rw [if_neg c19] at H
         have c19b0 : decide (x13_1 < (t275.length : Int)) = false := decide_eq_false c19
         clear c19
         have H' := Aside0.mk H
         clear H
         obtain ⟨Ao74, co74, eo74⟩ := Kd.S_slice HO_9.out
         subst eo74
         go_wp2
         go_loopg [18] k1 (fun kq v18 w' => ∃ (x18_2 : Int), v18 = .int .i64 x18_2 ∧ Aside0 (selvedgelaw15_RunsOnce.l3 kq l0 x12_1 x18_2 = some r) ∧ Aside0 (kq ≤ k1) ∧ Aside0 (Kd.R Kd.bool 4 w' w.heap.size (fun _ => True) v283 x12_1) ∧ Aside0 (Below w.heap.size w w'))
         case atStart => exact ⟨(0), (by first | rfl | (simp; done) | (simp [*]; done)), H', ⟨Nat.le_refl _⟩, ⟨mvR HO_12⟩, ⟨mvB HB⟩⟩
         case round =>
          clear H'
          try clear c1
          try clear c2
          try clear p2
          try clear q2
          try clear hx2
          try clear qi2
          try clear c6
          try clear p6
          try clear c19
          try clear c19b0
          try clear c21
          try clear c22
          try clear c28
          try clear p28
          try clear q28
          try clear hx28
          try clear qi28
          try clear p29
          try clear q29
          try clear hx29
          try clear qi29
          try clear c64
          try clear c64b0
          try clear p64
          try clear c65
          try clear c67
          try clear c68
          try clear c69
          try clear hx285_0
          try clear hx285_1
          try clear hx285_2
          try clear hx285_3
          try clear hx286_0
          try clear hx286_1
          try clear hx286_2
          try clear hx286_3
          try clear hx287_0
          try clear hx287_1
          try clear hx287_2
          try clear hx287_3
          try clear hx288_0
          try clear hx289_0
          try clear hx289_1
          try clear hx289_2
          try clear hx289_3
          try clear hx290_0
          try clear p285
          try clear p286
          try clear p287
          try clear p288
          try clear p289
          try clear p290
          try clear q285
          try clear q286
          try clear q287
          try clear q288
          try clear q289
          try clear q290
          obtain ⟨x18_2, rfl, HA, HK2, HO_12, HB⟩ := hrel
          cases gk with
          | zero => exact absurd HA.out (by simp [selvedgelaw15_RunsOnce.l3])
          | succ k2 =>
           have H := HA.out
           clear HA
           simp only [selvedgelaw15_RunsOnce.l3] at H
           by_cases c75 : x18_2 < (l0.length : Int)
           ·rw [if_pos c75] at H
            have c75b0 : decide (x18_2 < (l0.length : Int)) = true := decide_eq_true c75
            clear c75
            by_cases c76 : 0 ≤ x18_2
            ·rw [if_pos c76] at H
             have c76b0 : decide (0 ≤ x18_2) = true := decide_eq_true c76
             clear c76
             by_cases c77 : x18_2 < (x12_1.length : Int)
             ·rw [if_pos c77] at H
              have c77b0 : decide (x18_2 < (x12_1.length : Int)) = true := decide_eq_true c77
              clear c77
              replace H := Option.bind_eq_some_iff.mp H
              obtain ⟨t304, A780, H⟩ := H
              replace H : (if ((rdOf false x12_1 x18_2) == t304) = true then (none) else (selvedgelaw15_RunsOnce.l3 k2 l0 x12_1 (wrap64 (x18_2 + 1)))) = some r := H
              have A78 := Aside0.mk A780
              clear A780
              by_cases c79 : ((rdOf false x12_1 x18_2) == t304) = true
              ·rw [if_pos c79] at H
               exact absurd H (by simp)
              ·rw [if_neg c79] at H
               have c79b0 : ((rdOf false x12_1 x18_2) == t304) = false := by simpa using c79
               (try (have c79b1 : decide ((rdOf false x12_1 x18_2) = t304) = false := by simpa using c79))
               (try (have c79b2 : ((rdOf false x12_1 x18_2) == t304) = false := by simpa using c79))
               (try (have c79b3 : ¬ ((rdOf false x12_1 x18_2) = t304) := by simpa using c79))
               clear c79
               have H' := Aside0.mk H
               clear H
               try go_wp2
               have n0_ := Aside0.mk (Kd.R_drew HO_12.out)
               have n1_ := Aside0.mk (below_drew1 HB.out)
               clear HO_12
               clear HB
               have HO_12 := n0_
               have HB := n1_
               clear n0_ n1_
               obtain ⟨Ao83, co83, eo83⟩ := Kd.R_slice HO_12.out
               (first | subst eo83 | (injection eo83 with f1_ f2_ f3_; have f4_ := f1_.symm; have f5_ := f3_.symm; clear f1_ f2_ f3_; subst f4_; subst f5_))
               have p302 := dT (0 ≤ (x18_2 : Int))
               have q302 := dT (x18_2 < (x12_1.length : Int))
               obtain ⟨ad302, e302, hx302_0⟩ := Kd.at_bool (Kd.R_reads' HO_12.out).2.2 x18_2 p302 q302
               cases e302
               replace p302 := eq_true p302
               replace q302 := eq_true q302
               have p303 := dT (0 ≤ (x18_2 : Int))
               have q303 := dT (x18_2 < (l0.length : Int))
               obtain ⟨ad303, e303, hx303_0⟩ := Kd.at_int HR0.out x18_2 p303 q303
               have hw303_0 := hx303_0
               cases e303
               replace hx303_0 := (HB.out.cell (World.block_lt_of_cell? w _ hx303_0)).trans hx303_0
               replace p303 := eq_true p303
               replace q303 := eq_true q303
               refine start_ (n := 10) (S := fun w' => w'.cell? (ad302.add (x18_2).toNat) = some (.bool (rdOf false x12_1 x18_2)) ∧ w'.cell? (ad303.add (x18_2).toNat) = some (.int .u8 (rd l0 x18_2))) (ds := []) #[false, false, false, false, false, false, false, false, false, false] (by kernel_rfl) rfl rfl ⟨hx302_0, ((HB.out.cell (World.block_lt_of_cell? w _ hw303_0)).trans hw303_0)⟩ (fun hHeld => ?_); refine with_tabW selvedgelaw15_RunsOnce.tab33 selvedgelaw15_RunsOnce.bits33 (fun HT_ HW_ => ?_)
               generalize wr.drew = w82 at HO_12 HB hx302_0 hx303_0 hHeld ⊢
               refine pure_ (i := 0) (N := some 170) (v := ?_) (a' := ?_) #[true, false, false, false, false, false, false, false, false, false] rfl rfl (any_of HT_.out (by kernel_rfl)) (fun _ _ _ h => h) (Or.inl ⟨by rfl, ?_⟩) ?_ ?_
               rotate_left
               ·intro w'
                go_simp
                with_reducible rfl
               rotate_left
               ·simp only [Act.put, List.setIfInBounds_toArray, List.set_cons_zero, List.set_cons_succ, i64_w, i32_w]
                rfl
               refine pure_ (i := 1) (N := some 171) (v := ?_) (a' := ?_) #[true, true, false, false, false, false, false, false, false, false] rfl rfl (any_of HT_.out (by kernel_rfl)) (fun _ _ _ h => h) (Or.inl ⟨by rfl, ?_⟩) ?_ ?_
               rotate_left
               ·intro w'
                go_simp
                with_reducible rfl
               rotate_left
               ·simp only [Act.put, List.setIfInBounds_toArray, List.set_cons_zero, List.set_cons_succ, i64_w, i32_w]
                rfl
               refine pure_ (i := 2) (N := some 172) (v := ?_) (a' := ?_) #[true, true, true, false, false, false, false, false, false, false] rfl rfl (any_of HT_.out (by kernel_rfl)) (fun _ _ _ h => h) (Or.inl ⟨by rfl, ?_⟩) ?_ ?_
               rotate_left
               ·intro w'
                go_simp
                with_reducible rfl
               rotate_left
               ·simp only [Act.put, List.setIfInBounds_toArray, List.set_cons_zero, List.set_cons_succ, i64_w, i32_w]
                rfl
               refine pure_ (i := 4) (N := some 174) (v := ?_) (a' := ?_) #[true, true, true, false, true, false, false, false, false, false] rfl rfl (any_of HT_.out (by kernel_rfl)) (fun _ _ _ h => h) (Or.inl ⟨by rfl, ?_⟩) ?_ ?_
               rotate_left
               ·intro w'
                go_simp
                with_reducible rfl
               rotate_left
               ·simp only [Act.put, List.setIfInBounds_toArray, List.set_cons_zero, List.set_cons_succ, i64_w, i32_w]
                rfl
               refine pure_ (i := 5) (N := some 175) (v := ?_) (a' := ?_) #[true, true, true, false, true, true, false, false, false, false] rfl rfl (any_of HT_.out (by kernel_rfl)) (fun _ _ _ h => h) (Or.inl ⟨by rfl, ?_⟩) ?_ ?_
               rotate_left
               ·intro w'
                go_simp
                with_reducible rfl
               rotate_left
               ·simp only [Act.put, List.setIfInBounds_toArray, List.set_cons_zero, List.set_cons_succ, i64_w, i32_w]
                rfl
               refine pure_ (i := 6) (N := some 176) (v := ?_) (a' := ?_) #[true, true, true, false, true, true, true, false, false, false] rfl rfl (any_of HT_.out (by kernel_rfl)) (fun _ _ _ h => h) (Or.inl ⟨by rfl, ?_⟩) ?_ ?_
               rotate_left
               ·intro w'
                go_simp
                with_reducible rfl
               rotate_left
               ·simp only [Act.put, List.setIfInBounds_toArray, List.set_cons_zero, List.set_cons_succ, i64_w, i32_w]
                rfl
               refine take_ (i := 3) (N := some 173) (v := ?_) (a' := ?_) #[true, true, true, true, true, true, true, false, false, false] rfl rfl (take_ofW HT_.out HW_.out (by kernel_rfl)) (fun _ _ _ h => h) (Or.inl ⟨by rfl, ?_⟩) hHeld ?_ ?_
               rotate_left
               ·rintro w' ⟨s0, s1⟩
                go_simp
                with_reducible rfl
               rotate_left
               ·simp only [Act.put, List.setIfInBounds_toArray, List.set_cons_zero, List.set_cons_succ, i64_w, i32_w]
                rfl
               refine take_ (i := 7) (N := some 177) (v := ?_) (a' := ?_) #[true, true, true, true, true, true, true, true, false, false] rfl rfl (take_ofW HT_.out HW_.out (by kernel_rfl)) (fun _ _ _ h => h) (Or.inl ⟨by rfl, ?_⟩) hHeld ?_ ?_
               rotate_left
               ·rintro w' ⟨s0, s1⟩
                go_simp
                with_reducible rfl
               rotate_left
               ·simp only [Act.put, List.setIfInBounds_toArray, List.set_cons_zero, List.set_cons_succ, i64_w, i32_w]
                rfl
               refine one_ (i := 8) (N := some 178) #[true, true, true, true, true, true, true, true, true, false] rfl rfl (one_of HT_.out (by kernel_rfl)) (by decide) (fun K hK => ?_)
               refine goes_ Try.func14 (by kernel_rfl) rfl #[.int .u8 (rd l0 x18_2)] (by rfl) rfl rfl (by (try simp only [List.map_toArray, List.map_cons, List.map_nil]); first | done | rfl | (simp only [List.length_drop, List.length_take]; rfl)) ?_
               with_reducible refine (selvedgeref14_Removed.calls (rd l0 x18_2) t304 _ A78.out).mono ?_
               rintro e w' ⟨rfl, ⟨nd, rfl⟩⟩
               refine ⟨_, rfl, ?_⟩
               refine hK.out _ _ ⟨hHeld.1, ((HB.out.cell (World.block_lt_of_cell? w _ hw303_0)).trans hw303_0)⟩ (fun hHeld => ?_)
               clear hK K
               refine norm_ (a' := ?_) ?_ ?_
               rotate_left
               ·show Act.put _ (some 178) _ = _
                simp only [Act.put, List.setIfInBounds_toArray, List.set_cons_zero, List.set_cons_succ, i64_w, i32_w]
                rfl
               refine pure_ (i := 9) (N := some 179) (v := ?_) (a' := ?_) #[true, true, true, true, true, true, true, true, true, true] rfl rfl (any_of HT_.out (by kernel_rfl)) (fun _ _ _ h => h) (Or.inl ⟨by rfl, ?_⟩) ?_ ?_
               rotate_left
               ·intro w'
                go_simp
                with_reducible rfl
               rotate_left
               ·simp only [Act.put, List.setIfInBounds_toArray, List.set_cons_zero, List.set_cons_succ, i64_w, i32_w]
                rfl
               refine done_ (done_of HT_.out (by kernel_rfl)) ?_
               try go_wp2
               go_roundg k2
               case measure => have := HK1.out; have := HK2.out; omega
               case rel => exact ⟨(wrap64 (x18_2 + 1)), (by first | rfl | (simp; done) | (simp [*]; done)), H', ⟨by have := HK1.out; have := HK2.out; omega⟩, ⟨mvR HO_12⟩, ⟨mvB HB⟩⟩
             ·rw [if_neg c77] at H
              exact absurd H (by simp)
            ·rw [if_neg c76] at H
             exact absurd H (by simp)
           ·rw [if_neg c75] at H
            have c75b0 : decide (x18_2 < (l0.length : Int)) = false := decide_eq_false c75
            clear c75
            replace H := Option.bind_eq_some_iff.mp H
            obtain ⟨t305, A840, H⟩ := H
            replace H : (some t305) = some r := H
            have A84 := Aside0.mk A840
            clear A840
            obtain rfl := Option.some.inj H
            go_wp2_with (first | ((with_reducible refine gate_callee (f := 8) rfl ?_); refine goesL_ (some 180) rfl rfl Try.func8 (by kernel_rfl) rfl #[] rfl (by (try simp only [List.map_toArray, List.map_cons, List.map_nil]); first | done | rfl | (simp only [List.length_drop, List.length_take]; rfl)) ?_; (with_reducible refine (selvedgelaw15_works.calls k2  t305 _ A84.out).mono ?_); rintro e w85 ⟨rfl, hb⟩; refine ⟨_, rfl, ?_⟩; have n0_ := Aside0.mk (Kd.R_below (mvR HO_12) hb); have n1_ := Aside0.mk (below_step (mvB HB) hb); clear HO_12; clear HB; have HO_12 := n0_; have HB := n1_; clear n0_ n1_; (try clear hb); (try clear hb2); (try clear hk); (try clear hi)))
            go_ret
            exact ⟨by first | rfl | (simp [errW_none, errW_some] <;> rfl) | (simp [*, errW_none, errW_some] <;> rfl), mvB HB⟩
     ·rw [if_neg c12] at H
      exact absurd H (by simp)
    ·rw [if_neg c11] at H
     exact absurd H (by simp)
   ·rw [if_neg c9] at H
    exact absurd H (by simp)
  ·rw [if_neg c7] at H
   have c7b0 : (t269 == 0) = false := beq_eq_false_iff_ne.mpr c7
   have c7b1 : (t269 != 0) = true := bne_iff_ne.mpr c7
   replace H := Option.bind_eq_some_iff.mp H
   obtain ⟨t274, A890, H⟩ := H
   replace H : (some t274) = some r := H
   have A89 := Aside0.mk A890
   clear A890
   obtain rfl := Option.some.inj H
   go_enter Try.func4, Try.ntmps4
   go_wp2_with (first | ((with_reducible refine gate_callee (f := 12) rfl ?_); refine goesL_ (some 26) rfl rfl Try.func12 (by kernel_rfl) rfl #[.slice A0 l0.length c0, .int .u8 a1] rfl (by (try simp only [List.map_toArray, List.map_cons, List.map_nil]); first | done | rfl | (simp only [List.length_drop, List.length_take]; rfl)) ?_; (with_reducible refine (selvedgeref14_Levels.calls _ _ l0 a1 t266 t267 t268 t269 _ ?side1 ?side2 A6.out).mono ?_); (case side1 => repeat (first | exact HR0.out | (with_reducible refine Kd.C_alloc ?_ _) | (with_reducible refine Kd.C_drewN ?_ _) | (with_reducible refine Kd.C_drew ?_))); (case side2 => exact HC0.out); rintro e w90 ⟨v270, v272, rfl, ho0, ho1, hb⟩; refine ⟨_, rfl, ?_⟩; have n0_ := Aside0.mk (Kd.R_lower ho0 (below_size (mvB HB))); have n1_ := Aside0.mk (Kd.R_lower ho1 (below_size (mvB HB))); have n2_ := Aside0.mk (below_step (mvB HB) hb); clear HB; have HO271 := n0_; have HO273 := n1_; have HB := n2_; clear n0_ n1_ n2_; (try clear hb); (try clear hb2); (try clear hk); (try clear hi); (try clear ho0); (try clear ho1)) | ((with_reducible refine gate_callee (f := 8) rfl ?_); refine goesL_ (some 33) rfl rfl Try.func8 (by kernel_rfl) rfl #[] rfl (by (try simp only [List.map_toArray, List.map_cons, List.map_nil]); first | done | rfl | (simp only [List.length_drop, List.length_take]; rfl)) ?_; (with_reducible refine (selvedgelaw15_works.calls k  t274 _ A89.out).mono ?_); rintro e w91 ⟨rfl, hb⟩; refine ⟨_, rfl, ?_⟩; have n0_ := Aside0.mk (Kd.R_below (mvR HO271) hb); have n1_ := Aside0.mk (Kd.R_below (mvR HO273) hb); have n2_ := Aside0.mk (below_step (mvB HB) hb); clear HO271; clear HO273; clear HB; have HO271 := n0_; have HO273 := n1_; have HB := n2_; clear n0_ n1_ n2_; (try clear hb); (try clear hb2); (try clear hk); (try clear hi)))
   go_ret
   exact ⟨by first | rfl | (simp [errW_none, errW_some] <;> rfl) | (simp [*, errW_none, errW_some] <;> rfl), mvB HB⟩

/-- THE ONE PURE STATEMENT of selvedgelaw15_RunsOnce: yours. -/
def selvedgelaw15_RunsOnce.Pure : Prop := ∀ (l0 : List Int) (a1 : Int), l0.length ≤ maxLen → l0.length * 1 ≤ 140737488351232 → (∀ x ∈ l0, (Lit.int .u8 x).wf = true) → (Lit.int .u8 a1).wf = true → ∃ k, selvedgelaw15_RunsOnce.f k l0 a1 = some true
theorem selvedgelaw15_RunsOnce.walk (P : selvedgelaw15_RunsOnce.Pure) (a0 : Option Addr) (len0 cap0 : Nat) (z0 : List Int) (a1 : Int) (w : World) (w0 : (a0 = none ∧ len0 = 0 ∧ cap0 = 0 ∧ z0 = []) ∨ ∃ x, a0 = some x ∧ len0 ≤ cap0 ∧ cap0 ≤ maxLen ∧ z0.length = cap0 ∧ (∀ i, i < z0.length → w.cell? (x.add i) = some (.int .u8 (z0.getD i 0))) ∧ ∀ n ∈ z0, (Lit.int .u8 n).wf = true) (y0 : len0 * 1 ≤ 140737488351232) (w1 : (Lit.int .u8 a1).wf = true) :
  Calls Try.prog 4 #[.slice a0 len0 cap0, .int .u8 a1] w fun e w' => e = .returned (.bool true) ∧ Below w.heap.size w w' := by
 obtain ⟨l0, rfl, hr0, hm0, hw0, hc0⟩ := ReadsInt.ofRowC w0
 obtain ⟨k, h⟩ := P l0 a1 hm0 y0 hw0 w1
 refine (selvedgelaw15_RunsOnce.calls k _ _ l0 a1 true w (Kd.C_of_reads (d := (0 : Int)) (h1 := fun _ => rfl) hr0) hc0 h).mono ?_
 rintro e w' ⟨rfl, hd⟩
 exact ⟨rfl, hd⟩

end Go.Proofs.Ytofiflhjlohakaa.X
