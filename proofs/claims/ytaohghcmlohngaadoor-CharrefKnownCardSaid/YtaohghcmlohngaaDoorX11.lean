-- by xprint.py: the kit's printer over texts of this session
import Derived.Test.YtaohghcmlohngaaDoorX0
import Derived.Test.YtaohghcmlohngaaDoorX3
import Derived.Test.YtaohghcmlohngaaDoorX3b
import Derived.Test.YtaohghcmlohngaaDoorX7
import Derived.Test.YtaohghcmlohngaaDoorX9
import Derived.Test.YtaohghcmlohngaaDoorT4
import Derived.Test.YtaohghcmlohngaaDoorT6
namespace Go.Proofs.YtaohghcmlohngaaDoor.X
open Go.RowKit Go.Proofs.YtaohghcmlohngaaDoorW.PrintWords Go.Proofs.YtaohghcmlohngaaDoorW.PrintLast Go.Proofs.YtaohghcmlohngaaDoorW.PrintMore
attribute [local go_sem] max2_int min2_int max_two min_two max_three min_three max_four min_four   -- for this text's walks alone
set_option linter.unusedVariables false
set_option linter.unusedSimpArgs false

/-! ### selvedgelaw03_CharrefKnown: function 9 -/
mutual
def selvedgelaw03_CharrefKnown.l0 : Nat → List ByteArray → Int → Option (Bool)
 | 0, _, _ => none
 | k + 1, x1, x2 => if x2 < (x1.length : Int) then (if 0 ≤ x2 then ((charref_Decode.f k (rdOf ByteArray.empty x1 x2) false).bind fun t258 => (if 0 ≤ (wrap64 (x2 + 1)) then (if (wrap64 (x2 + 1)) < (x1.length : Int) then (if t258.toList = (rdOf ByteArray.empty x1 (wrap64 (x2 + 1))).toList then (selvedgelaw03_CharrefKnown.l0 k x1 (wrap64 (x2 + 2))) else (some false)) else (none)) else (none))) else (none)) else ((selvedgeref03_Names.f).bind fun t260 => (selvedgelaw03_CharrefKnown.l1 k t260 0))
def selvedgelaw03_CharrefKnown.l1 : Nat → List (S26) → Int → Option (Bool)
 | 0, _, _ => none
 | k + 1, x3, x4 => if x4 < (x3.length : Int) then (if 0 ≤ x4 then (if 1 + ((rd_T26 x3 x4).f0).size ≤ 9223372036854775807 then ((some (([(⟨#[]⟩ : ByteArray), (⟨#[59]⟩ : ByteArray), (⟨#[61]⟩ : ByteArray), (⟨#[120]⟩ : ByteArray), (⟨#[32]⟩ : ByteArray), (⟨#[59, 59]⟩ : ByteArray), (⟨#[38]⟩ : ByteArray)] : List ByteArray) : List ByteArray)).bind fun y264 => (selvedgelaw03_CharrefKnown.l2 k x3 x4 ((⟨#[38]⟩ : ByteArray) ++ ((rd_T26 x3 x4).f0)) y264 (y264.length : Int) 0)) else (none)) else (none)) else (selvedgelaw03_CharrefKnown.l3 k 112)
def selvedgelaw03_CharrefKnown.l2 : Nat → List (S26) → Int → ByteArray → List ByteArray → Int → Int → Option (Bool)
 | 0, _, _, _, _, _, _ => none
 | k + 1, x3, x4, x5, x41, x42, x43 => if x43 < x42 then (if 0 ≤ x43 then (if x43 < (x41.length : Int) then (if x5.size + (rdOf ByteArray.empty x41 x43).size ≤ 9223372036854775807 then ((selvedgelaw03_CharrefFinds.f k (x5 ++ (rdOf ByteArray.empty x41 x43)) ((x4) % 256) (rdOf ByteArray.empty x41 x43) true).bind fun t268 => (if t268 = true then ((selvedgelaw03_CharrefFinds.f k (x5 ++ (rdOf ByteArray.empty x41 x43)) ((x4) % 256) (rdOf ByteArray.empty x41 x43) false).bind fun t269 => (if t269 = true then (selvedgelaw03_CharrefKnown.l2 k x3 x4 x5 x41 x42 (wrap64 (x43 + 1))) else (some false))) else (some false))) else (none)) else (none)) else (none)) else (if 0 ≤ x4 then (if x4 < (x3.length : Int) then ((selvedgeref02_String.f k (([(rd_T26 x3 x4).f1] : List Int))).bind fun t274 => (if x5.size + 1 ≤ 9223372036854775807 then ((charref_Decode.f k (x5 ++ (⟨#[59]⟩ : ByteArray)) true).bind fun t275 => (if t275.toList = t274.toList then ((charref_Decode.f k x5 false).bind fun t276 => (if ((t276.toList == t274.toList) != ((rd_T26 x3 x4).f2)) = true then (if ((rd_T26 x3 x4).f0).toList = ([110, 111, 116, 105, 110] : List UInt8) then (selvedgelaw03_CharrefKnown.l1 k x3 (wrap64 (x4 + 1))) else (if ((rd_T26 x3 x4).f0).toList = ([105, 110] : List UInt8) then (selvedgelaw03_CharrefKnown.l1 k x3 (wrap64 (x4 + 1))) else (some false))) else (selvedgelaw03_CharrefKnown.l1 k x3 (wrap64 (x4 + 1))))) else (some false))) else (none))) else (none)) else (none))
def selvedgelaw03_CharrefKnown.l3 : Nat → Int → Option (Bool)
 | 0, _ => none
 | k + 1, x9 => if x9 < 176 then ((selvedgelaw03_digits.f k ((x9) % 4294967296) 10 0).bind fun t282 => (if 2 + t282.size ≤ 9223372036854775807 then (if ((⟨#[38, 35]⟩ : ByteArray) ++ t282).size + 1 ≤ 9223372036854775807 then ((selvedgelaw03_CharrefDecodes.f k (((⟨#[38, 35]⟩ : ByteArray) ++ t282) ++ (⟨#[59]⟩ : ByteArray)) false).bind fun t283 => (if t283 = true then (selvedgelaw03_CharrefKnown.l3 k (wrap32 (x9 + 1))) else (some false))) else (none)) else (none))) else ((charref_Decode.f k (⟨#[38, 110, 111, 116, 105, 110, 32, 38, 110, 111, 116, 105]⟩ : ByteArray) true).bind fun t280 => (if t280.toList = ([38, 110, 111, 116, 105, 110, 32, 38, 110, 111, 116, 105] : List UInt8) then ((selvedgelaw03_works.f k).bind fun t281 => (some t281)) else (some false)))
end
def selvedgelaw03_CharrefKnown.f (k : Nat)  : Option (Bool) := selvedgelaw03_CharrefKnown.l0 k (([(⟨#[38, 97, 109, 112, 59, 108, 116, 59, 32, 38, 108, 116, 32, 38, 110, 111, 116, 105, 110, 59, 32, 38, 110, 111, 116, 105, 110, 32, 38, 110, 111, 116, 105]⟩ : ByteArray), (⟨#[38, 108, 116, 59, 32, 60, 32, 226, 136, 137, 32, 194, 172, 105, 110, 32, 194, 172, 105]⟩ : ByteArray), (⟨#[38, 99, 111, 112, 121, 61, 49, 32, 38, 99, 111, 112, 121, 59, 61, 49, 32, 38, 99, 111, 112, 121, 120]⟩ : ByteArray), (⟨#[194, 169, 61, 49, 32, 194, 169, 61, 49, 32, 194, 169, 120]⟩ : ByteArray), (⟨#[38, 35, 54, 53, 59, 32, 38, 35, 120, 52, 49, 59, 32, 38, 35, 88, 52, 49, 32, 38, 35, 54, 53, 120, 32, 38, 35, 59, 32, 38, 35, 120, 59, 32, 38, 35]⟩ : ByteArray), (⟨#[65, 32, 65, 32, 65, 32, 65, 120, 32, 38, 35, 59, 32, 38, 35, 120, 59, 32, 38, 35]⟩ : ByteArray), (⟨#[38, 35, 48, 59, 32, 38, 35, 120, 68, 56, 48, 48, 59, 32, 38, 35, 49, 49, 49, 52, 49, 49, 50, 59, 32, 38, 35, 49, 50, 56, 59, 32, 38, 35, 49, 50, 57, 59]⟩ : ByteArray), (⟨#[239, 191, 189, 32, 239, 191, 189, 32, 239, 191, 189, 32, 226, 130, 172, 32, 194, 129]⟩ : ByteArray), (⟨#[38, 117, 110, 107, 110, 111, 119, 110, 59, 32, 38, 32, 38, 59, 32, 38, 65, 77, 80, 32, 38, 65, 109, 112, 59]⟩ : ByteArray), (⟨#[38, 117, 110, 107, 110, 111, 119, 110, 59, 32, 38, 32, 38, 59, 32, 38, 32, 38, 65, 109, 112, 59]⟩ : ByteArray), (⟨#[38, 35, 57, 57, 57, 57, 57, 57, 57, 57, 57, 57, 57, 57, 57, 57, 57, 57, 57, 57, 57, 57, 57, 57, 57, 59, 38, 35, 120, 48, 48, 48, 48, 48, 48, 48, 48, 48, 48, 48, 48, 48, 48, 52, 49, 59, 38, 35, 49, 51, 59]⟩ : ByteArray), (⟨#[239, 191, 189, 65, 13]⟩ : ByteArray), (⟨#[38, 38, 97, 109, 112, 59, 38]⟩ : ByteArray), (⟨#[38, 38, 38]⟩ : ByteArray), (⟨#[]⟩ : ByteArray), (⟨#[]⟩ : ByteArray)] : List ByteArray)) 0
theorem selvedgelaw03_CharrefKnown.mono_l : ∀ k, (∀ y0 y1, LeO (selvedgelaw03_CharrefKnown.l0 k y0 y1) (selvedgelaw03_CharrefKnown.l0 (k + 1) y0 y1)) ∧ (∀ y0 y1, LeO (selvedgelaw03_CharrefKnown.l1 k y0 y1) (selvedgelaw03_CharrefKnown.l1 (k + 1) y0 y1)) ∧ (∀ y0 y1 y2 y3 y4 y5, LeO (selvedgelaw03_CharrefKnown.l2 k y0 y1 y2 y3 y4 y5) (selvedgelaw03_CharrefKnown.l2 (k + 1) y0 y1 y2 y3 y4 y5)) ∧ (∀ y0, LeO (selvedgelaw03_CharrefKnown.l3 k y0) (selvedgelaw03_CharrefKnown.l3 (k + 1) y0))
 | 0 => ⟨fun _ _ r h => by simp [selvedgelaw03_CharrefKnown.l0] at h, fun _ _ r h => by simp [selvedgelaw03_CharrefKnown.l1] at h, fun _ _ _ _ _ _ r h => by simp [selvedgelaw03_CharrefKnown.l2] at h, fun _ r h => by simp [selvedgelaw03_CharrefKnown.l3] at h⟩
 | k + 1 => by
  obtain ⟨ih0, ih1, ih2, ih3⟩ := selvedgelaw03_CharrefKnown.mono_l k
  refine ⟨?_, ?_, ?_, ?_⟩
  ·intro y0 y1
   unfold selvedgelaw03_CharrefKnown.l0
   repeat' first
   | (with_reducible exact ih0 _ _)
   | (with_reducible exact ih1 _ _)
   | (with_reducible exact ih2 _ _ _ _ _ _)
   | (with_reducible exact ih3 _)
   | (with_reducible exact charref_Decode.mono _ _ _)
   | (with_reducible exact selvedgelaw03_CharrefDecodes.mono _ _ _)
   | (with_reducible exact selvedgelaw03_CharrefFinds.mono _ _ _ _ _)
   | (with_reducible exact selvedgelaw03_digits.mono _ _ _ _)
   | (with_reducible exact selvedgelaw03_works.mono _)
   | (with_reducible exact selvedgeref02_String.mono _ _)
   | (with_reducible exact LeO.refl _)
   | (with_reducible exact LeO.none _)
   | (with_reducible refine LeO.ite ?_ ?_)
   | (with_reducible refine LeO.bind ?_ (fun _ => ?_))
   | exact ih0 _ _
   | exact ih1 _ _
   | exact ih2 _ _ _ _ _ _
   | exact ih3 _
   | exact charref_Decode.mono _ _ _
   | exact selvedgelaw03_CharrefDecodes.mono _ _ _
   | exact selvedgelaw03_CharrefFinds.mono _ _ _ _ _
   | exact selvedgelaw03_digits.mono _ _ _ _
   | exact selvedgelaw03_works.mono _
   | exact selvedgeref02_String.mono _ _
   | exact LeO.none _
   | refine LeO.ite ?_ ?_
   | refine LeO.bind ?_ (fun _ => ?_)
  ·intro y0 y1
   unfold selvedgelaw03_CharrefKnown.l1
   repeat' first
   | (with_reducible exact ih0 _ _)
   | (with_reducible exact ih1 _ _)
   | (with_reducible exact ih2 _ _ _ _ _ _)
   | (with_reducible exact ih3 _)
   | (with_reducible exact charref_Decode.mono _ _ _)
   | (with_reducible exact selvedgelaw03_CharrefDecodes.mono _ _ _)
   | (with_reducible exact selvedgelaw03_CharrefFinds.mono _ _ _ _ _)
   | (with_reducible exact selvedgelaw03_digits.mono _ _ _ _)
   | (with_reducible exact selvedgelaw03_works.mono _)
   | (with_reducible exact selvedgeref02_String.mono _ _)
   | (with_reducible exact LeO.refl _)
   | (with_reducible exact LeO.none _)
   | (with_reducible refine LeO.ite ?_ ?_)
   | (with_reducible refine LeO.bind ?_ (fun _ => ?_))
   | exact ih0 _ _
   | exact ih1 _ _
   | exact ih2 _ _ _ _ _ _
   | exact ih3 _
   | exact charref_Decode.mono _ _ _
   | exact selvedgelaw03_CharrefDecodes.mono _ _ _
   | exact selvedgelaw03_CharrefFinds.mono _ _ _ _ _
   | exact selvedgelaw03_digits.mono _ _ _ _
   | exact selvedgelaw03_works.mono _
   | exact selvedgeref02_String.mono _ _
   | exact LeO.none _
   | refine LeO.ite ?_ ?_
   | refine LeO.bind ?_ (fun _ => ?_)
  ·intro y0 y1 y2 y3 y4 y5
   unfold selvedgelaw03_CharrefKnown.l2
   repeat' first
   | (with_reducible exact ih0 _ _)
   | (with_reducible exact ih1 _ _)
   | (with_reducible exact ih2 _ _ _ _ _ _)
   | (with_reducible exact ih3 _)
   | (with_reducible exact charref_Decode.mono _ _ _)
   | (with_reducible exact selvedgelaw03_CharrefDecodes.mono _ _ _)
   | (with_reducible exact selvedgelaw03_CharrefFinds.mono _ _ _ _ _)
   | (with_reducible exact selvedgelaw03_digits.mono _ _ _ _)
   | (with_reducible exact selvedgelaw03_works.mono _)
   | (with_reducible exact selvedgeref02_String.mono _ _)
   | (with_reducible exact LeO.refl _)
   | (with_reducible exact LeO.none _)
   | (with_reducible refine LeO.ite ?_ ?_)
   | (with_reducible refine LeO.bind ?_ (fun _ => ?_))
   | exact ih0 _ _
   | exact ih1 _ _
   | exact ih2 _ _ _ _ _ _
   | exact ih3 _
   | exact charref_Decode.mono _ _ _
   | exact selvedgelaw03_CharrefDecodes.mono _ _ _
   | exact selvedgelaw03_CharrefFinds.mono _ _ _ _ _
   | exact selvedgelaw03_digits.mono _ _ _ _
   | exact selvedgelaw03_works.mono _
   | exact selvedgeref02_String.mono _ _
   | exact LeO.none _
   | refine LeO.ite ?_ ?_
   | refine LeO.bind ?_ (fun _ => ?_)
  ·intro y0
   unfold selvedgelaw03_CharrefKnown.l3
   repeat' first
   | (with_reducible exact ih0 _ _)
   | (with_reducible exact ih1 _ _)
   | (with_reducible exact ih2 _ _ _ _ _ _)
   | (with_reducible exact ih3 _)
   | (with_reducible exact charref_Decode.mono _ _ _)
   | (with_reducible exact selvedgelaw03_CharrefDecodes.mono _ _ _)
   | (with_reducible exact selvedgelaw03_CharrefFinds.mono _ _ _ _ _)
   | (with_reducible exact selvedgelaw03_digits.mono _ _ _ _)
   | (with_reducible exact selvedgelaw03_works.mono _)
   | (with_reducible exact selvedgeref02_String.mono _ _)
   | (with_reducible exact LeO.refl _)
   | (with_reducible exact LeO.none _)
   | (with_reducible refine LeO.ite ?_ ?_)
   | (with_reducible refine LeO.bind ?_ (fun _ => ?_))
   | exact ih0 _ _
   | exact ih1 _ _
   | exact ih2 _ _ _ _ _ _
   | exact ih3 _
   | exact charref_Decode.mono _ _ _
   | exact selvedgelaw03_CharrefDecodes.mono _ _ _
   | exact selvedgelaw03_CharrefFinds.mono _ _ _ _ _
   | exact selvedgelaw03_digits.mono _ _ _ _
   | exact selvedgelaw03_works.mono _
   | exact selvedgeref02_String.mono _ _
   | exact LeO.none _
   | refine LeO.ite ?_ ?_
   | refine LeO.bind ?_ (fun _ => ?_)
theorem selvedgelaw03_CharrefKnown.mono : ∀ k, LeO (selvedgelaw03_CharrefKnown.f k ) (selvedgelaw03_CharrefKnown.f (k + 1) ) := by
 intro  k
 obtain ⟨ih0, ih1, ih2, ih3⟩ := selvedgelaw03_CharrefKnown.mono_l k
 unfold selvedgelaw03_CharrefKnown.f
 repeat' first
   | (with_reducible exact ih0 _ _)
   | (with_reducible exact ih1 _ _)
   | (with_reducible exact ih2 _ _ _ _ _ _)
   | (with_reducible exact ih3 _)
   | (with_reducible exact charref_Decode.mono _ _ _)
   | (with_reducible exact selvedgelaw03_CharrefDecodes.mono _ _ _)
   | (with_reducible exact selvedgelaw03_CharrefFinds.mono _ _ _ _ _)
   | (with_reducible exact selvedgelaw03_digits.mono _ _ _ _)
   | (with_reducible exact selvedgelaw03_works.mono _)
   | (with_reducible exact selvedgeref02_String.mono _ _)
   | (with_reducible exact LeO.refl _)
   | (with_reducible exact LeO.none _)
   | (with_reducible refine LeO.ite ?_ ?_)
   | (with_reducible refine LeO.bind ?_ (fun _ => ?_))
   | exact ih0 _ _
   | exact ih1 _ _
   | exact ih2 _ _ _ _ _ _
   | exact ih3 _
   | exact charref_Decode.mono _ _ _
   | exact selvedgelaw03_CharrefDecodes.mono _ _ _
   | exact selvedgelaw03_CharrefFinds.mono _ _ _ _ _
   | exact selvedgelaw03_digits.mono _ _ _ _
   | exact selvedgelaw03_works.mono _
   | exact selvedgeref02_String.mono _ _
   | exact LeO.none _
   | refine LeO.ite ?_ ?_
   | refine LeO.bind ?_ (fun _ => ?_)
def selvedgelaw03_CharrefKnown.T5 : Bool × List (List Nat × List Nat) := (true, [([], []), ([], []), ([0, 1], [0, 1]), ([2], [2]), ([3], [3]), ([], []), ([], []), ([6], [6]), ([5, 7], [5, 7]), ([8], [8]), ([4, 9], [4, 9])])
def selvedgelaw03_CharrefKnown.B5 : List Nat := [0, 0, 3, 7, 15, 0, 0, 64, 224, 480, 1023]
theorem selvedgelaw03_CharrefKnown.tab5 : rtab .any (opsOf Tryd.f9 5) = selvedgelaw03_CharrefKnown.T5 := by kernel_rfl
theorem selvedgelaw03_CharrefKnown.bits5 : waitsOk selvedgelaw03_CharrefKnown.T5.2 selvedgelaw03_CharrefKnown.B5 = true := by kernel_rfl
def selvedgelaw03_CharrefKnown.T19 : Bool × List (List Nat × List Nat) := (true, [([], []), ([0], [0]), ([1], [1]), ([], []), ([2, 3], [2, 3]), ([4, 2], [4]), ([5], [5]), ([6, 5, 5], [5, 6]), ([5], [5]), ([7, 8, 5], [5, 7, 8]), ([5], [5]), ([5], [5]), ([10, 11, 5], [5, 10, 11]), ([12, 5], [5, 12]), ([13, 5], [5, 13]), ([9, 14, 5], [5, 9, 14]), ([15, 7, 5], [5, 15]), ([16], [16]), ([16], [16]), ([17, 18, 16], [16, 17, 18]), ([19, 16], [16, 19]), ([20, 16], [16, 20]), ([21, 16], [16, 21]), ([16, 22, 5], [5, 16, 22]), ([23, 16, 5], [5, 23]), ([24], [24]), ([24], [24]), ([25, 26, 24], [24, 25, 26]), ([27, 24], [24, 27]), ([28, 24], [24, 28]), ([29, 24], [24, 29]), ([24, 30, 5], [5, 24, 30]), ([5, 31], [5, 31])])
def selvedgelaw03_CharrefKnown.B19 : List Nat := [0, 1, 3, 0, 15, 31, 63, 127, 63, 511, 63, 63, 3135, 7231, 15423, 32767, 65535, 131071, 131071, 524287, 1048575, 2097151, 4194303, 8388607, 16777215, 33554431, 33554431, 134217727, 268435455, 536870911, 1073741823, 2147483647, 4294967295]
theorem selvedgelaw03_CharrefKnown.tab19 : rtab .any (opsOf Tryd.f9 19) = selvedgelaw03_CharrefKnown.T19 := by kernel_rfl
theorem selvedgelaw03_CharrefKnown.bits19 : waitsOk selvedgelaw03_CharrefKnown.T19.2 selvedgelaw03_CharrefKnown.B19 = true := by kernel_rfl
set_option maxHeartbeats 8000000 in
set_option maxRecDepth 100000 in
theorem selvedgelaw03_CharrefKnown.calls (k : Nat)  (r : Bool) (w : World) (h : selvedgelaw03_CharrefKnown.f k  = some r) (hT : Tabs w) :
  Calls Tryd.prog 9 #[] w fun e w' => e = .returned (.bool r) ∧ Below w.heap.size w w' := by
 have HT := Aside0.mk hT
 clear hT
 have HB := Aside0.mk (Below.refl w.heap.size w)
 have H : (selvedgelaw03_CharrefKnown.l0 k (([(⟨#[38, 97, 109, 112, 59, 108, 116, 59, 32, 38, 108, 116, 32, 38, 110, 111, 116, 105, 110, 59, 32, 38, 110, 111, 116, 105, 110, 32, 38, 110, 111, 116, 105]⟩ : ByteArray), (⟨#[38, 108, 116, 59, 32, 60, 32, 226, 136, 137, 32, 194, 172, 105, 110, 32, 194, 172, 105]⟩ : ByteArray), (⟨#[38, 99, 111, 112, 121, 61, 49, 32, 38, 99, 111, 112, 121, 59, 61, 49, 32, 38, 99, 111, 112, 121, 120]⟩ : ByteArray), (⟨#[194, 169, 61, 49, 32, 194, 169, 61, 49, 32, 194, 169, 120]⟩ : ByteArray), (⟨#[38, 35, 54, 53, 59, 32, 38, 35, 120, 52, 49, 59, 32, 38, 35, 88, 52, 49, 32, 38, 35, 54, 53, 120, 32, 38, 35, 59, 32, 38, 35, 120, 59, 32, 38, 35]⟩ : ByteArray), (⟨#[65, 32, 65, 32, 65, 32, 65, 120, 32, 38, 35, 59, 32, 38, 35, 120, 59, 32, 38, 35]⟩ : ByteArray), (⟨#[38, 35, 48, 59, 32, 38, 35, 120, 68, 56, 48, 48, 59, 32, 38, 35, 49, 49, 49, 52, 49, 49, 50, 59, 32, 38, 35, 49, 50, 56, 59, 32, 38, 35, 49, 50, 57, 59]⟩ : ByteArray), (⟨#[239, 191, 189, 32, 239, 191, 189, 32, 239, 191, 189, 32, 226, 130, 172, 32, 194, 129]⟩ : ByteArray), (⟨#[38, 117, 110, 107, 110, 111, 119, 110, 59, 32, 38, 32, 38, 59, 32, 38, 65, 77, 80, 32, 38, 65, 109, 112, 59]⟩ : ByteArray), (⟨#[38, 117, 110, 107, 110, 111, 119, 110, 59, 32, 38, 32, 38, 59, 32, 38, 32, 38, 65, 109, 112, 59]⟩ : ByteArray), (⟨#[38, 35, 57, 57, 57, 57, 57, 57, 57, 57, 57, 57, 57, 57, 57, 57, 57, 57, 57, 57, 57, 57, 57, 57, 57, 59, 38, 35, 120, 48, 48, 48, 48, 48, 48, 48, 48, 48, 48, 48, 48, 48, 48, 52, 49, 59, 38, 35, 49, 51, 59]⟩ : ByteArray), (⟨#[239, 191, 189, 65, 13]⟩ : ByteArray), (⟨#[38, 38, 97, 109, 112, 59, 38]⟩ : ByteArray), (⟨#[38, 38, 38]⟩ : ByteArray), (⟨#[]⟩ : ByteArray), (⟨#[]⟩ : ByteArray)] : List ByteArray)) 0) = some r := h
 clear h
 obtain ⟨y254, hy254⟩ : ∃ y_ : List ByteArray, y_ = (([(⟨#[38, 97, 109, 112, 59, 108, 116, 59, 32, 38, 108, 116, 32, 38, 110, 111, 116, 105, 110, 59, 32, 38, 110, 111, 116, 105, 110, 32, 38, 110, 111, 116, 105]⟩ : ByteArray), (⟨#[38, 108, 116, 59, 32, 60, 32, 226, 136, 137, 32, 194, 172, 105, 110, 32, 194, 172, 105]⟩ : ByteArray), (⟨#[38, 99, 111, 112, 121, 61, 49, 32, 38, 99, 111, 112, 121, 59, 61, 49, 32, 38, 99, 111, 112, 121, 120]⟩ : ByteArray), (⟨#[194, 169, 61, 49, 32, 194, 169, 61, 49, 32, 194, 169, 120]⟩ : ByteArray), (⟨#[38, 35, 54, 53, 59, 32, 38, 35, 120, 52, 49, 59, 32, 38, 35, 88, 52, 49, 32, 38, 35, 54, 53, 120, 32, 38, 35, 59, 32, 38, 35, 120, 59, 32, 38, 35]⟩ : ByteArray), (⟨#[65, 32, 65, 32, 65, 32, 65, 120, 32, 38, 35, 59, 32, 38, 35, 120, 59, 32, 38, 35]⟩ : ByteArray), (⟨#[38, 35, 48, 59, 32, 38, 35, 120, 68, 56, 48, 48, 59, 32, 38, 35, 49, 49, 49, 52, 49, 49, 50, 59, 32, 38, 35, 49, 50, 56, 59, 32, 38, 35, 49, 50, 57, 59]⟩ : ByteArray), (⟨#[239, 191, 189, 32, 239, 191, 189, 32, 239, 191, 189, 32, 226, 130, 172, 32, 194, 129]⟩ : ByteArray), (⟨#[38, 117, 110, 107, 110, 111, 119, 110, 59, 32, 38, 32, 38, 59, 32, 38, 65, 77, 80, 32, 38, 65, 109, 112, 59]⟩ : ByteArray), (⟨#[38, 117, 110, 107, 110, 111, 119, 110, 59, 32, 38, 32, 38, 59, 32, 38, 32, 38, 65, 109, 112, 59]⟩ : ByteArray), (⟨#[38, 35, 57, 57, 57, 57, 57, 57, 57, 57, 57, 57, 57, 57, 57, 57, 57, 57, 57, 57, 57, 57, 57, 57, 57, 59, 38, 35, 120, 48, 48, 48, 48, 48, 48, 48, 48, 48, 48, 48, 48, 48, 48, 52, 49, 59, 38, 35, 49, 51, 59]⟩ : ByteArray), (⟨#[239, 191, 189, 65, 13]⟩ : ByteArray), (⟨#[38, 38, 97, 109, 112, 59, 38]⟩ : ByteArray), (⟨#[38, 38, 38]⟩ : ByteArray), (⟨#[]⟩ : ByteArray), (⟨#[]⟩ : ByteArray)] : List ByteArray)) := ⟨_, rfl⟩
 replace H : (selvedgelaw03_CharrefKnown.l0 k y254 0) = some r := by first | (rw [hy254]; with_reducible exact H) | (have H2_ := (Option.bind_some _ _).symm.trans H; rw [hy254]; with_reducible exact H2_) | (have H2_ := (Option.bind_some _ _).symm.trans H; with_reducible exact H2_) | with_reducible exact H | (rw [hy254]; exact H) | exact H
 have Ny254 := Aside0.mk hy254
 clear hy254
 have H' := Aside0.mk H
 clear H
 go_enter Tryd.func9, Tryd.ntmps9
 go_wp2_with (first | ((with_reducible refine gate_dst (N := 10) rfl ?_); refine Kd.R_lit Kd.string _ 9 ?hg (N := 10) ?hd (xs := ([(⟨#[38, 97, 109, 112, 59, 108, 116, 59, 32, 38, 108, 116, 32, 38, 110, 111, 116, 105, 110, 59, 32, 38, 110, 111, 116, 105, 110, 32, 38, 110, 111, 116, 105]⟩ : ByteArray), (⟨#[38, 108, 116, 59, 32, 60, 32, 226, 136, 137, 32, 194, 172, 105, 110, 32, 194, 172, 105]⟩ : ByteArray), (⟨#[38, 99, 111, 112, 121, 61, 49, 32, 38, 99, 111, 112, 121, 59, 61, 49, 32, 38, 99, 111, 112, 121, 120]⟩ : ByteArray), (⟨#[194, 169, 61, 49, 32, 194, 169, 61, 49, 32, 194, 169, 120]⟩ : ByteArray), (⟨#[38, 35, 54, 53, 59, 32, 38, 35, 120, 52, 49, 59, 32, 38, 35, 88, 52, 49, 32, 38, 35, 54, 53, 120, 32, 38, 35, 59, 32, 38, 35, 120, 59, 32, 38, 35]⟩ : ByteArray), (⟨#[65, 32, 65, 32, 65, 32, 65, 120, 32, 38, 35, 59, 32, 38, 35, 120, 59, 32, 38, 35]⟩ : ByteArray), (⟨#[38, 35, 48, 59, 32, 38, 35, 120, 68, 56, 48, 48, 59, 32, 38, 35, 49, 49, 49, 52, 49, 49, 50, 59, 32, 38, 35, 49, 50, 56, 59, 32, 38, 35, 49, 50, 57, 59]⟩ : ByteArray), (⟨#[239, 191, 189, 32, 239, 191, 189, 32, 239, 191, 189, 32, 226, 130, 172, 32, 194, 129]⟩ : ByteArray), (⟨#[38, 117, 110, 107, 110, 111, 119, 110, 59, 32, 38, 32, 38, 59, 32, 38, 65, 77, 80, 32, 38, 65, 109, 112, 59]⟩ : ByteArray), (⟨#[38, 117, 110, 107, 110, 111, 119, 110, 59, 32, 38, 32, 38, 59, 32, 38, 32, 38, 65, 109, 112, 59]⟩ : ByteArray), (⟨#[38, 35, 57, 57, 57, 57, 57, 57, 57, 57, 57, 57, 57, 57, 57, 57, 57, 57, 57, 57, 57, 57, 57, 57, 57, 59, 38, 35, 120, 48, 48, 48, 48, 48, 48, 48, 48, 48, 48, 48, 48, 48, 48, 52, 49, 59, 38, 35, 49, 51, 59]⟩ : ByteArray), (⟨#[239, 191, 189, 65, 13]⟩ : ByteArray), (⟨#[38, 38, 97, 109, 112, 59, 38]⟩ : ByteArray), (⟨#[38, 38, 38]⟩ : ByteArray), (⟨#[]⟩ : ByteArray), (⟨#[]⟩ : ByteArray)] : List ByteArray)) (inner := [.string (⟨#[38, 97, 109, 112, 59, 108, 116, 59, 32, 38, 108, 116, 32, 38, 110, 111, 116, 105, 110, 59, 32, 38, 110, 111, 116, 105, 110, 32, 38, 110, 111, 116, 105]⟩ : ByteArray), .string (⟨#[38, 108, 116, 59, 32, 60, 32, 226, 136, 137, 32, 194, 172, 105, 110, 32, 194, 172, 105]⟩ : ByteArray), .string (⟨#[38, 99, 111, 112, 121, 61, 49, 32, 38, 99, 111, 112, 121, 59, 61, 49, 32, 38, 99, 111, 112, 121, 120]⟩ : ByteArray), .string (⟨#[194, 169, 61, 49, 32, 194, 169, 61, 49, 32, 194, 169, 120]⟩ : ByteArray), .string (⟨#[38, 35, 54, 53, 59, 32, 38, 35, 120, 52, 49, 59, 32, 38, 35, 88, 52, 49, 32, 38, 35, 54, 53, 120, 32, 38, 35, 59, 32, 38, 35, 120, 59, 32, 38, 35]⟩ : ByteArray), .string (⟨#[65, 32, 65, 32, 65, 32, 65, 120, 32, 38, 35, 59, 32, 38, 35, 120, 59, 32, 38, 35]⟩ : ByteArray), .string (⟨#[38, 35, 48, 59, 32, 38, 35, 120, 68, 56, 48, 48, 59, 32, 38, 35, 49, 49, 49, 52, 49, 49, 50, 59, 32, 38, 35, 49, 50, 56, 59, 32, 38, 35, 49, 50, 57, 59]⟩ : ByteArray), .string (⟨#[239, 191, 189, 32, 239, 191, 189, 32, 239, 191, 189, 32, 226, 130, 172, 32, 194, 129]⟩ : ByteArray), .string (⟨#[38, 117, 110, 107, 110, 111, 119, 110, 59, 32, 38, 32, 38, 59, 32, 38, 65, 77, 80, 32, 38, 65, 109, 112, 59]⟩ : ByteArray), .string (⟨#[38, 117, 110, 107, 110, 111, 119, 110, 59, 32, 38, 32, 38, 59, 32, 38, 32, 38, 65, 109, 112, 59]⟩ : ByteArray), .string (⟨#[38, 35, 57, 57, 57, 57, 57, 57, 57, 57, 57, 57, 57, 57, 57, 57, 57, 57, 57, 57, 57, 57, 57, 57, 57, 59, 38, 35, 120, 48, 48, 48, 48, 48, 48, 48, 48, 48, 48, 48, 48, 48, 48, 52, 49, 59, 38, 35, 49, 51, 59]⟩ : ByteArray), .string (⟨#[239, 191, 189, 65, 13]⟩ : ByteArray), .string (⟨#[38, 38, 97, 109, 112, 59, 38]⟩ : ByteArray), .string (⟨#[38, 38, 38]⟩ : ByteArray), .string (⟨#[]⟩ : ByteArray), .string (⟨#[]⟩ : ByteArray)]) (ok := fun _ => True) (okp := fun _ => True) ?hr ?hp (fun _ hk => hk) trivial (Below.refl _ _) (Nat.le_refl _) (by simp) ?_; (case hd => rfl); (case hg => rfl); (case hr => first | (go_simp; done) | (go_simp; rfl)); (case hp => exact (Reps.one (show Kd.M Kd.string _ _ _ (⟨#[38, 97, 109, 112, 59, 108, 116, 59, 32, 38, 108, 116, 32, 38, 110, 111, 116, 105, 110, 59, 32, 38, 110, 111, 116, 105, 110, 32, 38, 110, 111, 116, 105]⟩ : ByteArray) [.string (⟨#[38, 97, 109, 112, 59, 108, 116, 59, 32, 38, 108, 116, 32, 38, 110, 111, 116, 105, 110, 59, 32, 38, 110, 111, 116, 105, 110, 32, 38, 110, 111, 116, 105]⟩ : ByteArray)] from rfl) (Reps.one (show Kd.M Kd.string _ _ _ (⟨#[38, 108, 116, 59, 32, 60, 32, 226, 136, 137, 32, 194, 172, 105, 110, 32, 194, 172, 105]⟩ : ByteArray) [.string (⟨#[38, 108, 116, 59, 32, 60, 32, 226, 136, 137, 32, 194, 172, 105, 110, 32, 194, 172, 105]⟩ : ByteArray)] from rfl) (Reps.one (show Kd.M Kd.string _ _ _ (⟨#[38, 99, 111, 112, 121, 61, 49, 32, 38, 99, 111, 112, 121, 59, 61, 49, 32, 38, 99, 111, 112, 121, 120]⟩ : ByteArray) [.string (⟨#[38, 99, 111, 112, 121, 61, 49, 32, 38, 99, 111, 112, 121, 59, 61, 49, 32, 38, 99, 111, 112, 121, 120]⟩ : ByteArray)] from rfl) (Reps.one (show Kd.M Kd.string _ _ _ (⟨#[194, 169, 61, 49, 32, 194, 169, 61, 49, 32, 194, 169, 120]⟩ : ByteArray) [.string (⟨#[194, 169, 61, 49, 32, 194, 169, 61, 49, 32, 194, 169, 120]⟩ : ByteArray)] from rfl) (Reps.one (show Kd.M Kd.string _ _ _ (⟨#[38, 35, 54, 53, 59, 32, 38, 35, 120, 52, 49, 59, 32, 38, 35, 88, 52, 49, 32, 38, 35, 54, 53, 120, 32, 38, 35, 59, 32, 38, 35, 120, 59, 32, 38, 35]⟩ : ByteArray) [.string (⟨#[38, 35, 54, 53, 59, 32, 38, 35, 120, 52, 49, 59, 32, 38, 35, 88, 52, 49, 32, 38, 35, 54, 53, 120, 32, 38, 35, 59, 32, 38, 35, 120, 59, 32, 38, 35]⟩ : ByteArray)] from rfl) (Reps.one (show Kd.M Kd.string _ _ _ (⟨#[65, 32, 65, 32, 65, 32, 65, 120, 32, 38, 35, 59, 32, 38, 35, 120, 59, 32, 38, 35]⟩ : ByteArray) [.string (⟨#[65, 32, 65, 32, 65, 32, 65, 120, 32, 38, 35, 59, 32, 38, 35, 120, 59, 32, 38, 35]⟩ : ByteArray)] from rfl) (Reps.one (show Kd.M Kd.string _ _ _ (⟨#[38, 35, 48, 59, 32, 38, 35, 120, 68, 56, 48, 48, 59, 32, 38, 35, 49, 49, 49, 52, 49, 49, 50, 59, 32, 38, 35, 49, 50, 56, 59, 32, 38, 35, 49, 50, 57, 59]⟩ : ByteArray) [.string (⟨#[38, 35, 48, 59, 32, 38, 35, 120, 68, 56, 48, 48, 59, 32, 38, 35, 49, 49, 49, 52, 49, 49, 50, 59, 32, 38, 35, 49, 50, 56, 59, 32, 38, 35, 49, 50, 57, 59]⟩ : ByteArray)] from rfl) (Reps.one (show Kd.M Kd.string _ _ _ (⟨#[239, 191, 189, 32, 239, 191, 189, 32, 239, 191, 189, 32, 226, 130, 172, 32, 194, 129]⟩ : ByteArray) [.string (⟨#[239, 191, 189, 32, 239, 191, 189, 32, 239, 191, 189, 32, 226, 130, 172, 32, 194, 129]⟩ : ByteArray)] from rfl) (Reps.one (show Kd.M Kd.string _ _ _ (⟨#[38, 117, 110, 107, 110, 111, 119, 110, 59, 32, 38, 32, 38, 59, 32, 38, 65, 77, 80, 32, 38, 65, 109, 112, 59]⟩ : ByteArray) [.string (⟨#[38, 117, 110, 107, 110, 111, 119, 110, 59, 32, 38, 32, 38, 59, 32, 38, 65, 77, 80, 32, 38, 65, 109, 112, 59]⟩ : ByteArray)] from rfl) (Reps.one (show Kd.M Kd.string _ _ _ (⟨#[38, 117, 110, 107, 110, 111, 119, 110, 59, 32, 38, 32, 38, 59, 32, 38, 32, 38, 65, 109, 112, 59]⟩ : ByteArray) [.string (⟨#[38, 117, 110, 107, 110, 111, 119, 110, 59, 32, 38, 32, 38, 59, 32, 38, 32, 38, 65, 109, 112, 59]⟩ : ByteArray)] from rfl) (Reps.one (show Kd.M Kd.string _ _ _ (⟨#[38, 35, 57, 57, 57, 57, 57, 57, 57, 57, 57, 57, 57, 57, 57, 57, 57, 57, 57, 57, 57, 57, 57, 57, 57, 59, 38, 35, 120, 48, 48, 48, 48, 48, 48, 48, 48, 48, 48, 48, 48, 48, 48, 52, 49, 59, 38, 35, 49, 51, 59]⟩ : ByteArray) [.string (⟨#[38, 35, 57, 57, 57, 57, 57, 57, 57, 57, 57, 57, 57, 57, 57, 57, 57, 57, 57, 57, 57, 57, 57, 57, 57, 59, 38, 35, 120, 48, 48, 48, 48, 48, 48, 48, 48, 48, 48, 48, 48, 48, 48, 52, 49, 59, 38, 35, 49, 51, 59]⟩ : ByteArray)] from rfl) (Reps.one (show Kd.M Kd.string _ _ _ (⟨#[239, 191, 189, 65, 13]⟩ : ByteArray) [.string (⟨#[239, 191, 189, 65, 13]⟩ : ByteArray)] from rfl) (Reps.one (show Kd.M Kd.string _ _ _ (⟨#[38, 38, 97, 109, 112, 59, 38]⟩ : ByteArray) [.string (⟨#[38, 38, 97, 109, 112, 59, 38]⟩ : ByteArray)] from rfl) (Reps.one (show Kd.M Kd.string _ _ _ (⟨#[38, 38, 38]⟩ : ByteArray) [.string (⟨#[38, 38, 38]⟩ : ByteArray)] from rfl) (Reps.one (show Kd.M Kd.string _ _ _ (⟨#[]⟩ : ByteArray) [.string (⟨#[]⟩ : ByteArray)] from rfl) (Reps.one (show Kd.M Kd.string _ _ _ (⟨#[]⟩ : ByteArray) [.string (⟨#[]⟩ : ByteArray)] from rfl) (Reps.none _ _)))))))))))))))))); intro v255 w1 ho2 hb hg_ hnew_; clear hg_ hnew_; (first | rw [← Ny254.out] at ho2 | (simp only [Int.reduceToNat] at ho2; rw [← Ny254.out] at ho2)); have n0_ := Aside0.mk (Kd.R_lower ho2 (below_size (mvB HB))); have n1_ := Aside0.mk (below_step (mvB HB) hb); clear HB; have HO256 := n0_; have HB := n1_; clear n0_ n1_; clear hb ho2))
 go_loopg [2] k (fun kq v2 w' => ∃ (x2_1 : Int), v2 = .int .i64 x2_1 ∧ Aside0 (selvedgelaw03_CharrefKnown.l0 kq y254 x2_1 = some r) ∧ Aside0 (kq ≤ k) ∧ Aside0 (Kd.R Kd.string 9 w' w.heap.size (fun _ => True) v255 y254) ∧ Aside0 (Below w.heap.size w w'))
 case atStart => exact ⟨(0), (by first | rfl | (simp; done) | (simp [*]; done)), H', ⟨Nat.le_refl _⟩, ⟨mvR HO256⟩, ⟨mvB HB⟩⟩
 case round =>
  clear H'
  try clear p2
  obtain ⟨x2_1, rfl, HA, HK1, HO_1, HB⟩ := hrel
  cases gk with
  | zero => exact absurd HA.out (by simp [selvedgelaw03_CharrefKnown.l0])
  | succ k1 =>
   have H := HA.out
   clear HA
   simp only [selvedgelaw03_CharrefKnown.l0] at H
   by_cases c3 : x2_1 < (y254.length : Int)
   ·rw [if_pos c3] at H
    have c3b0 : decide (x2_1 < (y254.length : Int)) = true := decide_eq_true c3
    clear c3
    by_cases c4 : 0 ≤ x2_1
    ·rw [if_pos c4] at H
     have c4b0 : decide (0 ≤ x2_1) = true := decide_eq_true c4
     clear c4
     replace H := Option.bind_eq_some_iff.mp H
     obtain ⟨t258, A50, H⟩ := H
     replace H : (if 0 ≤ (wrap64 (x2_1 + 1)) then (if (wrap64 (x2_1 + 1)) < (y254.length : Int) then (if t258.toList = (rdOf ByteArray.empty y254 (wrap64 (x2_1 + 1))).toList then (selvedgelaw03_CharrefKnown.l0 k1 y254 (wrap64 (x2_1 + 2))) else (some false)) else (none)) else (none)) = some r := H
     have A5 := Aside0.mk A50
     clear A50
     obtain ⟨ji6, hji6⟩ : ∃ j_ : Int, (wrap64 (x2_1 + 1)) = j_ := ⟨_, rfl⟩
     replace H : (if 0 ≤ (ji6) then (if (ji6) < (y254.length : Int) then (if t258.toList = (rdOf ByteArray.empty y254 (ji6)).toList then (selvedgelaw03_CharrefKnown.l0 k1 y254 (wrap64 (x2_1 + 2))) else (some false)) else (none)) else (none)) = some r := by first | (rw [hji6] at H; exact H) | (simp only [hji6] at H ⊢; exact H)
     (try rw [hji6] at A5)
     have hji6w : (IntKind.i64.wrap (x2_1 + 1)) = ji6 := (i64_w _).trans hji6
     by_cases c7 : 0 ≤ (ji6)
     ·rw [if_pos c7] at H
      have c7b0 : decide (0 ≤ (ji6)) = true := decide_eq_true c7
      clear c7
      by_cases c8 : (ji6) < (y254.length : Int)
      ·rw [if_pos c8] at H
       have c8b0 : decide ((ji6) < (y254.length : Int)) = true := decide_eq_true c8
       clear c8
       by_cases c9 : t258.toList = (rdOf ByteArray.empty y254 (ji6)).toList
       ·rw [if_pos c9] at H
        have c9b0 : (t258.toList == (rdOf ByteArray.empty y254 (ji6)).toList) = true := beq_iff_eq.mpr c9
        have c9b1 : (t258.toList != (rdOf ByteArray.empty y254 (ji6)).toList) = false := bne_eq_false_iff_eq.mpr c9
        clear c9
        have H' := Aside0.mk H
        clear H
        obtain ⟨Ao10, co10, eo10⟩ := Kd.R_slice HO_1.out
        subst eo10
        try go_wp2
        have n0_ := Aside0.mk (Kd.R_drew HO_1.out)
        have n1_ := Aside0.mk (below_drew1 HB.out)
        clear HO_1
        clear HB
        have HO_1 := n0_
        have HB := n1_
        clear n0_ n1_
        have p257 := dT (0 ≤ (x2_1 : Int))
        have q257 := dT (x2_1 < (y254.length : Int))
        obtain ⟨ad257, e257, hx257_0⟩ := Kd.at_string (Kd.R_reads' HO_1.out).2.2 x2_1 p257 q257
        cases e257
        replace p257 := eq_true p257
        replace q257 := eq_true q257
        have p259 := dT (0 ≤ ((ji6) : Int))
        have q259 := dT ((ji6) < (y254.length : Int))
        obtain ⟨ad259, e259, hx259_0⟩ := Kd.at_string (Kd.R_reads' HO_1.out).2.2 (ji6) p259 q259
        obtain rfl : ad257 = ad259 := (by injection e259)
        replace p259 := eq_true p259
        replace q259 := eq_true q259
        refine start_ (n := 11) (S := fun w' => w'.cell? (ad257.add (x2_1).toNat) = some (.string (rdOf ByteArray.empty y254 x2_1)) ∧ w'.cell? (ad257.add ((ji6)).toNat) = some (.string (rdOf ByteArray.empty y254 (ji6)))) (ds := []) #[false, false, false, false, false, false, false, false, false, false, false] (by kernel_rfl) rfl rfl ⟨hx257_0, hx259_0⟩ (fun hHeld => ?_); refine with_tabW selvedgelaw03_CharrefKnown.tab5 selvedgelaw03_CharrefKnown.bits5 (fun HT_ HW_ => ?_)
        generalize wr.drew = w11 at HO_1 HB hx257_0 hx259_0 hHeld ⊢
        refine pure_ (i := 0) (N := some 17) (v := ?_) (a' := ?_) #[true, false, false, false, false, false, false, false, false, false, false] rfl rfl (any_of HT_.out (by kernel_rfl)) (fun _ _ _ h => h) (Or.inl ⟨by rfl, ?_⟩) ?_ ?_
        rotate_left
        ·intro w'
         go_simp
         with_reducible rfl
        rotate_left
        ·simp only [Act.put, List.setIfInBounds_toArray, List.set_cons_zero, List.set_cons_succ, i64_w, i32_w]
         rfl
        refine pure_ (i := 1) (N := some 18) (v := ?_) (a' := ?_) #[true, true, false, false, false, false, false, false, false, false, false] rfl rfl (any_of HT_.out (by kernel_rfl)) (fun _ _ _ h => h) (Or.inl ⟨by rfl, ?_⟩) ?_ ?_
        rotate_left
        ·intro w'
         go_simp
         with_reducible rfl
        rotate_left
        ·simp only [Act.put, List.setIfInBounds_toArray, List.set_cons_zero, List.set_cons_succ, i64_w, i32_w]
         rfl
        refine pure_ (i := 2) (N := some 19) (v := ?_) (a' := ?_) #[true, true, true, false, false, false, false, false, false, false, false] rfl rfl (any_of HT_.out (by kernel_rfl)) (fun _ _ _ h => h) (Or.inl ⟨by rfl, ?_⟩) ?_ ?_
        rotate_left
        ·intro w'
         go_simp
         with_reducible rfl
        rotate_left
        ·simp only [Act.put, List.setIfInBounds_toArray, List.set_cons_zero, List.set_cons_succ, i64_w, i32_w]
         rfl
        refine pure_ (i := 5) (N := some 22) (v := ?_) (a' := ?_) #[true, true, true, false, false, true, false, false, false, false, false] rfl rfl (any_of HT_.out (by kernel_rfl)) (fun _ _ _ h => h) (Or.inl ⟨by rfl, ?_⟩) ?_ ?_
        rotate_left
        ·intro w'
         go_simp
         with_reducible rfl
        rotate_left
        ·simp only [Act.put, List.setIfInBounds_toArray, List.set_cons_zero, List.set_cons_succ, i64_w, i32_w]
         rfl
        refine pure_ (i := 6) (N := some 23) (v := ?_) (a' := ?_) #[true, true, true, false, false, true, true, false, false, false, false] rfl rfl (any_of HT_.out (by kernel_rfl)) (fun _ _ _ h => h) (Or.inl ⟨by rfl, ?_⟩) ?_ ?_
        rotate_left
        ·intro w'
         go_simp
         with_reducible rfl
        rotate_left
        ·simp only [Act.put, List.setIfInBounds_toArray, List.set_cons_zero, List.set_cons_succ, i64_w, i32_w]
         rfl
        refine pure_ (i := 7) (N := some 24) (v := ?_) (a' := ?_) #[true, true, true, false, false, true, true, true, false, false, false] rfl rfl (any_of HT_.out (by kernel_rfl)) (fun _ _ _ h => h) (Or.inl ⟨by rfl, ?_⟩) ?_ ?_
        rotate_left
        ·intro w'
         go_simp
         with_reducible rfl
        rotate_left
        ·simp only [Act.put, List.setIfInBounds_toArray, List.set_cons_zero, List.set_cons_succ, i64_w, i32_w]
         rfl
        refine pure_ (i := 8) (N := some 25) (v := ?_) (a' := ?_) #[true, true, true, false, false, true, true, true, true, false, false] rfl rfl (any_of HT_.out (by kernel_rfl)) (fun _ _ _ h => h) (Or.inl ⟨by rfl, ?_⟩) ?_ ?_
        rotate_left
        ·intro w'
         go_simp
         with_reducible rfl
        rotate_left
        ·simp only [Act.put, List.setIfInBounds_toArray, List.set_cons_zero, List.set_cons_succ, i64_w, i32_w]
         rfl
        refine take_ (i := 3) (N := some 20) (v := ?_) (a' := ?_) #[true, true, true, true, false, true, true, true, true, false, false] rfl rfl (take_ofW HT_.out HW_.out (by kernel_rfl)) (fun _ _ _ h => h) (Or.inl ⟨by rfl, ?_⟩) hHeld ?_ ?_
        rotate_left
        ·rintro w' ⟨s0, s1⟩
         go_simp
         with_reducible rfl
        rotate_left
        ·simp only [Act.put, List.setIfInBounds_toArray, List.set_cons_zero, List.set_cons_succ, i64_w, i32_w]
         rfl
        refine take_ (i := 9) (N := some 26) (v := ?_) (a' := ?_) #[true, true, true, true, false, true, true, true, true, true, false] rfl rfl (take_ofW HT_.out HW_.out (by kernel_rfl)) (fun _ _ _ h => h) (Or.inl ⟨by rfl, ?_⟩) hHeld ?_ ?_
        rotate_left
        ·rintro w' ⟨s0, s1⟩
         go_simp
         with_reducible rfl
        rotate_left
        ·simp only [Act.put, List.setIfInBounds_toArray, List.set_cons_zero, List.set_cons_succ, i64_w, i32_w]
         rfl
        refine one_ (i := 4) (N := some 21) #[true, true, true, true, true, true, true, true, true, true, false] rfl rfl (one_of HT_.out (by kernel_rfl)) (by decide) (fun K hK => ?_)
        refine goes_ Tryd.func14 (by kernel_rfl) rfl #[.string (rdOf ByteArray.empty y254 x2_1), .bool false] (by rfl) rfl rfl (by (try simp only [List.map_toArray, List.map_cons, List.map_nil]); first | done | rfl | (simp only [List.length_drop, List.length_take]; rfl)) ?_
        with_reducible refine (charref_Decode.calls k1 (rdOf ByteArray.empty y254 x2_1) false t258 _ A5.out (by exact HT.out.below (mvB HB))).mono ?_
        rintro e w12 ⟨rfl, hb⟩
        have HS0_ := (hb.cell (World.block_lt_of_cell? _ _ (hHeld.1))).trans (hHeld.1)
        have HS1_ := (hb.cell (World.block_lt_of_cell? _ _ (hHeld.2))).trans (hHeld.2)
        refine ⟨_, rfl, ?_⟩
        have n0_ := Aside0.mk (Kd.R_below (mvR HO_1) hb)
        have n1_ := Aside0.mk (below_step (mvB HB) hb)
        clear HO_1
        clear HB
        have HO_1 := n0_
        have HB := n1_
        clear n0_ n1_
        (try clear hb)
        (try clear hb2)
        (try clear hk)
        (try clear hi)
        refine hK.out _ _ ⟨HS0_, HS1_⟩ (fun hHeld => ?_)
        clear hK K
        refine norm_ (a' := ?_) ?_ ?_
        rotate_left
        ·show Act.put _ (some 21) _ = _
         simp only [Act.put, List.setIfInBounds_toArray, List.set_cons_zero, List.set_cons_succ, i64_w, i32_w]
         rfl
        refine pure_ (i := 10) (N := some 27) (v := ?_) (a' := ?_) #[true, true, true, true, true, true, true, true, true, true, true] rfl rfl (any_of HT_.out (by kernel_rfl)) (fun _ _ _ h => h) (Or.inl ⟨by rfl, ?_⟩) ?_ ?_
        rotate_left
        ·intro w'
         go_simp
         with_reducible rfl
        rotate_left
        ·simp only [Act.put, List.setIfInBounds_toArray, List.set_cons_zero, List.set_cons_succ, i64_w, i32_w]
         rfl
        refine done_ (done_of HT_.out (by kernel_rfl)) ?_
        try go_wp2
        go_roundg k1
        case measure => have := HK1.out; omega
        case rel => exact ⟨(wrap64 (x2_1 + 2)), (by first | rfl | (simp; done) | (simp [*]; done)), H', ⟨by have := HK1.out; omega⟩, ⟨mvR HO_1⟩, ⟨mvB HB⟩⟩
       ·rw [if_neg c9] at H
        have c9b0 : (t258.toList == (rdOf ByteArray.empty y254 (ji6)).toList) = false := beq_eq_false_iff_ne.mpr c9
        have c9b1 : (t258.toList != (rdOf ByteArray.empty y254 (ji6)).toList) = true := bne_iff_ne.mpr c9
        obtain rfl := Option.some.inj H
        obtain ⟨Ao13, co13, eo13⟩ := Kd.R_slice HO_1.out
        subst eo13
        try go_wp2
        have n0_ := Aside0.mk (Kd.R_drew HO_1.out)
        have n1_ := Aside0.mk (below_drew1 HB.out)
        clear HO_1
        clear HB
        have HO_1 := n0_
        have HB := n1_
        clear n0_ n1_
        have p257 := dT (0 ≤ (x2_1 : Int))
        have q257 := dT (x2_1 < (y254.length : Int))
        obtain ⟨ad257, e257, hx257_0⟩ := Kd.at_string (Kd.R_reads' HO_1.out).2.2 x2_1 p257 q257
        cases e257
        replace p257 := eq_true p257
        replace q257 := eq_true q257
        have p259 := dT (0 ≤ ((ji6) : Int))
        have q259 := dT ((ji6) < (y254.length : Int))
        obtain ⟨ad259, e259, hx259_0⟩ := Kd.at_string (Kd.R_reads' HO_1.out).2.2 (ji6) p259 q259
        obtain rfl : ad257 = ad259 := (by injection e259)
        replace p259 := eq_true p259
        replace q259 := eq_true q259
        refine start_ (n := 11) (S := fun w' => w'.cell? (ad257.add (x2_1).toNat) = some (.string (rdOf ByteArray.empty y254 x2_1)) ∧ w'.cell? (ad257.add ((ji6)).toNat) = some (.string (rdOf ByteArray.empty y254 (ji6)))) (ds := []) #[false, false, false, false, false, false, false, false, false, false, false] (by kernel_rfl) rfl rfl ⟨hx257_0, hx259_0⟩ (fun hHeld => ?_); refine with_tabW selvedgelaw03_CharrefKnown.tab5 selvedgelaw03_CharrefKnown.bits5 (fun HT_ HW_ => ?_)
        generalize wr.drew = w14 at HO_1 HB hx257_0 hx259_0 hHeld ⊢
        refine pure_ (i := 0) (N := some 17) (v := ?_) (a' := ?_) #[true, false, false, false, false, false, false, false, false, false, false] rfl rfl (any_of HT_.out (by kernel_rfl)) (fun _ _ _ h => h) (Or.inl ⟨by rfl, ?_⟩) ?_ ?_
        rotate_left
        ·intro w'
         go_simp
         with_reducible rfl
        rotate_left
        ·simp only [Act.put, List.setIfInBounds_toArray, List.set_cons_zero, List.set_cons_succ, i64_w, i32_w]
         rfl
        refine pure_ (i := 1) (N := some 18) (v := ?_) (a' := ?_) #[true, true, false, false, false, false, false, false, false, false, false] rfl rfl (any_of HT_.out (by kernel_rfl)) (fun _ _ _ h => h) (Or.inl ⟨by rfl, ?_⟩) ?_ ?_
        rotate_left
        ·intro w'
         go_simp
         with_reducible rfl
        rotate_left
        ·simp only [Act.put, List.setIfInBounds_toArray, List.set_cons_zero, List.set_cons_succ, i64_w, i32_w]
         rfl
        refine pure_ (i := 2) (N := some 19) (v := ?_) (a' := ?_) #[true, true, true, false, false, false, false, false, false, false, false] rfl rfl (any_of HT_.out (by kernel_rfl)) (fun _ _ _ h => h) (Or.inl ⟨by rfl, ?_⟩) ?_ ?_
        rotate_left
        ·intro w'
         go_simp
         with_reducible rfl
        rotate_left
        ·simp only [Act.put, List.setIfInBounds_toArray, List.set_cons_zero, List.set_cons_succ, i64_w, i32_w]
         rfl
        refine pure_ (i := 5) (N := some 22) (v := ?_) (a' := ?_) #[true, true, true, false, false, true, false, false, false, false, false] rfl rfl (any_of HT_.out (by kernel_rfl)) (fun _ _ _ h => h) (Or.inl ⟨by rfl, ?_⟩) ?_ ?_
        rotate_left
        ·intro w'
         go_simp
         with_reducible rfl
        rotate_left
        ·simp only [Act.put, List.setIfInBounds_toArray, List.set_cons_zero, List.set_cons_succ, i64_w, i32_w]
         rfl
        refine pure_ (i := 6) (N := some 23) (v := ?_) (a' := ?_) #[true, true, true, false, false, true, true, false, false, false, false] rfl rfl (any_of HT_.out (by kernel_rfl)) (fun _ _ _ h => h) (Or.inl ⟨by rfl, ?_⟩) ?_ ?_
        rotate_left
        ·intro w'
         go_simp
         with_reducible rfl
        rotate_left
        ·simp only [Act.put, List.setIfInBounds_toArray, List.set_cons_zero, List.set_cons_succ, i64_w, i32_w]
         rfl
        refine pure_ (i := 7) (N := some 24) (v := ?_) (a' := ?_) #[true, true, true, false, false, true, true, true, false, false, false] rfl rfl (any_of HT_.out (by kernel_rfl)) (fun _ _ _ h => h) (Or.inl ⟨by rfl, ?_⟩) ?_ ?_
        rotate_left
        ·intro w'
         go_simp
         with_reducible rfl
        rotate_left
        ·simp only [Act.put, List.setIfInBounds_toArray, List.set_cons_zero, List.set_cons_succ, i64_w, i32_w]
         rfl
        refine pure_ (i := 8) (N := some 25) (v := ?_) (a' := ?_) #[true, true, true, false, false, true, true, true, true, false, false] rfl rfl (any_of HT_.out (by kernel_rfl)) (fun _ _ _ h => h) (Or.inl ⟨by rfl, ?_⟩) ?_ ?_
        rotate_left
        ·intro w'
         go_simp
         with_reducible rfl
        rotate_left
        ·simp only [Act.put, List.setIfInBounds_toArray, List.set_cons_zero, List.set_cons_succ, i64_w, i32_w]
         rfl
        refine take_ (i := 3) (N := some 20) (v := ?_) (a' := ?_) #[true, true, true, true, false, true, true, true, true, false, false] rfl rfl (take_ofW HT_.out HW_.out (by kernel_rfl)) (fun _ _ _ h => h) (Or.inl ⟨by rfl, ?_⟩) hHeld ?_ ?_
        rotate_left
        ·rintro w' ⟨s0, s1⟩
         go_simp
         with_reducible rfl
        rotate_left
        ·simp only [Act.put, List.setIfInBounds_toArray, List.set_cons_zero, List.set_cons_succ, i64_w, i32_w]
         rfl
        refine take_ (i := 9) (N := some 26) (v := ?_) (a' := ?_) #[true, true, true, true, false, true, true, true, true, true, false] rfl rfl (take_ofW HT_.out HW_.out (by kernel_rfl)) (fun _ _ _ h => h) (Or.inl ⟨by rfl, ?_⟩) hHeld ?_ ?_
        rotate_left
        ·rintro w' ⟨s0, s1⟩
         go_simp
         with_reducible rfl
        rotate_left
        ·simp only [Act.put, List.setIfInBounds_toArray, List.set_cons_zero, List.set_cons_succ, i64_w, i32_w]
         rfl
        refine one_ (i := 4) (N := some 21) #[true, true, true, true, true, true, true, true, true, true, false] rfl rfl (one_of HT_.out (by kernel_rfl)) (by decide) (fun K hK => ?_)
        refine goes_ Tryd.func14 (by kernel_rfl) rfl #[.string (rdOf ByteArray.empty y254 x2_1), .bool false] (by rfl) rfl rfl (by (try simp only [List.map_toArray, List.map_cons, List.map_nil]); first | done | rfl | (simp only [List.length_drop, List.length_take]; rfl)) ?_
        with_reducible refine (charref_Decode.calls k1 (rdOf ByteArray.empty y254 x2_1) false t258 _ A5.out (by exact HT.out.below (mvB HB))).mono ?_
        rintro e w15 ⟨rfl, hb⟩
        have HS0_ := (hb.cell (World.block_lt_of_cell? _ _ (hHeld.1))).trans (hHeld.1)
        have HS1_ := (hb.cell (World.block_lt_of_cell? _ _ (hHeld.2))).trans (hHeld.2)
        refine ⟨_, rfl, ?_⟩
        have n0_ := Aside0.mk (Kd.R_below (mvR HO_1) hb)
        have n1_ := Aside0.mk (below_step (mvB HB) hb)
        clear HO_1
        clear HB
        have HO_1 := n0_
        have HB := n1_
        clear n0_ n1_
        (try clear hb)
        (try clear hb2)
        (try clear hk)
        (try clear hi)
        refine hK.out _ _ ⟨HS0_, HS1_⟩ (fun hHeld => ?_)
        clear hK K
        refine norm_ (a' := ?_) ?_ ?_
        rotate_left
        ·show Act.put _ (some 21) _ = _
         simp only [Act.put, List.setIfInBounds_toArray, List.set_cons_zero, List.set_cons_succ, i64_w, i32_w]
         rfl
        refine pure_ (i := 10) (N := some 27) (v := ?_) (a' := ?_) #[true, true, true, true, true, true, true, true, true, true, true] rfl rfl (any_of HT_.out (by kernel_rfl)) (fun _ _ _ h => h) (Or.inl ⟨by rfl, ?_⟩) ?_ ?_
        rotate_left
        ·intro w'
         go_simp
         with_reducible rfl
        rotate_left
        ·simp only [Act.put, List.setIfInBounds_toArray, List.set_cons_zero, List.set_cons_succ, i64_w, i32_w]
         rfl
        refine done_ (done_of HT_.out (by kernel_rfl)) ?_
        try go_wp2
        go_ret
        exact ⟨by first | rfl | (simp [errW_none, errW_some] <;> rfl) | (simp only [← hji6]; first | rfl | (simp [errW_none, errW_some] <;> rfl)) | (simp [*, errW_none, errW_some] <;> rfl), mvB HB⟩
      ·rw [if_neg c8] at H
       exact absurd H (by simp)
     ·rw [if_neg c7] at H
      exact absurd H (by simp)
    ·rw [if_neg c4] at H
     exact absurd H (by simp)
   ·rw [if_neg c3] at H
    have c3b0 : decide (x2_1 < (y254.length : Int)) = false := decide_eq_false c3
    clear c3
    replace H := Option.bind_eq_some_iff.mp H
    obtain ⟨t260, A160, H⟩ := H
    replace H : (selvedgelaw03_CharrefKnown.l1 k1 t260 0) = some r := H
    have A16 := Aside0.mk A160
    clear A160
    have H' := Aside0.mk H
    clear H
    obtain ⟨Ao17, co17, eo17⟩ := Kd.R_slice HO_1.out
    subst eo17
    go_wp2_with (first | ((with_reducible refine gate_callee (f := 11) rfl ?_); refine goesL_ (some 28) rfl rfl Tryd.func11 (by kernel_rfl) rfl #[] rfl (by (try simp only [List.map_toArray, List.map_cons, List.map_nil]); first | done | rfl | (simp only [List.length_drop, List.length_take]; rfl)) ?_; (with_reducible refine (selvedgeref03_Names.calls  t260 _ A16.out).mono ?_); rintro e w18 ⟨v261, rfl, ho0, hb⟩; refine ⟨_, rfl, ?_⟩; have n0_ := Aside0.mk (Kd.R_below (mvR HO_1) hb); have n1_ := Aside0.mk (Kd.R_lower ho0 (below_size (mvB HB))); have n2_ := Aside0.mk (below_step (mvB HB) hb); clear HO_1; clear HB; have HO_1 := n0_; have HO262 := n1_; have HB := n2_; clear n0_ n1_ n2_; (try clear hb); (try clear hb2); (try clear hk); (try clear hi); (try clear ho0)))
    go_loopg [4] k1 (fun kq v4 w' => ∃ (x4_2 : Int), v4 = .int .i64 x4_2 ∧ Aside0 (selvedgelaw03_CharrefKnown.l1 kq t260 x4_2 = some r) ∧ Aside0 (kq ≤ k1) ∧ Aside0 (Kd.R k26 26 w' w.heap.size (fun _ => True) v261 t260) ∧ Aside0 (Below w.heap.size w w'))
    case atStart => exact ⟨(0), (by first | rfl | (simp; done) | (simp [*]; done)), H', ⟨Nat.le_refl _⟩, ⟨mvR HO262⟩, ⟨mvB HB⟩⟩
    case round =>
     clear H'
     try clear c1
     try clear p2
     try clear q2
     try clear hx2
     try clear c3
     try clear c3b0
     try clear c4
     try clear c4b0
     try clear p6
     try clear c7
     try clear c7b0
     try clear c8
     try clear c8b0
     try clear c9
     try clear c9b0
     try clear c9b1
     try clear c11
     try clear c14
     try clear hx257_0
     try clear hx259_0
     try clear p2
     try clear p257
     try clear p259
     try clear q257
     try clear q259
     obtain ⟨x4_2, rfl, HA, HK2, HO_3, HB⟩ := hrel
     cases gk with
     | zero => exact absurd HA.out (by simp [selvedgelaw03_CharrefKnown.l1])
     | succ k2 =>
      have H := HA.out
      clear HA
      simp only [selvedgelaw03_CharrefKnown.l1] at H
      by_cases c19 : x4_2 < (t260.length : Int)
      ·rw [if_pos c19] at H
       have c19b0 : decide (x4_2 < (t260.length : Int)) = true := decide_eq_true c19
       clear c19
       by_cases c20 : 0 ≤ x4_2
       ·rw [if_pos c20] at H
        have c20b0 : decide (0 ≤ x4_2) = true := decide_eq_true c20
        clear c20
        by_cases c21 : 1 + ((rd_T26 t260 x4_2).f0).size ≤ 9223372036854775807
        ·rw [if_pos c21] at H
         have c21b0 := eq_true c21
         have c21b1 : decide (1 + ((rd_T26 t260 x4_2).f0).size ≤ 9223372036854775807) = true := decide_eq_true c21
         try have c21b2 : (9223372036854775807 < 1 + ((rd_T26 t260 x4_2).f0).size) = False := eq_false (Nat.not_lt.2 c21)
         obtain ⟨y264, hy264⟩ : ∃ y_ : List ByteArray, y_ = (([(⟨#[]⟩ : ByteArray), (⟨#[59]⟩ : ByteArray), (⟨#[61]⟩ : ByteArray), (⟨#[120]⟩ : ByteArray), (⟨#[32]⟩ : ByteArray), (⟨#[59, 59]⟩ : ByteArray), (⟨#[38]⟩ : ByteArray)] : List ByteArray)) := ⟨_, rfl⟩
         replace H : (selvedgelaw03_CharrefKnown.l2 k2 t260 x4_2 ((⟨#[38]⟩ : ByteArray) ++ ((rd_T26 t260 x4_2).f0)) y264 (y264.length : Int) 0) = some r := by first | (rw [hy264]; with_reducible exact H) | (have H2_ := (Option.bind_some _ _).symm.trans H; rw [hy264]; with_reducible exact H2_) | (have H2_ := (Option.bind_some _ _).symm.trans H; with_reducible exact H2_) | with_reducible exact H | (rw [hy264]; exact H) | exact H
         have Ny264 := Aside0.mk hy264
         clear hy264
         have H' := Aside0.mk H
         clear H
         obtain ⟨Ao22, co22, eo22⟩ := Kd.R_slice HO_3.out
         subst eo22
         have p263 := dT (0 ≤ (x4_2 : Int))
         have q263 := dT (x4_2 < (t260.length : Int))
         obtain ⟨ad263, e263, hx263_0, hx263_1, hx263_2⟩ := at_T26 (Kd.R_reads' HO_3.out).2.2 x4_2 p263 q263
         cases e263
         replace p263 := eq_true p263
         replace q263 := eq_true q263
         go_wp2_with (first | ((with_reducible refine gate_dst (N := 41) rfl ?_); refine Kd.R_lit Kd.string _ 9 ?hg (N := 41) ?hd (xs := ([(⟨#[]⟩ : ByteArray), (⟨#[59]⟩ : ByteArray), (⟨#[61]⟩ : ByteArray), (⟨#[120]⟩ : ByteArray), (⟨#[32]⟩ : ByteArray), (⟨#[59, 59]⟩ : ByteArray), (⟨#[38]⟩ : ByteArray)] : List ByteArray)) (inner := [.string (⟨#[]⟩ : ByteArray), .string (⟨#[59]⟩ : ByteArray), .string (⟨#[61]⟩ : ByteArray), .string (⟨#[120]⟩ : ByteArray), .string (⟨#[32]⟩ : ByteArray), .string (⟨#[59, 59]⟩ : ByteArray), .string (⟨#[38]⟩ : ByteArray)]) (ok := fun _ => True) (okp := fun _ => True) ?hr ?hp (fun _ hk => hk) trivial (Below.refl _ _) (Nat.le_refl _) (by simp) ?_; (case hd => rfl); (case hg => rfl); (case hr => first | (go_simp; done) | (go_simp; rfl)); (case hp => exact (Reps.one (show Kd.M Kd.string _ _ _ (⟨#[]⟩ : ByteArray) [.string (⟨#[]⟩ : ByteArray)] from rfl) (Reps.one (show Kd.M Kd.string _ _ _ (⟨#[59]⟩ : ByteArray) [.string (⟨#[59]⟩ : ByteArray)] from rfl) (Reps.one (show Kd.M Kd.string _ _ _ (⟨#[61]⟩ : ByteArray) [.string (⟨#[61]⟩ : ByteArray)] from rfl) (Reps.one (show Kd.M Kd.string _ _ _ (⟨#[120]⟩ : ByteArray) [.string (⟨#[120]⟩ : ByteArray)] from rfl) (Reps.one (show Kd.M Kd.string _ _ _ (⟨#[32]⟩ : ByteArray) [.string (⟨#[32]⟩ : ByteArray)] from rfl) (Reps.one (show Kd.M Kd.string _ _ _ (⟨#[59, 59]⟩ : ByteArray) [.string (⟨#[59, 59]⟩ : ByteArray)] from rfl) (Reps.one (show Kd.M Kd.string _ _ _ (⟨#[38]⟩ : ByteArray) [.string (⟨#[38]⟩ : ByteArray)] from rfl) (Reps.none _ _))))))))); intro v265 w23 ho24 hb hg_ hnew_; clear hg_ hnew_; (first | rw [← Ny264.out] at ho24 | (simp only [Int.reduceToNat] at ho24; rw [← Ny264.out] at ho24)); have n0_ := Aside0.mk (Kd.R_below (mvR HO_3) hb); have n1_ := Aside0.mk (Kd.R_lower ho24 (below_size (mvB HB))); have n2_ := Aside0.mk (below_step (mvB HB) hb); clear HO_3; clear HB; have HO_3 := n0_; have HO266 := n1_; have HB := n2_; clear n0_ n1_ n2_; clear hb ho24; obtain ⟨Ao25, co25, eo25⟩ := Kd.R_slice HO266.out; subst eo25))
         go_loopg [43] k2 (fun kq v43 w' => ∃ (x43_3 : Int), v43 = .int .i64 x43_3 ∧ Aside0 (selvedgelaw03_CharrefKnown.l2 kq t260 x4_2 ((⟨#[38]⟩ : ByteArray) ++ ((rd_T26 t260 x4_2).f0)) y264 (y264.length : Int) x43_3 = some r) ∧ Aside0 (kq ≤ k2) ∧ Aside0 (Kd.R k26 26 w' w.heap.size (fun _ => True) (.slice (some ad263) t260.length co22) t260) ∧ Aside0 (Kd.R Kd.string 9 w' w.heap.size (fun _ => True) (.slice Ao25 y264.length co25) y264) ∧ Aside0 (Below w.heap.size w w'))
         case atStart => exact ⟨(0), (by first | rfl | (simp; done) | (simp [*]; done)), H', ⟨Nat.le_refl _⟩, ⟨mvR HO_3⟩, ⟨mvR HO266⟩, ⟨mvB HB⟩⟩
         case round =>
          clear H'
          try clear c1
          try clear c2
          try clear p2
          try clear q2
          try clear hx2
          try clear c3
          try clear c3b0
          try clear c4
          try clear c4b0
          try clear p6
          try clear c7
          try clear c7b0
          try clear c8
          try clear c8b0
          try clear c9
          try clear c9b0
          try clear c9b1
          try clear c11
          try clear c14
          try clear c19
          try clear c19b0
          try clear c20
          try clear c20b0
          try clear c21
          try clear c21b0
          try clear c21b1
          try clear c21b2
          try clear p25
          try clear q25
          try clear hx25
          try clear hx257_0
          try clear hx259_0
          try clear hx263_0
          try clear hx263_1
          try clear hx263_2
          try clear p2
          try clear p257
          try clear p259
          try clear p263
          try clear p6
          try clear q2
          try clear q257
          try clear q259
          try clear q263
          obtain ⟨x43_3, rfl, HA, HK3, HO_3, HO_41, HB⟩ := hrel
          cases gk with
          | zero => exact absurd HA.out (by simp [selvedgelaw03_CharrefKnown.l2])
          | succ k3 =>
           have H := HA.out
           clear HA
           simp only [selvedgelaw03_CharrefKnown.l2] at H
           by_cases c26 : x43_3 < (y264.length : Int)
           ·rw [if_pos c26] at H
            have c26b0 : decide (x43_3 < (y264.length : Int)) = true := decide_eq_true c26
            clear c26
            by_cases c27 : 0 ≤ x43_3
            ·rw [if_pos c27] at H
             have c27b0 : decide (0 ≤ x43_3) = true := decide_eq_true c27
             clear c27
             by_cases c28 : x43_3 < (y264.length : Int)
             ·rw [if_pos c28] at H
              have c28b0 : decide (x43_3 < (y264.length : Int)) = true := decide_eq_true c28
              clear c28
              by_cases c29 : ((⟨#[38]⟩ : ByteArray) ++ ((rd_T26 t260 x4_2).f0)).size + (rdOf ByteArray.empty y264 x43_3).size ≤ 9223372036854775807
              ·rw [if_pos c29] at H
               have c29b0 := eq_true c29
               have c29b1 : decide (((⟨#[38]⟩ : ByteArray) ++ ((rd_T26 t260 x4_2).f0)).size + (rdOf ByteArray.empty y264 x43_3).size ≤ 9223372036854775807) = true := decide_eq_true c29
               try have c29b2 : (9223372036854775807 < ((⟨#[38]⟩ : ByteArray) ++ ((rd_T26 t260 x4_2).f0)).size + (rdOf ByteArray.empty y264 x43_3).size) = False := eq_false (Nat.not_lt.2 c29)
               try have c29b3 : (9223372036854775807 < 1 + ((rd_T26 t260 x4_2).f0).size + (rdOf ByteArray.empty y264 x43_3).size) = False := eq_false (by have z_ := c29; simp only [ByteArray.size_append, show (⟨#[38]⟩ : ByteArray).size = 1 from rfl] at z_; omega)
               replace H := Option.bind_eq_some_iff.mp H
               obtain ⟨t268, A300, H⟩ := H
               replace H : (if t268 = true then ((selvedgelaw03_CharrefFinds.f k3 (((⟨#[38]⟩ : ByteArray) ++ ((rd_T26 t260 x4_2).f0)) ++ (rdOf ByteArray.empty y264 x43_3)) ((x4_2) % 256) (rdOf ByteArray.empty y264 x43_3) false).bind fun t269 => (if t269 = true then (selvedgelaw03_CharrefKnown.l2 k3 t260 x4_2 ((⟨#[38]⟩ : ByteArray) ++ ((rd_T26 t260 x4_2).f0)) y264 (y264.length : Int) (wrap64 (x43_3 + 1))) else (some false))) else (some false)) = some r := H
               have A30 := Aside0.mk A300
               clear A300
               by_cases c31 : t268 = true
               ·subst c31
                have H1 : ((selvedgelaw03_CharrefFinds.f k3 (((⟨#[38]⟩ : ByteArray) ++ ((rd_T26 t260 x4_2).f0)) ++ (rdOf ByteArray.empty y264 x43_3)) ((x4_2) % 256) (rdOf ByteArray.empty y264 x43_3) false).bind fun t269 => (if t269 = true then (selvedgelaw03_CharrefKnown.l2 k3 t260 x4_2 ((⟨#[38]⟩ : ByteArray) ++ ((rd_T26 t260 x4_2).f0)) y264 (y264.length : Int) (wrap64 (x43_3 + 1))) else (some false))) = some r := by rw [if_pos rfl] at H; exact H
                clear H
                have H := H1
                clear H1
                replace H := Option.bind_eq_some_iff.mp H
                obtain ⟨t269, A320, H⟩ := H
                replace H : (if t269 = true then (selvedgelaw03_CharrefKnown.l2 k3 t260 x4_2 ((⟨#[38]⟩ : ByteArray) ++ ((rd_T26 t260 x4_2).f0)) y264 (y264.length : Int) (wrap64 (x43_3 + 1))) else (some false)) = some r := H
                have A32 := Aside0.mk A320
                clear A320
                by_cases c33 : t269 = true
                ·subst c33
                 have H1 : (selvedgelaw03_CharrefKnown.l2 k3 t260 x4_2 ((⟨#[38]⟩ : ByteArray) ++ ((rd_T26 t260 x4_2).f0)) y264 (y264.length : Int) (wrap64 (x43_3 + 1))) = some r := by rw [if_pos rfl] at H; exact H
                 clear H
                 have H := H1
                 clear H1
                 have H' := Aside0.mk H
                 clear H
                 have p267 := dT (0 ≤ (x43_3 : Int))
                 have q267 := dT (x43_3 < (y264.length : Int))
                 obtain ⟨ad267, e267, hx267_0⟩ := Kd.at_string (Kd.R_reads' HO_41.out).2.2 x43_3 p267 q267
                 cases e267
                 replace p267 := eq_true p267
                 replace q267 := eq_true q267
                 go_wp2_with (first | ((with_reducible refine gate_callee (f := 3) rfl ?_); refine goesL_ (some 53) rfl rfl Tryd.func3 (by kernel_rfl) rfl #[.string (((⟨#[38]⟩ : ByteArray) ++ ((rd_T26 t260 x4_2).f0)) ++ (rdOf ByteArray.empty y264 x43_3)), .int .u8 ((x4_2) % 256), .string (rdOf ByteArray.empty y264 x43_3), .bool true] rfl (by (try simp only [List.map_toArray, List.map_cons, List.map_nil]); first | done | rfl | (simp only [List.length_drop, List.length_take]; rfl)) ?_; (with_reducible refine (selvedgelaw03_CharrefFinds.calls k3 (((⟨#[38]⟩ : ByteArray) ++ ((rd_T26 t260 x4_2).f0)) ++ (rdOf ByteArray.empty y264 x43_3)) ((x4_2) % 256) (rdOf ByteArray.empty y264 x43_3) true true _ A30.out (by exact HT.out.below (mvB HB))).mono ?_); rintro e w34 ⟨rfl, hb⟩; refine ⟨_, rfl, ?_⟩; have n0_ := Aside0.mk (Kd.R_below (mvR HO_3) hb); have n1_ := Aside0.mk (Kd.R_below (mvR HO_41) hb); have n2_ := Aside0.mk (below_step (mvB HB) hb); clear HO_3; clear HO_41; clear HB; have HO_3 := n0_; have HO_41 := n1_; have HB := n2_; clear n0_ n1_ n2_; (try clear hb); (try clear hb2); (try clear hk); (try clear hi)) | (go_at_call 3; (with_reducible refine (selvedgelaw03_CharrefFinds.calls k3 (((⟨#[38]⟩ : ByteArray) ++ ((rd_T26 t260 x4_2).f0)) ++ (rdOf ByteArray.empty y264 x43_3)) ((x4_2) % 256) (rdOf ByteArray.empty y264 x43_3) false true _ A32.out (by exact HT.out.below (mvB HB))).mono ?_); rintro e w35 ⟨rfl, hb⟩; have n0_ := Aside0.mk (Kd.R_below (mvR HO_3) hb); have n1_ := Aside0.mk (Kd.R_below (mvR HO_41) hb); have n2_ := Aside0.mk (below_step (mvB HB) hb); clear HO_3; clear HO_41; clear HB; have HO_3 := n0_; have HO_41 := n1_; have HB := n2_; clear n0_ n1_ n2_; (try clear hb); (try clear hb2); (try clear hk); (try clear hi)))
                 go_roundg k3
                 case measure => have := HK1.out; have := HK2.out; have := HK3.out; omega
                 case rel => exact ⟨(wrap64 (x43_3 + 1)), (by first | rfl | (simp; done) | (simp [*]; done)), H', ⟨by have := HK1.out; have := HK2.out; have := HK3.out; omega⟩, ⟨mvR HO_3⟩, ⟨mvR HO_41⟩, ⟨mvB HB⟩⟩
                ·replace c33 := Bool.eq_false_iff.mpr c33
                 subst c33
                 have H1 : (some false) = some r := by rw [if_neg (show ¬ (false = true) by decide)] at H; exact H
                 clear H
                 have H := H1
                 clear H1
                 obtain rfl := Option.some.inj H
                 have p267 := dT (0 ≤ (x43_3 : Int))
                 have q267 := dT (x43_3 < (y264.length : Int))
                 obtain ⟨ad267, e267, hx267_0⟩ := Kd.at_string (Kd.R_reads' HO_41.out).2.2 x43_3 p267 q267
                 cases e267
                 replace p267 := eq_true p267
                 replace q267 := eq_true q267
                 go_wp2_with (first | ((with_reducible refine gate_callee (f := 3) rfl ?_); refine goesL_ (some 53) rfl rfl Tryd.func3 (by kernel_rfl) rfl #[.string (((⟨#[38]⟩ : ByteArray) ++ ((rd_T26 t260 x4_2).f0)) ++ (rdOf ByteArray.empty y264 x43_3)), .int .u8 ((x4_2) % 256), .string (rdOf ByteArray.empty y264 x43_3), .bool true] rfl (by (try simp only [List.map_toArray, List.map_cons, List.map_nil]); first | done | rfl | (simp only [List.length_drop, List.length_take]; rfl)) ?_; (with_reducible refine (selvedgelaw03_CharrefFinds.calls k3 (((⟨#[38]⟩ : ByteArray) ++ ((rd_T26 t260 x4_2).f0)) ++ (rdOf ByteArray.empty y264 x43_3)) ((x4_2) % 256) (rdOf ByteArray.empty y264 x43_3) true true _ A30.out (by exact HT.out.below (mvB HB))).mono ?_); rintro e w36 ⟨rfl, hb⟩; refine ⟨_, rfl, ?_⟩; have n0_ := Aside0.mk (Kd.R_below (mvR HO_3) hb); have n1_ := Aside0.mk (Kd.R_below (mvR HO_41) hb); have n2_ := Aside0.mk (below_step (mvB HB) hb); clear HO_3; clear HO_41; clear HB; have HO_3 := n0_; have HO_41 := n1_; have HB := n2_; clear n0_ n1_ n2_; (try clear hb); (try clear hb2); (try clear hk); (try clear hi)) | (go_at_call 3; (with_reducible refine (selvedgelaw03_CharrefFinds.calls k3 (((⟨#[38]⟩ : ByteArray) ++ ((rd_T26 t260 x4_2).f0)) ++ (rdOf ByteArray.empty y264 x43_3)) ((x4_2) % 256) (rdOf ByteArray.empty y264 x43_3) false false _ A32.out (by exact HT.out.below (mvB HB))).mono ?_); rintro e w37 ⟨rfl, hb⟩; have n0_ := Aside0.mk (Kd.R_below (mvR HO_3) hb); have n1_ := Aside0.mk (Kd.R_below (mvR HO_41) hb); have n2_ := Aside0.mk (below_step (mvB HB) hb); clear HO_3; clear HO_41; clear HB; have HO_3 := n0_; have HO_41 := n1_; have HB := n2_; clear n0_ n1_ n2_; (try clear hb); (try clear hb2); (try clear hk); (try clear hi)))
                 go_ret
                 exact ⟨by first | rfl | (simp [errW_none, errW_some] <;> rfl) | (simp [*, errW_none, errW_some] <;> rfl), mvB HB⟩
               ·replace c31 := Bool.eq_false_iff.mpr c31
                subst c31
                have H1 : (some false) = some r := by rw [if_neg (show ¬ (false = true) by decide)] at H; exact H
                clear H
                have H := H1
                clear H1
                obtain rfl := Option.some.inj H
                have p267 := dT (0 ≤ (x43_3 : Int))
                have q267 := dT (x43_3 < (y264.length : Int))
                obtain ⟨ad267, e267, hx267_0⟩ := Kd.at_string (Kd.R_reads' HO_41.out).2.2 x43_3 p267 q267
                cases e267
                replace p267 := eq_true p267
                replace q267 := eq_true q267
                go_wp2_with (first | ((with_reducible refine gate_callee (f := 3) rfl ?_); refine goesL_ (some 53) rfl rfl Tryd.func3 (by kernel_rfl) rfl #[.string (((⟨#[38]⟩ : ByteArray) ++ ((rd_T26 t260 x4_2).f0)) ++ (rdOf ByteArray.empty y264 x43_3)), .int .u8 ((x4_2) % 256), .string (rdOf ByteArray.empty y264 x43_3), .bool true] rfl (by (try simp only [List.map_toArray, List.map_cons, List.map_nil]); first | done | rfl | (simp only [List.length_drop, List.length_take]; rfl)) ?_; (with_reducible refine (selvedgelaw03_CharrefFinds.calls k3 (((⟨#[38]⟩ : ByteArray) ++ ((rd_T26 t260 x4_2).f0)) ++ (rdOf ByteArray.empty y264 x43_3)) ((x4_2) % 256) (rdOf ByteArray.empty y264 x43_3) true false _ A30.out (by exact HT.out.below (mvB HB))).mono ?_); rintro e w38 ⟨rfl, hb⟩; refine ⟨_, rfl, ?_⟩; have n0_ := Aside0.mk (Kd.R_below (mvR HO_3) hb); have n1_ := Aside0.mk (Kd.R_below (mvR HO_41) hb); have n2_ := Aside0.mk (below_step (mvB HB) hb); clear HO_3; clear HO_41; clear HB; have HO_3 := n0_; have HO_41 := n1_; have HB := n2_; clear n0_ n1_ n2_; (try clear hb); (try clear hb2); (try clear hk); (try clear hi)))
                go_ret
                exact ⟨by first | rfl | (simp [errW_none, errW_some] <;> rfl) | (simp [*, errW_none, errW_some] <;> rfl), mvB HB⟩
              ·rw [if_neg c29] at H
               exact absurd H (by simp)
             ·rw [if_neg c28] at H
              exact absurd H (by simp)
            ·rw [if_neg c27] at H
             exact absurd H (by simp)
           ·rw [if_neg c26] at H
            have c26b0 : decide (x43_3 < (y264.length : Int)) = false := decide_eq_false c26
            clear c26
            by_cases c39 : 0 ≤ x4_2
            ·rw [if_pos c39] at H
             have c39b0 : decide (0 ≤ x4_2) = true := decide_eq_true c39
             clear c39
             by_cases c40 : x4_2 < (t260.length : Int)
             ·rw [if_pos c40] at H
              have c40b0 : decide (x4_2 < (t260.length : Int)) = true := decide_eq_true c40
              clear c40
              obtain ⟨y271, hy271⟩ : ∃ y_ : List Int, y_ = (([(rd_T26 t260 x4_2).f1] : List Int)) := ⟨_, rfl⟩
              replace H : ((selvedgeref02_String.f k3 y271).bind fun t274 => (if ((⟨#[38]⟩ : ByteArray) ++ ((rd_T26 t260 x4_2).f0)).size + 1 ≤ 9223372036854775807 then ((charref_Decode.f k3 (((⟨#[38]⟩ : ByteArray) ++ ((rd_T26 t260 x4_2).f0)) ++ (⟨#[59]⟩ : ByteArray)) true).bind fun t275 => (if t275.toList = t274.toList then ((charref_Decode.f k3 ((⟨#[38]⟩ : ByteArray) ++ ((rd_T26 t260 x4_2).f0)) false).bind fun t276 => (if ((t276.toList == t274.toList) != ((rd_T26 t260 x4_2).f2)) = true then (if ((rd_T26 t260 x4_2).f0).toList = ([110, 111, 116, 105, 110] : List UInt8) then (selvedgelaw03_CharrefKnown.l1 k3 t260 (wrap64 (x4_2 + 1))) else (if ((rd_T26 t260 x4_2).f0).toList = ([105, 110] : List UInt8) then (selvedgelaw03_CharrefKnown.l1 k3 t260 (wrap64 (x4_2 + 1))) else (some false))) else (selvedgelaw03_CharrefKnown.l1 k3 t260 (wrap64 (x4_2 + 1))))) else (some false))) else (none))) = some r := by first | (rw [hy271]; with_reducible exact H) | (have H2_ := (Option.bind_some _ _).symm.trans H; rw [hy271]; with_reducible exact H2_) | (have H2_ := (Option.bind_some _ _).symm.trans H; with_reducible exact H2_) | with_reducible exact H | (rw [hy271]; exact H) | exact H
              have Ny271 := Aside0.mk hy271
              clear hy271
              replace H := Option.bind_eq_some_iff.mp H
              obtain ⟨t274, A410, H⟩ := H
              replace H : (if ((⟨#[38]⟩ : ByteArray) ++ ((rd_T26 t260 x4_2).f0)).size + 1 ≤ 9223372036854775807 then ((charref_Decode.f k3 (((⟨#[38]⟩ : ByteArray) ++ ((rd_T26 t260 x4_2).f0)) ++ (⟨#[59]⟩ : ByteArray)) true).bind fun t275 => (if t275.toList = t274.toList then ((charref_Decode.f k3 ((⟨#[38]⟩ : ByteArray) ++ ((rd_T26 t260 x4_2).f0)) false).bind fun t276 => (if ((t276.toList == t274.toList) != ((rd_T26 t260 x4_2).f2)) = true then (if ((rd_T26 t260 x4_2).f0).toList = ([110, 111, 116, 105, 110] : List UInt8) then (selvedgelaw03_CharrefKnown.l1 k3 t260 (wrap64 (x4_2 + 1))) else (if ((rd_T26 t260 x4_2).f0).toList = ([105, 110] : List UInt8) then (selvedgelaw03_CharrefKnown.l1 k3 t260 (wrap64 (x4_2 + 1))) else (some false))) else (selvedgelaw03_CharrefKnown.l1 k3 t260 (wrap64 (x4_2 + 1))))) else (some false))) else (none)) = some r := H
              have A41 := Aside0.mk A410
              clear A410
              by_cases c42 : ((⟨#[38]⟩ : ByteArray) ++ ((rd_T26 t260 x4_2).f0)).size + 1 ≤ 9223372036854775807
              ·rw [if_pos c42] at H
               have c42b0 := eq_true c42
               have c42b1 : decide (((⟨#[38]⟩ : ByteArray) ++ ((rd_T26 t260 x4_2).f0)).size + 1 ≤ 9223372036854775807) = true := decide_eq_true c42
               try have c42b2 : (9223372036854775807 < ((⟨#[38]⟩ : ByteArray) ++ ((rd_T26 t260 x4_2).f0)).size + 1) = False := eq_false (Nat.not_lt.2 c42)
               try have c42b3 : (9223372036854775807 < 1 + ((rd_T26 t260 x4_2).f0).size + 1) = False := eq_false (by have z_ := c42; simp only [ByteArray.size_append, show (⟨#[38]⟩ : ByteArray).size = 1 from rfl] at z_; omega)
               replace H := Option.bind_eq_some_iff.mp H
               obtain ⟨t275, A430, H⟩ := H
               replace H : (if t275.toList = t274.toList then ((charref_Decode.f k3 ((⟨#[38]⟩ : ByteArray) ++ ((rd_T26 t260 x4_2).f0)) false).bind fun t276 => (if ((t276.toList == t274.toList) != ((rd_T26 t260 x4_2).f2)) = true then (if ((rd_T26 t260 x4_2).f0).toList = ([110, 111, 116, 105, 110] : List UInt8) then (selvedgelaw03_CharrefKnown.l1 k3 t260 (wrap64 (x4_2 + 1))) else (if ((rd_T26 t260 x4_2).f0).toList = ([105, 110] : List UInt8) then (selvedgelaw03_CharrefKnown.l1 k3 t260 (wrap64 (x4_2 + 1))) else (some false))) else (selvedgelaw03_CharrefKnown.l1 k3 t260 (wrap64 (x4_2 + 1))))) else (some false)) = some r := H
               have A43 := Aside0.mk A430
               clear A430
               by_cases c44 : t275.toList = t274.toList
               ·rw [if_pos c44] at H
                have c44b0 : (t275.toList == t274.toList) = true := beq_iff_eq.mpr c44
                have c44b1 : (t275.toList != t274.toList) = false := bne_eq_false_iff_eq.mpr c44
                clear c44
                replace H := Option.bind_eq_some_iff.mp H
                obtain ⟨t276, A450, H⟩ := H
                replace H : (if ((t276.toList == t274.toList) != ((rd_T26 t260 x4_2).f2)) = true then (if ((rd_T26 t260 x4_2).f0).toList = ([110, 111, 116, 105, 110] : List UInt8) then (selvedgelaw03_CharrefKnown.l1 k3 t260 (wrap64 (x4_2 + 1))) else (if ((rd_T26 t260 x4_2).f0).toList = ([105, 110] : List UInt8) then (selvedgelaw03_CharrefKnown.l1 k3 t260 (wrap64 (x4_2 + 1))) else (some false))) else (selvedgelaw03_CharrefKnown.l1 k3 t260 (wrap64 (x4_2 + 1)))) = some r := H
                have A45 := Aside0.mk A450
                clear A450
                by_cases c46 : ((t276.toList == t274.toList) != ((rd_T26 t260 x4_2).f2)) = true
                ·rw [if_pos c46] at H
                 have c46b0 : ((t276.toList == t274.toList) != ((rd_T26 t260 x4_2).f2)) = true := c46
                 (try (have c46b1 : decide ((t276.toList == t274.toList) = ((rd_T26 t260 x4_2).f2)) = false := by simpa using c46))
                 (try (have c46b2 : ((t276.toList == t274.toList) == ((rd_T26 t260 x4_2).f2)) = false := by simpa using c46))
                 (try (have c46b3 : ¬ ((t276.toList == t274.toList) = ((rd_T26 t260 x4_2).f2)) := by simpa using c46))
                 clear c46
                 by_cases c47 : ((rd_T26 t260 x4_2).f0).toList = ([110, 111, 116, 105, 110] : List UInt8)
                 ·rw [if_pos c47] at H
                  have c47b0 : (((rd_T26 t260 x4_2).f0).toList == ([110, 111, 116, 105, 110] : List UInt8)) = true := beq_iff_eq.mpr c47
                  have c47b1 : (((rd_T26 t260 x4_2).f0).toList != ([110, 111, 116, 105, 110] : List UInt8)) = false := bne_eq_false_iff_eq.mpr c47
                  clear c47
                  have H' := Aside0.mk H
                  clear H
                  have p270 := dT (0 ≤ (x4_2 : Int))
                  have q270 := dT (x4_2 < (t260.length : Int))
                  obtain ⟨ad270, e270, hx270_0, hx270_1, hx270_2⟩ := at_T26 (Kd.R_reads' HO_3.out).2.2 x4_2 p270 q270
                  obtain rfl : ad263 = ad270 := (by injection e270)
                  replace p270 := eq_true p270
                  replace q270 := eq_true q270
                  try go_wp2_with (first | ((with_reducible refine gate_dst (N := 71) rfl ?_); refine Kd.R_lit (Kd.int .i32) _ 21 ?hg (N := 71) ?hd (xs := ([(rd_T26 t260 x4_2).f1] : List Int)) (inner := [.int .i32 ((rd_T26 t260 x4_2).f1)]) (ok := fun _ => True) (okp := fun _ => True) ?hr ?hp (fun _ hk => hk) trivial (Below.refl _ _) (Nat.le_refl _) (by simp) ?_; (case hd => rfl); (case hg => rfl); (case hr => first | (go_simp; done) | (go_simp; rfl)); (case hp => exact (Reps.one (show Kd.M (Kd.int .i32) _ _ _ ((rd_T26 t260 x4_2).f1) [.int .i32 ((rd_T26 t260 x4_2).f1)] from rfl) (Reps.none _ _))); intro v272 w48 ho49 hb hg_ hnew_; clear hg_ hnew_; (first | rw [← Ny271.out] at ho49 | (simp only [Int.reduceToNat] at ho49; rw [← Ny271.out] at ho49)); have n0_ := Aside0.mk (Kd.R_below (mvR HO_3) hb); have n1_ := Aside0.mk (Kd.R_below (mvR HO_41) hb); have n2_ := Aside0.mk (Kd.R_lower ho49 (below_size (mvB HB))); have n3_ := Aside0.mk (below_step (mvB HB) hb); clear HO_3; clear HO_41; clear HB; have HO_3 := n0_; have HO_41 := n1_; have HO273 := n2_; have HB := n3_; clear n0_ n1_ n2_ n3_; clear hb ho49; obtain ⟨Ao50, co50, eo50⟩ := Kd.R_slice HO273.out; subst eo50) | ((with_reducible refine gate_callee (f := 16) rfl ?_); refine goesL_ (some 72) rfl rfl Tryd.func16 (by kernel_rfl) rfl #[.slice Ao50 y271.length co50] rfl (by (try simp only [List.map_toArray, List.map_cons, List.map_nil]); first | done | rfl | (simp only [List.length_drop, List.length_take]; rfl)) ?_; (with_reducible refine (selvedgeref02_String.calls k3 _ _ y271 t274 _ ?side1 ?side2 A41.out).mono ?_); (case side1 => repeat (first | exact (Kd.R_reads' HO273.out).2.2 | (with_reducible refine Kd.C_alloc ?_ _) | (with_reducible refine Kd.C_drewN ?_ _) | (with_reducible refine Kd.C_drew ?_))); (case side2 => exact (Kd.R_reads' HO273.out).2.1); rintro e w51 ⟨rfl, hb⟩; refine ⟨_, rfl, ?_⟩; have n0_ := Aside0.mk (Kd.R_below (mvR HO_3) hb); have n1_ := Aside0.mk (Kd.R_below (mvR HO_41) hb); have n2_ := Aside0.mk (Kd.R_below (mvR HO273) hb); have n3_ := Aside0.mk (below_step (mvB HB) hb); clear HO_3; clear HO_41; clear HO273; clear HB; have HO_3 := n0_; have HO_41 := n1_; have HO273 := n2_; have HB := n3_; clear n0_ n1_ n2_ n3_; (try clear hb); (try clear hb2); (try clear hk); (try clear hi)))
                  have n0_ := Aside0.mk (Kd.R_drew HO_3.out)
                  have n1_ := Aside0.mk (Kd.R_drew HO_41.out)
                  have n2_ := Aside0.mk (Kd.R_drew HO273.out)
                  have n3_ := Aside0.mk (below_drew1 HB.out)
                  clear HO_3
                  clear HO_41
                  clear HO273
                  clear HB
                  have HO_3 := n0_
                  have HO_41 := n1_
                  have HO273 := n2_
                  have HB := n3_
                  clear n0_ n1_ n2_ n3_
                  have p277 := dT (0 ≤ (x4_2 : Int))
                  have q277 := dT (x4_2 < (t260.length : Int))
                  obtain ⟨ad277, e277, hx277_0, hx277_1, hx277_2⟩ := at_T26 (Kd.R_reads' HO_3.out).2.2 x4_2 p277 q277
                  obtain rfl : ad263 = ad277 := (by injection e277)
                  replace p277 := eq_true p277
                  replace q277 := eq_true q277
                  have p278 := dT (0 ≤ (x4_2 : Int))
                  have q278 := dT (x4_2 < (t260.length : Int))
                  obtain ⟨ad278, e278, hx278_0, hx278_1, hx278_2⟩ := at_T26 (Kd.R_reads' HO_3.out).2.2 x4_2 p278 q278
                  obtain rfl : ad263 = ad278 := (by injection e278)
                  replace p278 := eq_true p278
                  replace q278 := eq_true q278
                  refine start_ (n := 33) (S := fun w' => w'.cell? (ad263.add ((x4_2).toNat * 3)) = some (.string ((rd_T26 t260 x4_2).f0)) ∧ w'.cell? ⟨(ad263.add ((x4_2).toNat * 3)).block, (ad263.add ((x4_2).toNat * 3)).off + 1, none⟩ = some (.int .i32 ((rd_T26 t260 x4_2).f1)) ∧ w'.cell? ⟨(ad263.add ((x4_2).toNat * 3)).block, (ad263.add ((x4_2).toNat * 3)).off + 2, none⟩ = some (.bool ((rd_T26 t260 x4_2).f2)) ∧ w'.cell? (ad263.add ((x4_2).toNat * 3)) = some (.string ((rd_T26 t260 x4_2).f0)) ∧ w'.cell? ⟨(ad263.add ((x4_2).toNat * 3)).block, (ad263.add ((x4_2).toNat * 3)).off + 1, none⟩ = some (.int .i32 ((rd_T26 t260 x4_2).f1)) ∧ w'.cell? ⟨(ad263.add ((x4_2).toNat * 3)).block, (ad263.add ((x4_2).toNat * 3)).off + 2, none⟩ = some (.bool ((rd_T26 t260 x4_2).f2))) (ds := []) #[false, false, false, false, false, false, false, false, false, false, false, false, false, false, false, false, false, false, false, false, false, false, false, false, false, false, false, false, false, false, false, false, false] (by kernel_rfl) rfl rfl ⟨hx277_0, hx277_1, hx277_2, hx278_0, hx278_1, hx278_2⟩ (fun hHeld => ?_); refine with_tabW selvedgelaw03_CharrefKnown.tab19 selvedgelaw03_CharrefKnown.bits19 (fun HT_ HW_ => ?_)
                  generalize w51.drew = w52 at HO_3 HO_41 HO273 HB hx277_0 hx277_1 hx277_2 hx278_0 hx278_1 hx278_2 hHeld ⊢
                  refine pure_ (i := 0) (N := some 73) (v := ?_) (a' := ?_) #[true, false, false, false, false, false, false, false, false, false, false, false, false, false, false, false, false, false, false, false, false, false, false, false, false, false, false, false, false, false, false, false, false] rfl rfl (any_of HT_.out (by kernel_rfl)) (fun _ _ _ h => h) (Or.inl ⟨by rfl, ?_⟩) ?_ ?_
                  rotate_left
                  ·intro w'
                   go_simp
                   with_reducible rfl
                  rotate_left
                  ·simp only [Act.put, List.setIfInBounds_toArray, List.set_cons_zero, List.set_cons_succ, i64_w, i32_w]
                   rfl
                  refine pure_ (i := 1) (N := some 74) (v := ?_) (a' := ?_) #[true, true, false, false, false, false, false, false, false, false, false, false, false, false, false, false, false, false, false, false, false, false, false, false, false, false, false, false, false, false, false, false, false] rfl rfl (any_of HT_.out (by kernel_rfl)) (fun _ _ _ h => h) (Or.inl ⟨by rfl, ?_⟩) ?_ ?_
                  rotate_left
                  ·intro w'
                   go_simp
                   with_reducible rfl
                  rotate_left
                  ·simp only [Act.put, List.setIfInBounds_toArray, List.set_cons_zero, List.set_cons_succ, i64_w, i32_w]
                   rfl
                  refine pure_ (i := 3) (N := some 76) (v := ?_) (a' := ?_) #[true, true, false, true, false, false, false, false, false, false, false, false, false, false, false, false, false, false, false, false, false, false, false, false, false, false, false, false, false, false, false, false, false] rfl rfl (any_of HT_.out (by kernel_rfl)) (fun _ _ _ h => h) (Or.inl ⟨by rfl, ?_⟩) ?_ ?_
                  rotate_left
                  ·intro w'
                   go_simp
                   with_reducible rfl
                  rotate_left
                  ·simp only [Act.put, List.setIfInBounds_toArray, List.set_cons_zero, List.set_cons_succ, i64_w, i32_w]
                   rfl
                  refine one_ (i := 2) (N := some 75) #[true, true, true, true, false, false, false, false, false, false, false, false, false, false, false, false, false, false, false, false, false, false, false, false, false, false, false, false, false, false, false, false, false] rfl rfl (one_of HT_.out (by kernel_rfl)) (by decide) (fun K hK => ?_)
                  refine goes_ Tryd.func14 (by kernel_rfl) rfl #[.string (((⟨#[38]⟩ : ByteArray) ++ ((rd_T26 t260 x4_2).f0)) ++ (⟨#[59]⟩ : ByteArray)), .bool true] (by rfl) rfl rfl (by (try simp only [List.map_toArray, List.map_cons, List.map_nil]); first | done | rfl | (simp only [List.length_drop, List.length_take]; rfl)) ?_
                  with_reducible refine (charref_Decode.calls k3 (((⟨#[38]⟩ : ByteArray) ++ ((rd_T26 t260 x4_2).f0)) ++ (⟨#[59]⟩ : ByteArray)) true t275 _ A43.out (by exact HT.out.below (mvB HB))).mono ?_
                  rintro e w53 ⟨rfl, hb⟩
                  have HS0_ := (hb.cell (World.block_lt_of_cell? _ _ (hHeld.1))).trans (hHeld.1)
                  have HS1_ := (hb.cell (World.block_lt_of_cell? _ _ (hHeld.2.1))).trans (hHeld.2.1)
                  have HS2_ := (hb.cell (World.block_lt_of_cell? _ _ (hHeld.2.2.1))).trans (hHeld.2.2.1)
                  have HS3_ := (hb.cell (World.block_lt_of_cell? _ _ (hHeld.2.2.2.1))).trans (hHeld.2.2.2.1)
                  have HS4_ := (hb.cell (World.block_lt_of_cell? _ _ (hHeld.2.2.2.2.1))).trans (hHeld.2.2.2.2.1)
                  have HS5_ := (hb.cell (World.block_lt_of_cell? _ _ (hHeld.2.2.2.2.2))).trans (hHeld.2.2.2.2.2)
                  refine ⟨_, rfl, ?_⟩
                  have n0_ := Aside0.mk (Kd.R_below (mvR HO_3) hb)
                  have n1_ := Aside0.mk (Kd.R_below (mvR HO_41) hb)
                  have n2_ := Aside0.mk (Kd.R_below (mvR HO273) hb)
                  have n3_ := Aside0.mk (below_step (mvB HB) hb)
                  clear HO_3
                  clear HO_41
                  clear HO273
                  clear HB
                  have HO_3 := n0_
                  have HO_41 := n1_
                  have HO273 := n2_
                  have HB := n3_
                  clear n0_ n1_ n2_ n3_
                  (try clear hb)
                  (try clear hb2)
                  (try clear hk)
                  (try clear hi)
                  refine hK.out _ _ ⟨HS0_, HS1_, HS2_, HS3_, HS4_, HS5_⟩ (fun hHeld => ?_)
                  clear hK K
                  refine norm_ (a' := ?_) ?_ ?_
                  rotate_left
                  ·show Act.put _ (some 75) _ = _
                   simp only [Act.put, List.setIfInBounds_toArray, List.set_cons_zero, List.set_cons_succ, i64_w, i32_w]
                   rfl
                  refine pure_ (i := 4) (N := some 77) (v := ?_) (a' := ?_) #[true, true, true, true, true, false, false, false, false, false, false, false, false, false, false, false, false, false, false, false, false, false, false, false, false, false, false, false, false, false, false, false, false] rfl rfl (any_of HT_.out (by kernel_rfl)) (fun _ _ _ h => h) (Or.inl ⟨by rfl, ?_⟩) ?_ ?_
                  rotate_left
                  ·intro w'
                   go_simp
                   with_reducible rfl
                  rotate_left
                  ·simp only [Act.put, List.setIfInBounds_toArray, List.set_cons_zero, List.set_cons_succ, i64_w, i32_w]
                   rfl
                  refine pure_ (i := 5) (N := some 78) (v := ?_) (a' := ?_) #[true, true, true, true, true, true, false, false, false, false, false, false, false, false, false, false, false, false, false, false, false, false, false, false, false, false, false, false, false, false, false, false, false] rfl rfl (any_of HT_.out (by kernel_rfl)) (fun _ _ _ h => h) (Or.inl ⟨by rfl, ?_⟩) ?_ ?_
                  rotate_left
                  ·intro w'
                   go_simp
                   with_reducible rfl
                  rotate_left
                  ·simp only [Act.put, List.setIfInBounds_toArray, List.set_cons_zero, List.set_cons_succ, i64_w, i32_w]
                   rfl
                  refine pure_ (i := 6) (N := some 79) (v := ?_) (a' := ?_) #[true, true, true, true, true, true, true, false, false, false, false, false, false, false, false, false, false, false, false, false, false, false, false, false, false, false, false, false, false, false, false, false, false] rfl rfl (any_of HT_.out (by kernel_rfl)) (fun _ _ _ h => h) (Or.inl ⟨by rfl, ?_⟩) ?_ ?_
                  rotate_left
                  ·intro w'
                   go_simp
                   with_reducible rfl
                  rotate_left
                  ·simp only [Act.put, List.setIfInBounds_toArray, List.set_cons_zero, List.set_cons_succ, i64_w, i32_w]
                   rfl
                  refine pure_ (i := 8) (N := some 81) (v := ?_) (a' := ?_) #[true, true, true, true, true, true, true, false, true, false, false, false, false, false, false, false, false, false, false, false, false, false, false, false, false, false, false, false, false, false, false, false, false] rfl rfl (any_of HT_.out (by kernel_rfl)) (fun _ _ _ h => h) (Or.inl ⟨by rfl, ?_⟩) ?_ ?_
                  rotate_left
                  ·intro w'
                   go_simp
                   with_reducible rfl
                  rotate_left
                  ·simp only [Act.put, List.setIfInBounds_toArray, List.set_cons_zero, List.set_cons_succ, i64_w, i32_w]
                   rfl
                  refine pure_ (i := 10) (N := some 83) (v := ?_) (a' := ?_) #[true, true, true, true, true, true, true, false, true, false, true, false, false, false, false, false, false, false, false, false, false, false, false, false, false, false, false, false, false, false, false, false, false] rfl rfl (any_of HT_.out (by kernel_rfl)) (fun _ _ _ h => h) (Or.inl ⟨by rfl, ?_⟩) ?_ ?_
                  rotate_left
                  ·intro w'
                   go_simp
                   with_reducible rfl
                  rotate_left
                  ·simp only [Act.put, List.setIfInBounds_toArray, List.set_cons_zero, List.set_cons_succ, i64_w, i32_w]
                   rfl
                  refine pure_ (i := 11) (N := some 84) (v := ?_) (a' := ?_) #[true, true, true, true, true, true, true, false, true, false, true, true, false, false, false, false, false, false, false, false, false, false, false, false, false, false, false, false, false, false, false, false, false] rfl rfl (any_of HT_.out (by kernel_rfl)) (fun _ _ _ h => h) (Or.inl ⟨by rfl, ?_⟩) ?_ ?_
                  rotate_left
                  ·intro w'
                   go_simp
                   with_reducible rfl
                  rotate_left
                  ·simp only [Act.put, List.setIfInBounds_toArray, List.set_cons_zero, List.set_cons_succ, i64_w, i32_w]
                   rfl
                  refine pure_ (i := 12) (N := some 85) (v := ?_) (a' := ?_) #[true, true, true, true, true, true, true, false, true, false, true, true, true, false, false, false, false, false, false, false, false, false, false, false, false, false, false, false, false, false, false, false, false] rfl rfl (any_of HT_.out (by kernel_rfl)) (fun _ _ _ h => h) (Or.inl ⟨by rfl, ?_⟩) ?_ ?_
                  rotate_left
                  ·intro w'
                   go_simp
                   with_reducible rfl
                  rotate_left
                  ·simp only [Act.put, List.setIfInBounds_toArray, List.set_cons_zero, List.set_cons_succ, i64_w, i32_w]
                   rfl
                  refine pure_ (i := 13) (N := some 86) (v := ?_) (a' := ?_) #[true, true, true, true, true, true, true, false, true, false, true, true, true, true, false, false, false, false, false, false, false, false, false, false, false, false, false, false, false, false, false, false, false] rfl rfl (any_of HT_.out (by kernel_rfl)) (fun _ _ _ h => h) (Or.inl ⟨by rfl, ?_⟩) ?_ ?_
                  rotate_left
                  ·intro w'
                   go_simp
                   with_reducible rfl
                  rotate_left
                  ·simp only [Act.put, List.setIfInBounds_toArray, List.set_cons_zero, List.set_cons_succ, i64_w, i32_w]
                   rfl
                  refine take_ (i := 14) (N := some 87) (v := ?_) (a' := ?_) #[true, true, true, true, true, true, true, false, true, false, true, true, true, true, true, false, false, false, false, false, false, false, false, false, false, false, false, false, false, false, false, false, false] rfl rfl (take_ofW HT_.out HW_.out (by kernel_rfl)) (fun _ _ _ h => h) (Or.inl ⟨by rfl, ?_⟩) hHeld ?_ ?_
                  rotate_left
                  ·rintro w' ⟨s0, s1, s2, s3, s4, s5⟩
                   go_simp
                   with_reducible rfl
                  rotate_left
                  ·simp only [Act.put, List.setIfInBounds_toArray, List.set_cons_zero, List.set_cons_succ, i64_w, i32_w]
                   rfl
                  refine one_ (i := 7) (N := some 80) #[true, true, true, true, true, true, true, true, true, false, true, true, true, true, true, false, false, false, false, false, false, false, false, false, false, false, false, false, false, false, false, false, false] rfl rfl (one_of HT_.out (by kernel_rfl)) (by decide) (fun K hK => ?_)
                  refine goes_ Tryd.func14 (by kernel_rfl) rfl #[.string ((⟨#[38]⟩ : ByteArray) ++ ((rd_T26 t260 x4_2).f0)), .bool false] (by rfl) rfl rfl (by (try simp only [List.map_toArray, List.map_cons, List.map_nil]); first | done | rfl | (simp only [List.length_drop, List.length_take]; rfl)) ?_
                  with_reducible refine (charref_Decode.calls k3 ((⟨#[38]⟩ : ByteArray) ++ ((rd_T26 t260 x4_2).f0)) false t276 _ A45.out (by exact HT.out.below (mvB HB))).mono ?_
                  rintro e w54 ⟨rfl, hb⟩
                  have HS0_ := (hb.cell (World.block_lt_of_cell? _ _ (hHeld.1))).trans (hHeld.1)
                  have HS1_ := (hb.cell (World.block_lt_of_cell? _ _ (hHeld.2.1))).trans (hHeld.2.1)
                  have HS2_ := (hb.cell (World.block_lt_of_cell? _ _ (hHeld.2.2.1))).trans (hHeld.2.2.1)
                  have HS3_ := (hb.cell (World.block_lt_of_cell? _ _ (hHeld.2.2.2.1))).trans (hHeld.2.2.2.1)
                  have HS4_ := (hb.cell (World.block_lt_of_cell? _ _ (hHeld.2.2.2.2.1))).trans (hHeld.2.2.2.2.1)
                  have HS5_ := (hb.cell (World.block_lt_of_cell? _ _ (hHeld.2.2.2.2.2))).trans (hHeld.2.2.2.2.2)
                  refine ⟨_, rfl, ?_⟩
                  have n0_ := Aside0.mk (Kd.R_below (mvR HO_3) hb)
                  have n1_ := Aside0.mk (Kd.R_below (mvR HO_41) hb)
                  have n2_ := Aside0.mk (Kd.R_below (mvR HO273) hb)
                  have n3_ := Aside0.mk (below_step (mvB HB) hb)
                  clear HO_3
                  clear HO_41
                  clear HO273
                  clear HB
                  have HO_3 := n0_
                  have HO_41 := n1_
                  have HO273 := n2_
                  have HB := n3_
                  clear n0_ n1_ n2_ n3_
                  (try clear hb)
                  (try clear hb2)
                  (try clear hk)
                  (try clear hi)
                  refine hK.out _ _ ⟨HS0_, HS1_, HS2_, HS3_, HS4_, HS5_⟩ (fun hHeld => ?_)
                  clear hK K
                  refine norm_ (a' := ?_) ?_ ?_
                  rotate_left
                  ·show Act.put _ (some 80) _ = _
                   simp only [Act.put, List.setIfInBounds_toArray, List.set_cons_zero, List.set_cons_succ, i64_w, i32_w]
                   rfl
                  refine pure_ (i := 9) (N := some 82) (v := ?_) (a' := ?_) #[true, true, true, true, true, true, true, true, true, true, true, true, true, true, true, false, false, false, false, false, false, false, false, false, false, false, false, false, false, false, false, false, false] rfl rfl (any_of HT_.out (by kernel_rfl)) (fun _ _ _ h => h) (Or.inl ⟨by rfl, ?_⟩) ?_ ?_
                  rotate_left
                  ·intro w'
                   go_simp
                   with_reducible rfl
                  rotate_left
                  ·simp only [Act.put, List.setIfInBounds_toArray, List.set_cons_zero, List.set_cons_succ, i64_w, i32_w]
                   rfl
                  refine pure_ (i := 15) (N := some 88) (v := ?_) (a' := ?_) #[true, true, true, true, true, true, true, true, true, true, true, true, true, true, true, true, false, false, false, false, false, false, false, false, false, false, false, false, false, false, false, false, false] rfl rfl (any_of HT_.out (by kernel_rfl)) (fun _ _ _ h => h) (Or.inl ⟨by rfl, ?_⟩) ?_ ?_
                  rotate_left
                  ·intro w'
                   go_simp
                   with_reducible rfl
                  rotate_left
                  ·simp only [Act.put, List.setIfInBounds_toArray, List.set_cons_zero, List.set_cons_succ, i64_w, i32_w]
                   rfl
                  refine pure_ (i := 16) (N := some 89) (v := ?_) (a' := ?_) #[true, true, true, true, true, true, true, true, true, true, true, true, true, true, true, true, true, false, false, false, false, false, false, false, false, false, false, false, false, false, false, false, false] rfl rfl (any_of HT_.out (by kernel_rfl)) (fun _ _ _ h => h) (Or.inl ⟨by rfl, ?_⟩) ?_ ?_
                  rotate_left
                  ·intro w'
                   go_simp
                   with_reducible rfl
                  rotate_left
                  ·simp only [Act.put, List.setIfInBounds_toArray, List.set_cons_zero, List.set_cons_succ, i64_w, i32_w]
                   rfl
                  refine pure_ (i := 17) (N := some 90) (v := ?_) (a' := ?_) #[true, true, true, true, true, true, true, true, true, true, true, true, true, true, true, true, true, true, false, false, false, false, false, false, false, false, false, false, false, false, false, false, false] rfl rfl (any_of HT_.out (by kernel_rfl)) (fun _ _ _ h => h) (Or.inl ⟨by rfl, ?_⟩) ?_ ?_
                  rotate_left
                  ·intro w'
                   go_simp
                   with_reducible rfl
                  rotate_left
                  ·simp only [Act.put, List.setIfInBounds_toArray, List.set_cons_zero, List.set_cons_succ, i64_w, i32_w]
                   rfl
                  refine pure_ (i := 18) (N := some 91) (v := ?_) (a' := ?_) #[true, true, true, true, true, true, true, true, true, true, true, true, true, true, true, true, true, true, true, false, false, false, false, false, false, false, false, false, false, false, false, false, false] rfl rfl (any_of HT_.out (by kernel_rfl)) (fun _ _ _ h => h) (Or.inl ⟨by rfl, ?_⟩) ?_ ?_
                  rotate_left
                  ·intro w'
                   go_simp
                   with_reducible rfl
                  rotate_left
                  ·simp only [Act.put, List.setIfInBounds_toArray, List.set_cons_zero, List.set_cons_succ, i64_w, i32_w]
                   rfl
                  refine pure_ (i := 19) (N := some 92) (v := ?_) (a' := ?_) #[true, true, true, true, true, true, true, true, true, true, true, true, true, true, true, true, true, true, true, true, false, false, false, false, false, false, false, false, false, false, false, false, false] rfl rfl (any_of HT_.out (by kernel_rfl)) (fun _ _ _ h => h) (Or.inl ⟨by rfl, ?_⟩) ?_ ?_
                  rotate_left
                  ·intro w'
                   go_simp
                   with_reducible rfl
                  rotate_left
                  ·simp only [Act.put, List.setIfInBounds_toArray, List.set_cons_zero, List.set_cons_succ, i64_w, i32_w]
                   rfl
                  refine pure_ (i := 20) (N := some 93) (v := ?_) (a' := ?_) #[true, true, true, true, true, true, true, true, true, true, true, true, true, true, true, true, true, true, true, true, true, false, false, false, false, false, false, false, false, false, false, false, false] rfl rfl (any_of HT_.out (by kernel_rfl)) (fun _ _ _ h => h) (Or.inl ⟨by rfl, ?_⟩) ?_ ?_
                  rotate_left
                  ·intro w'
                   go_simp
                   with_reducible rfl
                  rotate_left
                  ·simp only [Act.put, List.setIfInBounds_toArray, List.set_cons_zero, List.set_cons_succ, i64_w, i32_w]
                   rfl
                  refine take_ (i := 21) (N := some 94) (v := ?_) (a' := ?_) #[true, true, true, true, true, true, true, true, true, true, true, true, true, true, true, true, true, true, true, true, true, true, false, false, false, false, false, false, false, false, false, false, false] rfl rfl (take_ofW HT_.out HW_.out (by kernel_rfl)) (fun _ _ _ h => h) (Or.inl ⟨by rfl, ?_⟩) hHeld ?_ ?_
                  rotate_left
                  ·rintro w' ⟨s0, s1, s2, s3, s4, s5⟩
                   go_simp
                   with_reducible rfl
                  rotate_left
                  ·simp only [Act.put, List.setIfInBounds_toArray, List.set_cons_zero, List.set_cons_succ, i64_w, i32_w]
                   rfl
                  refine pure_ (i := 22) (N := some 95) (v := ?_) (a' := ?_) #[true, true, true, true, true, true, true, true, true, true, true, true, true, true, true, true, true, true, true, true, true, true, true, false, false, false, false, false, false, false, false, false, false] rfl rfl (any_of HT_.out (by kernel_rfl)) (fun _ _ _ h => h) (Or.inl ⟨by rfl, ?_⟩) ?_ ?_
                  rotate_left
                  ·intro w'
                   go_simp
                   with_reducible rfl
                  rotate_left
                  ·simp only [Act.put, List.setIfInBounds_toArray, List.set_cons_zero, List.set_cons_succ, i64_w, i32_w]
                   rfl
                  refine pure_ (i := 23) (N := some 96) (v := ?_) (a' := ?_) #[true, true, true, true, true, true, true, true, true, true, true, true, true, true, true, true, true, true, true, true, true, true, true, true, false, false, false, false, false, false, false, false, false] rfl rfl (any_of HT_.out (by kernel_rfl)) (fun _ _ _ h => h) (Or.inl ⟨by rfl, ?_⟩) ?_ ?_
                  rotate_left
                  ·intro w'
                   go_simp
                   with_reducible rfl
                  rotate_left
                  ·simp only [Act.put, List.setIfInBounds_toArray, List.set_cons_zero, List.set_cons_succ, i64_w, i32_w]
                   rfl
                  refine pure_ (i := 24) (N := some 97) (v := ?_) (a' := ?_) #[true, true, true, true, true, true, true, true, true, true, true, true, true, true, true, true, true, true, true, true, true, true, true, true, true, false, false, false, false, false, false, false, false] rfl rfl (any_of HT_.out (by kernel_rfl)) (fun _ _ _ h => h) (Or.inl ⟨by rfl, ?_⟩) ?_ ?_
                  rotate_left
                  ·intro w'
                   go_simp
                   with_reducible rfl
                  rotate_left
                  ·simp only [Act.put, List.setIfInBounds_toArray, List.set_cons_zero, List.set_cons_succ, i64_w, i32_w]
                   rfl
                  refine pure_ (i := 25) (N := some 98) (v := undef) (a' := ?_) #[true, true, true, true, true, true, true, true, true, true, true, true, true, true, true, true, true, true, true, true, true, true, true, true, true, true, false, false, false, false, false, false, false] rfl rfl (any_of HT_.out (by kernel_rfl)) (fun _ _ _ h => h) (Or.inr ⟨by rfl, rfl⟩) ?_ ?_
                  rotate_left
                  ·simp only [Act.put, List.setIfInBounds_toArray, List.set_cons_zero, List.set_cons_succ, i64_w, i32_w]
                   rfl
                  refine pure_ (i := 26) (N := some 99) (v := undef) (a' := ?_) #[true, true, true, true, true, true, true, true, true, true, true, true, true, true, true, true, true, true, true, true, true, true, true, true, true, true, true, false, false, false, false, false, false] rfl rfl (any_of HT_.out (by kernel_rfl)) (fun _ _ _ h => h) (Or.inr ⟨by rfl, rfl⟩) ?_ ?_
                  rotate_left
                  ·simp only [Act.put, List.setIfInBounds_toArray, List.set_cons_zero, List.set_cons_succ, i64_w, i32_w]
                   rfl
                  refine pure_ (i := 27) (N := some 100) (v := undef) (a' := ?_) #[true, true, true, true, true, true, true, true, true, true, true, true, true, true, true, true, true, true, true, true, true, true, true, true, true, true, true, true, false, false, false, false, false] rfl rfl (any_of HT_.out (by kernel_rfl)) (fun _ _ _ h => h) (Or.inr ⟨by rfl, rfl⟩) ?_ ?_
                  rotate_left
                  ·simp only [Act.put, List.setIfInBounds_toArray, List.set_cons_zero, List.set_cons_succ, i64_w, i32_w]
                   rfl
                  refine pure_ (i := 28) (N := some 101) (v := undef) (a' := ?_) #[true, true, true, true, true, true, true, true, true, true, true, true, true, true, true, true, true, true, true, true, true, true, true, true, true, true, true, true, true, false, false, false, false] rfl rfl (any_of HT_.out (by kernel_rfl)) (fun _ _ _ h => h) (Or.inr ⟨by rfl, rfl⟩) ?_ ?_
                  rotate_left
                  ·simp only [Act.put, List.setIfInBounds_toArray, List.set_cons_zero, List.set_cons_succ, i64_w, i32_w]
                   rfl
                  refine pure_ (i := 29) (N := some 102) (v := undef) (a' := ?_) #[true, true, true, true, true, true, true, true, true, true, true, true, true, true, true, true, true, true, true, true, true, true, true, true, true, true, true, true, true, true, false, false, false] rfl rfl (any_of HT_.out (by kernel_rfl)) (fun _ _ _ h => h) (Or.inr ⟨by rfl, rfl⟩) ?_ ?_
                  rotate_left
                  ·simp only [Act.put, List.setIfInBounds_toArray, List.set_cons_zero, List.set_cons_succ, i64_w, i32_w]
                   rfl
                  refine pure_ (i := 30) (N := some 103) (v := undef) (a' := ?_) #[true, true, true, true, true, true, true, true, true, true, true, true, true, true, true, true, true, true, true, true, true, true, true, true, true, true, true, true, true, true, true, false, false] rfl rfl (any_of HT_.out (by kernel_rfl)) (fun _ _ _ h => h) (Or.inr ⟨by rfl, rfl⟩) ?_ ?_
                  rotate_left
                  ·simp only [Act.put, List.setIfInBounds_toArray, List.set_cons_zero, List.set_cons_succ, i64_w, i32_w]
                   rfl
                  refine pure_ (i := 31) (N := some 104) (v := ?_) (a' := ?_) #[true, true, true, true, true, true, true, true, true, true, true, true, true, true, true, true, true, true, true, true, true, true, true, true, true, true, true, true, true, true, true, true, false] rfl rfl (any_of HT_.out (by kernel_rfl)) (fun _ _ _ h => h) (Or.inl ⟨by rfl, ?_⟩) ?_ ?_
                  rotate_left
                  ·intro w'
                   go_simp
                   with_reducible rfl
                  rotate_left
                  ·simp only [Act.put, List.setIfInBounds_toArray, List.set_cons_zero, List.set_cons_succ, i64_w, i32_w]
                   rfl
                  refine pure_ (i := 32) (N := some 105) (v := ?_) (a' := ?_) #[true, true, true, true, true, true, true, true, true, true, true, true, true, true, true, true, true, true, true, true, true, true, true, true, true, true, true, true, true, true, true, true, true] rfl rfl (any_of HT_.out (by kernel_rfl)) (fun _ _ _ h => h) (Or.inl ⟨by rfl, ?_⟩) ?_ ?_
                  rotate_left
                  ·intro w'
                   go_simp
                   with_reducible rfl
                  rotate_left
                  ·simp only [Act.put, List.setIfInBounds_toArray, List.set_cons_zero, List.set_cons_succ, i64_w, i32_w]
                   rfl
                  refine done_ (done_of HT_.out (by kernel_rfl)) ?_
                  try go_wp2
                  go_roundg k3
                  case measure => have := HK1.out; have := HK2.out; have := HK3.out; omega
                  case rel => exact ⟨(wrap64 (x4_2 + 1)), (by first | rfl | (simp; done) | (simp [*]; done)), H', ⟨by have := HK1.out; have := HK2.out; have := HK3.out; omega⟩, ⟨mvR HO_3⟩, ⟨mvB HB⟩⟩
                 ·rw [if_neg c47] at H
                  have c47b0 : (((rd_T26 t260 x4_2).f0).toList == ([110, 111, 116, 105, 110] : List UInt8)) = false := beq_eq_false_iff_ne.mpr c47
                  have c47b1 : (((rd_T26 t260 x4_2).f0).toList != ([110, 111, 116, 105, 110] : List UInt8)) = true := bne_iff_ne.mpr c47
                  by_cases c55 : ((rd_T26 t260 x4_2).f0).toList = ([105, 110] : List UInt8)
                  ·rw [if_pos c55] at H
                   have c55b0 : (((rd_T26 t260 x4_2).f0).toList == ([105, 110] : List UInt8)) = true := beq_iff_eq.mpr c55
                   have c55b1 : (((rd_T26 t260 x4_2).f0).toList != ([105, 110] : List UInt8)) = false := bne_eq_false_iff_eq.mpr c55
                   clear c55
                   have H' := Aside0.mk H
                   clear H
                   have p270 := dT (0 ≤ (x4_2 : Int))
                   have q270 := dT (x4_2 < (t260.length : Int))
                   obtain ⟨ad270, e270, hx270_0, hx270_1, hx270_2⟩ := at_T26 (Kd.R_reads' HO_3.out).2.2 x4_2 p270 q270
                   obtain rfl : ad263 = ad270 := (by injection e270)
                   replace p270 := eq_true p270
                   replace q270 := eq_true q270
                   try go_wp2_with (first | ((with_reducible refine gate_dst (N := 71) rfl ?_); refine Kd.R_lit (Kd.int .i32) _ 21 ?hg (N := 71) ?hd (xs := ([(rd_T26 t260 x4_2).f1] : List Int)) (inner := [.int .i32 ((rd_T26 t260 x4_2).f1)]) (ok := fun _ => True) (okp := fun _ => True) ?hr ?hp (fun _ hk => hk) trivial (Below.refl _ _) (Nat.le_refl _) (by simp) ?_; (case hd => rfl); (case hg => rfl); (case hr => first | (go_simp; done) | (go_simp; rfl)); (case hp => exact (Reps.one (show Kd.M (Kd.int .i32) _ _ _ ((rd_T26 t260 x4_2).f1) [.int .i32 ((rd_T26 t260 x4_2).f1)] from rfl) (Reps.none _ _))); intro v272 w56 ho57 hb hg_ hnew_; clear hg_ hnew_; (first | rw [← Ny271.out] at ho57 | (simp only [Int.reduceToNat] at ho57; rw [← Ny271.out] at ho57)); have n0_ := Aside0.mk (Kd.R_below (mvR HO_3) hb); have n1_ := Aside0.mk (Kd.R_below (mvR HO_41) hb); have n2_ := Aside0.mk (Kd.R_lower ho57 (below_size (mvB HB))); have n3_ := Aside0.mk (below_step (mvB HB) hb); clear HO_3; clear HO_41; clear HB; have HO_3 := n0_; have HO_41 := n1_; have HO273 := n2_; have HB := n3_; clear n0_ n1_ n2_ n3_; clear hb ho57; obtain ⟨Ao58, co58, eo58⟩ := Kd.R_slice HO273.out; subst eo58) | ((with_reducible refine gate_callee (f := 16) rfl ?_); refine goesL_ (some 72) rfl rfl Tryd.func16 (by kernel_rfl) rfl #[.slice Ao58 y271.length co58] rfl (by (try simp only [List.map_toArray, List.map_cons, List.map_nil]); first | done | rfl | (simp only [List.length_drop, List.length_take]; rfl)) ?_; (with_reducible refine (selvedgeref02_String.calls k3 _ _ y271 t274 _ ?side1 ?side2 A41.out).mono ?_); (case side1 => repeat (first | exact (Kd.R_reads' HO273.out).2.2 | (with_reducible refine Kd.C_alloc ?_ _) | (with_reducible refine Kd.C_drewN ?_ _) | (with_reducible refine Kd.C_drew ?_))); (case side2 => exact (Kd.R_reads' HO273.out).2.1); rintro e w59 ⟨rfl, hb⟩; refine ⟨_, rfl, ?_⟩; have n0_ := Aside0.mk (Kd.R_below (mvR HO_3) hb); have n1_ := Aside0.mk (Kd.R_below (mvR HO_41) hb); have n2_ := Aside0.mk (Kd.R_below (mvR HO273) hb); have n3_ := Aside0.mk (below_step (mvB HB) hb); clear HO_3; clear HO_41; clear HO273; clear HB; have HO_3 := n0_; have HO_41 := n1_; have HO273 := n2_; have HB := n3_; clear n0_ n1_ n2_ n3_; (try clear hb); (try clear hb2); (try clear hk); (try clear hi)))
                   have n0_ := Aside0.mk (Kd.R_drew HO_3.out)
                   have n1_ := Aside0.mk (Kd.R_drew HO_41.out)
                   have n2_ := Aside0.mk (Kd.R_drew HO273.out)
                   have n3_ := Aside0.mk (below_drew1 HB.out)
                   clear HO_3
                   clear HO_41
                   clear HO273
                   clear HB
                   have HO_3 := n0_
                   have HO_41 := n1_
                   have HO273 := n2_
                   have HB := n3_
                   clear n0_ n1_ n2_ n3_
                   have p277 := dT (0 ≤ (x4_2 : Int))
                   have q277 := dT (x4_2 < (t260.length : Int))
                   obtain ⟨ad277, e277, hx277_0, hx277_1, hx277_2⟩ := at_T26 (Kd.R_reads' HO_3.out).2.2 x4_2 p277 q277
                   obtain rfl : ad263 = ad277 := (by injection e277)
                   replace p277 := eq_true p277
                   replace q277 := eq_true q277
                   have p278 := dT (0 ≤ (x4_2 : Int))
                   have q278 := dT (x4_2 < (t260.length : Int))
                   obtain ⟨ad278, e278, hx278_0, hx278_1, hx278_2⟩ := at_T26 (Kd.R_reads' HO_3.out).2.2 x4_2 p278 q278
                   obtain rfl : ad263 = ad278 := (by injection e278)
                   replace p278 := eq_true p278
                   replace q278 := eq_true q278
                   have p279 := dT (0 ≤ (x4_2 : Int))
                   have q279 := dT (x4_2 < (t260.length : Int))
                   obtain ⟨ad279, e279, hx279_0, hx279_1, hx279_2⟩ := at_T26 (Kd.R_reads' HO_3.out).2.2 x4_2 p279 q279
                   obtain rfl : ad263 = ad279 := (by injection e279)
                   replace p279 := eq_true p279
                   replace q279 := eq_true q279
                   refine start_ (n := 33) (S := fun w' => w'.cell? (ad263.add ((x4_2).toNat * 3)) = some (.string ((rd_T26 t260 x4_2).f0)) ∧ w'.cell? ⟨(ad263.add ((x4_2).toNat * 3)).block, (ad263.add ((x4_2).toNat * 3)).off + 1, none⟩ = some (.int .i32 ((rd_T26 t260 x4_2).f1)) ∧ w'.cell? ⟨(ad263.add ((x4_2).toNat * 3)).block, (ad263.add ((x4_2).toNat * 3)).off + 2, none⟩ = some (.bool ((rd_T26 t260 x4_2).f2)) ∧ w'.cell? (ad263.add ((x4_2).toNat * 3)) = some (.string ((rd_T26 t260 x4_2).f0)) ∧ w'.cell? ⟨(ad263.add ((x4_2).toNat * 3)).block, (ad263.add ((x4_2).toNat * 3)).off + 1, none⟩ = some (.int .i32 ((rd_T26 t260 x4_2).f1)) ∧ w'.cell? ⟨(ad263.add ((x4_2).toNat * 3)).block, (ad263.add ((x4_2).toNat * 3)).off + 2, none⟩ = some (.bool ((rd_T26 t260 x4_2).f2)) ∧ w'.cell? (ad263.add ((x4_2).toNat * 3)) = some (.string ((rd_T26 t260 x4_2).f0)) ∧ w'.cell? ⟨(ad263.add ((x4_2).toNat * 3)).block, (ad263.add ((x4_2).toNat * 3)).off + 1, none⟩ = some (.int .i32 ((rd_T26 t260 x4_2).f1)) ∧ w'.cell? ⟨(ad263.add ((x4_2).toNat * 3)).block, (ad263.add ((x4_2).toNat * 3)).off + 2, none⟩ = some (.bool ((rd_T26 t260 x4_2).f2))) (ds := []) #[false, false, false, false, false, false, false, false, false, false, false, false, false, false, false, false, false, false, false, false, false, false, false, false, false, false, false, false, false, false, false, false, false] (by kernel_rfl) rfl rfl ⟨hx277_0, hx277_1, hx277_2, hx278_0, hx278_1, hx278_2, hx279_0, hx279_1, hx279_2⟩ (fun hHeld => ?_); refine with_tabW selvedgelaw03_CharrefKnown.tab19 selvedgelaw03_CharrefKnown.bits19 (fun HT_ HW_ => ?_)
                   generalize w59.drew = w60 at HO_3 HO_41 HO273 HB hx277_0 hx277_1 hx277_2 hx278_0 hx278_1 hx278_2 hx279_0 hx279_1 hx279_2 hHeld ⊢
                   refine pure_ (i := 0) (N := some 73) (v := ?_) (a' := ?_) #[true, false, false, false, false, false, false, false, false, false, false, false, false, false, false, false, false, false, false, false, false, false, false, false, false, false, false, false, false, false, false, false, false] rfl rfl (any_of HT_.out (by kernel_rfl)) (fun _ _ _ h => h) (Or.inl ⟨by rfl, ?_⟩) ?_ ?_
                   rotate_left
                   ·intro w'
                    go_simp
                    with_reducible rfl
                   rotate_left
                   ·simp only [Act.put, List.setIfInBounds_toArray, List.set_cons_zero, List.set_cons_succ, i64_w, i32_w]
                    rfl
                   refine pure_ (i := 1) (N := some 74) (v := ?_) (a' := ?_) #[true, true, false, false, false, false, false, false, false, false, false, false, false, false, false, false, false, false, false, false, false, false, false, false, false, false, false, false, false, false, false, false, false] rfl rfl (any_of HT_.out (by kernel_rfl)) (fun _ _ _ h => h) (Or.inl ⟨by rfl, ?_⟩) ?_ ?_
                   rotate_left
                   ·intro w'
                    go_simp
                    with_reducible rfl
                   rotate_left
                   ·simp only [Act.put, List.setIfInBounds_toArray, List.set_cons_zero, List.set_cons_succ, i64_w, i32_w]
                    rfl
                   refine pure_ (i := 3) (N := some 76) (v := ?_) (a' := ?_) #[true, true, false, true, false, false, false, false, false, false, false, false, false, false, false, false, false, false, false, false, false, false, false, false, false, false, false, false, false, false, false, false, false] rfl rfl (any_of HT_.out (by kernel_rfl)) (fun _ _ _ h => h) (Or.inl ⟨by rfl, ?_⟩) ?_ ?_
                   rotate_left
                   ·intro w'
                    go_simp
                    with_reducible rfl
                   rotate_left
                   ·simp only [Act.put, List.setIfInBounds_toArray, List.set_cons_zero, List.set_cons_succ, i64_w, i32_w]
                    rfl
                   refine one_ (i := 2) (N := some 75) #[true, true, true, true, false, false, false, false, false, false, false, false, false, false, false, false, false, false, false, false, false, false, false, false, false, false, false, false, false, false, false, false, false] rfl rfl (one_of HT_.out (by kernel_rfl)) (by decide) (fun K hK => ?_)
                   refine goes_ Tryd.func14 (by kernel_rfl) rfl #[.string (((⟨#[38]⟩ : ByteArray) ++ ((rd_T26 t260 x4_2).f0)) ++ (⟨#[59]⟩ : ByteArray)), .bool true] (by rfl) rfl rfl (by (try simp only [List.map_toArray, List.map_cons, List.map_nil]); first | done | rfl | (simp only [List.length_drop, List.length_take]; rfl)) ?_
                   with_reducible refine (charref_Decode.calls k3 (((⟨#[38]⟩ : ByteArray) ++ ((rd_T26 t260 x4_2).f0)) ++ (⟨#[59]⟩ : ByteArray)) true t275 _ A43.out (by exact HT.out.below (mvB HB))).mono ?_
                   rintro e w61 ⟨rfl, hb⟩
                   have HS0_ := (hb.cell (World.block_lt_of_cell? _ _ (hHeld.1))).trans (hHeld.1)
                   have HS1_ := (hb.cell (World.block_lt_of_cell? _ _ (hHeld.2.1))).trans (hHeld.2.1)
                   have HS2_ := (hb.cell (World.block_lt_of_cell? _ _ (hHeld.2.2.1))).trans (hHeld.2.2.1)
                   have HS3_ := (hb.cell (World.block_lt_of_cell? _ _ (hHeld.2.2.2.1))).trans (hHeld.2.2.2.1)
                   have HS4_ := (hb.cell (World.block_lt_of_cell? _ _ (hHeld.2.2.2.2.1))).trans (hHeld.2.2.2.2.1)
                   have HS5_ := (hb.cell (World.block_lt_of_cell? _ _ (hHeld.2.2.2.2.2.1))).trans (hHeld.2.2.2.2.2.1)
                   have HS6_ := (hb.cell (World.block_lt_of_cell? _ _ (hHeld.2.2.2.2.2.2.1))).trans (hHeld.2.2.2.2.2.2.1)
                   have HS7_ := (hb.cell (World.block_lt_of_cell? _ _ (hHeld.2.2.2.2.2.2.2.1))).trans (hHeld.2.2.2.2.2.2.2.1)
                   have HS8_ := (hb.cell (World.block_lt_of_cell? _ _ (hHeld.2.2.2.2.2.2.2.2))).trans (hHeld.2.2.2.2.2.2.2.2)
                   refine ⟨_, rfl, ?_⟩
                   have n0_ := Aside0.mk (Kd.R_below (mvR HO_3) hb)
                   have n1_ := Aside0.mk (Kd.R_below (mvR HO_41) hb)
                   have n2_ := Aside0.mk (Kd.R_below (mvR HO273) hb)
                   have n3_ := Aside0.mk (below_step (mvB HB) hb)
                   clear HO_3
                   clear HO_41
                   clear HO273
                   clear HB
                   have HO_3 := n0_
                   have HO_41 := n1_
                   have HO273 := n2_
                   have HB := n3_
                   clear n0_ n1_ n2_ n3_
                   (try clear hb)
                   (try clear hb2)
                   (try clear hk)
                   (try clear hi)
                   refine hK.out _ _ ⟨HS0_, HS1_, HS2_, HS3_, HS4_, HS5_, HS6_, HS7_, HS8_⟩ (fun hHeld => ?_)
                   clear hK K
                   refine norm_ (a' := ?_) ?_ ?_
                   rotate_left
                   ·show Act.put _ (some 75) _ = _
                    simp only [Act.put, List.setIfInBounds_toArray, List.set_cons_zero, List.set_cons_succ, i64_w, i32_w]
                    rfl
                   refine pure_ (i := 4) (N := some 77) (v := ?_) (a' := ?_) #[true, true, true, true, true, false, false, false, false, false, false, false, false, false, false, false, false, false, false, false, false, false, false, false, false, false, false, false, false, false, false, false, false] rfl rfl (any_of HT_.out (by kernel_rfl)) (fun _ _ _ h => h) (Or.inl ⟨by rfl, ?_⟩) ?_ ?_
                   rotate_left
                   ·intro w'
                    go_simp
                    with_reducible rfl
                   rotate_left
                   ·simp only [Act.put, List.setIfInBounds_toArray, List.set_cons_zero, List.set_cons_succ, i64_w, i32_w]
                    rfl
                   refine pure_ (i := 5) (N := some 78) (v := ?_) (a' := ?_) #[true, true, true, true, true, true, false, false, false, false, false, false, false, false, false, false, false, false, false, false, false, false, false, false, false, false, false, false, false, false, false, false, false] rfl rfl (any_of HT_.out (by kernel_rfl)) (fun _ _ _ h => h) (Or.inl ⟨by rfl, ?_⟩) ?_ ?_
                   rotate_left
                   ·intro w'
                    go_simp
                    with_reducible rfl
                   rotate_left
                   ·simp only [Act.put, List.setIfInBounds_toArray, List.set_cons_zero, List.set_cons_succ, i64_w, i32_w]
                    rfl
                   refine pure_ (i := 6) (N := some 79) (v := ?_) (a' := ?_) #[true, true, true, true, true, true, true, false, false, false, false, false, false, false, false, false, false, false, false, false, false, false, false, false, false, false, false, false, false, false, false, false, false] rfl rfl (any_of HT_.out (by kernel_rfl)) (fun _ _ _ h => h) (Or.inl ⟨by rfl, ?_⟩) ?_ ?_
                   rotate_left
                   ·intro w'
                    go_simp
                    with_reducible rfl
                   rotate_left
                   ·simp only [Act.put, List.setIfInBounds_toArray, List.set_cons_zero, List.set_cons_succ, i64_w, i32_w]
                    rfl
                   refine pure_ (i := 8) (N := some 81) (v := ?_) (a' := ?_) #[true, true, true, true, true, true, true, false, true, false, false, false, false, false, false, false, false, false, false, false, false, false, false, false, false, false, false, false, false, false, false, false, false] rfl rfl (any_of HT_.out (by kernel_rfl)) (fun _ _ _ h => h) (Or.inl ⟨by rfl, ?_⟩) ?_ ?_
                   rotate_left
                   ·intro w'
                    go_simp
                    with_reducible rfl
                   rotate_left
                   ·simp only [Act.put, List.setIfInBounds_toArray, List.set_cons_zero, List.set_cons_succ, i64_w, i32_w]
                    rfl
                   refine pure_ (i := 10) (N := some 83) (v := ?_) (a' := ?_) #[true, true, true, true, true, true, true, false, true, false, true, false, false, false, false, false, false, false, false, false, false, false, false, false, false, false, false, false, false, false, false, false, false] rfl rfl (any_of HT_.out (by kernel_rfl)) (fun _ _ _ h => h) (Or.inl ⟨by rfl, ?_⟩) ?_ ?_
                   rotate_left
                   ·intro w'
                    go_simp
                    with_reducible rfl
                   rotate_left
                   ·simp only [Act.put, List.setIfInBounds_toArray, List.set_cons_zero, List.set_cons_succ, i64_w, i32_w]
                    rfl
                   refine pure_ (i := 11) (N := some 84) (v := ?_) (a' := ?_) #[true, true, true, true, true, true, true, false, true, false, true, true, false, false, false, false, false, false, false, false, false, false, false, false, false, false, false, false, false, false, false, false, false] rfl rfl (any_of HT_.out (by kernel_rfl)) (fun _ _ _ h => h) (Or.inl ⟨by rfl, ?_⟩) ?_ ?_
                   rotate_left
                   ·intro w'
                    go_simp
                    with_reducible rfl
                   rotate_left
                   ·simp only [Act.put, List.setIfInBounds_toArray, List.set_cons_zero, List.set_cons_succ, i64_w, i32_w]
                    rfl
                   refine pure_ (i := 12) (N := some 85) (v := ?_) (a' := ?_) #[true, true, true, true, true, true, true, false, true, false, true, true, true, false, false, false, false, false, false, false, false, false, false, false, false, false, false, false, false, false, false, false, false] rfl rfl (any_of HT_.out (by kernel_rfl)) (fun _ _ _ h => h) (Or.inl ⟨by rfl, ?_⟩) ?_ ?_
                   rotate_left
                   ·intro w'
                    go_simp
                    with_reducible rfl
                   rotate_left
                   ·simp only [Act.put, List.setIfInBounds_toArray, List.set_cons_zero, List.set_cons_succ, i64_w, i32_w]
                    rfl
                   refine pure_ (i := 13) (N := some 86) (v := ?_) (a' := ?_) #[true, true, true, true, true, true, true, false, true, false, true, true, true, true, false, false, false, false, false, false, false, false, false, false, false, false, false, false, false, false, false, false, false] rfl rfl (any_of HT_.out (by kernel_rfl)) (fun _ _ _ h => h) (Or.inl ⟨by rfl, ?_⟩) ?_ ?_
                   rotate_left
                   ·intro w'
                    go_simp
                    with_reducible rfl
                   rotate_left
                   ·simp only [Act.put, List.setIfInBounds_toArray, List.set_cons_zero, List.set_cons_succ, i64_w, i32_w]
                    rfl
                   refine take_ (i := 14) (N := some 87) (v := ?_) (a' := ?_) #[true, true, true, true, true, true, true, false, true, false, true, true, true, true, true, false, false, false, false, false, false, false, false, false, false, false, false, false, false, false, false, false, false] rfl rfl (take_ofW HT_.out HW_.out (by kernel_rfl)) (fun _ _ _ h => h) (Or.inl ⟨by rfl, ?_⟩) hHeld ?_ ?_
                   rotate_left
                   ·rintro w' ⟨s0, s1, s2, s3, s4, s5, s6, s7, s8⟩
                    go_simp
                    with_reducible rfl
                   rotate_left
                   ·simp only [Act.put, List.setIfInBounds_toArray, List.set_cons_zero, List.set_cons_succ, i64_w, i32_w]
                    rfl
                   refine one_ (i := 7) (N := some 80) #[true, true, true, true, true, true, true, true, true, false, true, true, true, true, true, false, false, false, false, false, false, false, false, false, false, false, false, false, false, false, false, false, false] rfl rfl (one_of HT_.out (by kernel_rfl)) (by decide) (fun K hK => ?_)
                   refine goes_ Tryd.func14 (by kernel_rfl) rfl #[.string ((⟨#[38]⟩ : ByteArray) ++ ((rd_T26 t260 x4_2).f0)), .bool false] (by rfl) rfl rfl (by (try simp only [List.map_toArray, List.map_cons, List.map_nil]); first | done | rfl | (simp only [List.length_drop, List.length_take]; rfl)) ?_
                   with_reducible refine (charref_Decode.calls k3 ((⟨#[38]⟩ : ByteArray) ++ ((rd_T26 t260 x4_2).f0)) false t276 _ A45.out (by exact HT.out.below (mvB HB))).mono ?_
                   rintro e w62 ⟨rfl, hb⟩
                   have HS0_ := (hb.cell (World.block_lt_of_cell? _ _ (hHeld.1))).trans (hHeld.1)
                   have HS1_ := (hb.cell (World.block_lt_of_cell? _ _ (hHeld.2.1))).trans (hHeld.2.1)
                   have HS2_ := (hb.cell (World.block_lt_of_cell? _ _ (hHeld.2.2.1))).trans (hHeld.2.2.1)
                   have HS3_ := (hb.cell (World.block_lt_of_cell? _ _ (hHeld.2.2.2.1))).trans (hHeld.2.2.2.1)
                   have HS4_ := (hb.cell (World.block_lt_of_cell? _ _ (hHeld.2.2.2.2.1))).trans (hHeld.2.2.2.2.1)
                   have HS5_ := (hb.cell (World.block_lt_of_cell? _ _ (hHeld.2.2.2.2.2.1))).trans (hHeld.2.2.2.2.2.1)
                   have HS6_ := (hb.cell (World.block_lt_of_cell? _ _ (hHeld.2.2.2.2.2.2.1))).trans (hHeld.2.2.2.2.2.2.1)
                   have HS7_ := (hb.cell (World.block_lt_of_cell? _ _ (hHeld.2.2.2.2.2.2.2.1))).trans (hHeld.2.2.2.2.2.2.2.1)
                   have HS8_ := (hb.cell (World.block_lt_of_cell? _ _ (hHeld.2.2.2.2.2.2.2.2))).trans (hHeld.2.2.2.2.2.2.2.2)
                   refine ⟨_, rfl, ?_⟩
                   have n0_ := Aside0.mk (Kd.R_below (mvR HO_3) hb)
                   have n1_ := Aside0.mk (Kd.R_below (mvR HO_41) hb)
                   have n2_ := Aside0.mk (Kd.R_below (mvR HO273) hb)
                   have n3_ := Aside0.mk (below_step (mvB HB) hb)
                   clear HO_3
                   clear HO_41
                   clear HO273
                   clear HB
                   have HO_3 := n0_
                   have HO_41 := n1_
                   have HO273 := n2_
                   have HB := n3_
                   clear n0_ n1_ n2_ n3_
                   (try clear hb)
                   (try clear hb2)
                   (try clear hk)
                   (try clear hi)
                   refine hK.out _ _ ⟨HS0_, HS1_, HS2_, HS3_, HS4_, HS5_, HS6_, HS7_, HS8_⟩ (fun hHeld => ?_)
                   clear hK K
                   refine norm_ (a' := ?_) ?_ ?_
                   rotate_left
                   ·show Act.put _ (some 80) _ = _
                    simp only [Act.put, List.setIfInBounds_toArray, List.set_cons_zero, List.set_cons_succ, i64_w, i32_w]
                    rfl
                   refine pure_ (i := 9) (N := some 82) (v := ?_) (a' := ?_) #[true, true, true, true, true, true, true, true, true, true, true, true, true, true, true, false, false, false, false, false, false, false, false, false, false, false, false, false, false, false, false, false, false] rfl rfl (any_of HT_.out (by kernel_rfl)) (fun _ _ _ h => h) (Or.inl ⟨by rfl, ?_⟩) ?_ ?_
                   rotate_left
                   ·intro w'
                    go_simp
                    with_reducible rfl
                   rotate_left
                   ·simp only [Act.put, List.setIfInBounds_toArray, List.set_cons_zero, List.set_cons_succ, i64_w, i32_w]
                    rfl
                   refine pure_ (i := 15) (N := some 88) (v := ?_) (a' := ?_) #[true, true, true, true, true, true, true, true, true, true, true, true, true, true, true, true, false, false, false, false, false, false, false, false, false, false, false, false, false, false, false, false, false] rfl rfl (any_of HT_.out (by kernel_rfl)) (fun _ _ _ h => h) (Or.inl ⟨by rfl, ?_⟩) ?_ ?_
                   rotate_left
                   ·intro w'
                    go_simp
                    with_reducible rfl
                   rotate_left
                   ·simp only [Act.put, List.setIfInBounds_toArray, List.set_cons_zero, List.set_cons_succ, i64_w, i32_w]
                    rfl
                   refine pure_ (i := 16) (N := some 89) (v := ?_) (a' := ?_) #[true, true, true, true, true, true, true, true, true, true, true, true, true, true, true, true, true, false, false, false, false, false, false, false, false, false, false, false, false, false, false, false, false] rfl rfl (any_of HT_.out (by kernel_rfl)) (fun _ _ _ h => h) (Or.inl ⟨by rfl, ?_⟩) ?_ ?_
                   rotate_left
                   ·intro w'
                    go_simp
                    with_reducible rfl
                   rotate_left
                   ·simp only [Act.put, List.setIfInBounds_toArray, List.set_cons_zero, List.set_cons_succ, i64_w, i32_w]
                    rfl
                   refine pure_ (i := 17) (N := some 90) (v := ?_) (a' := ?_) #[true, true, true, true, true, true, true, true, true, true, true, true, true, true, true, true, true, true, false, false, false, false, false, false, false, false, false, false, false, false, false, false, false] rfl rfl (any_of HT_.out (by kernel_rfl)) (fun _ _ _ h => h) (Or.inl ⟨by rfl, ?_⟩) ?_ ?_
                   rotate_left
                   ·intro w'
                    go_simp
                    with_reducible rfl
                   rotate_left
                   ·simp only [Act.put, List.setIfInBounds_toArray, List.set_cons_zero, List.set_cons_succ, i64_w, i32_w]
                    rfl
                   refine pure_ (i := 18) (N := some 91) (v := ?_) (a' := ?_) #[true, true, true, true, true, true, true, true, true, true, true, true, true, true, true, true, true, true, true, false, false, false, false, false, false, false, false, false, false, false, false, false, false] rfl rfl (any_of HT_.out (by kernel_rfl)) (fun _ _ _ h => h) (Or.inl ⟨by rfl, ?_⟩) ?_ ?_
                   rotate_left
                   ·intro w'
                    go_simp
                    with_reducible rfl
                   rotate_left
                   ·simp only [Act.put, List.setIfInBounds_toArray, List.set_cons_zero, List.set_cons_succ, i64_w, i32_w]
                    rfl
                   refine pure_ (i := 19) (N := some 92) (v := ?_) (a' := ?_) #[true, true, true, true, true, true, true, true, true, true, true, true, true, true, true, true, true, true, true, true, false, false, false, false, false, false, false, false, false, false, false, false, false] rfl rfl (any_of HT_.out (by kernel_rfl)) (fun _ _ _ h => h) (Or.inl ⟨by rfl, ?_⟩) ?_ ?_
                   rotate_left
                   ·intro w'
                    go_simp
                    with_reducible rfl
                   rotate_left
                   ·simp only [Act.put, List.setIfInBounds_toArray, List.set_cons_zero, List.set_cons_succ, i64_w, i32_w]
                    rfl
                   refine pure_ (i := 20) (N := some 93) (v := ?_) (a' := ?_) #[true, true, true, true, true, true, true, true, true, true, true, true, true, true, true, true, true, true, true, true, true, false, false, false, false, false, false, false, false, false, false, false, false] rfl rfl (any_of HT_.out (by kernel_rfl)) (fun _ _ _ h => h) (Or.inl ⟨by rfl, ?_⟩) ?_ ?_
                   rotate_left
                   ·intro w'
                    go_simp
                    with_reducible rfl
                   rotate_left
                   ·simp only [Act.put, List.setIfInBounds_toArray, List.set_cons_zero, List.set_cons_succ, i64_w, i32_w]
                    rfl
                   refine take_ (i := 21) (N := some 94) (v := ?_) (a' := ?_) #[true, true, true, true, true, true, true, true, true, true, true, true, true, true, true, true, true, true, true, true, true, true, false, false, false, false, false, false, false, false, false, false, false] rfl rfl (take_ofW HT_.out HW_.out (by kernel_rfl)) (fun _ _ _ h => h) (Or.inl ⟨by rfl, ?_⟩) hHeld ?_ ?_
                   rotate_left
                   ·rintro w' ⟨s0, s1, s2, s3, s4, s5, s6, s7, s8⟩
                    go_simp
                    with_reducible rfl
                   rotate_left
                   ·simp only [Act.put, List.setIfInBounds_toArray, List.set_cons_zero, List.set_cons_succ, i64_w, i32_w]
                    rfl
                   refine pure_ (i := 22) (N := some 95) (v := ?_) (a' := ?_) #[true, true, true, true, true, true, true, true, true, true, true, true, true, true, true, true, true, true, true, true, true, true, true, false, false, false, false, false, false, false, false, false, false] rfl rfl (any_of HT_.out (by kernel_rfl)) (fun _ _ _ h => h) (Or.inl ⟨by rfl, ?_⟩) ?_ ?_
                   rotate_left
                   ·intro w'
                    go_simp
                    with_reducible rfl
                   rotate_left
                   ·simp only [Act.put, List.setIfInBounds_toArray, List.set_cons_zero, List.set_cons_succ, i64_w, i32_w]
                    rfl
                   refine pure_ (i := 23) (N := some 96) (v := ?_) (a' := ?_) #[true, true, true, true, true, true, true, true, true, true, true, true, true, true, true, true, true, true, true, true, true, true, true, true, false, false, false, false, false, false, false, false, false] rfl rfl (any_of HT_.out (by kernel_rfl)) (fun _ _ _ h => h) (Or.inl ⟨by rfl, ?_⟩) ?_ ?_
                   rotate_left
                   ·intro w'
                    go_simp
                    with_reducible rfl
                   rotate_left
                   ·simp only [Act.put, List.setIfInBounds_toArray, List.set_cons_zero, List.set_cons_succ, i64_w, i32_w]
                    rfl
                   refine pure_ (i := 24) (N := some 97) (v := ?_) (a' := ?_) #[true, true, true, true, true, true, true, true, true, true, true, true, true, true, true, true, true, true, true, true, true, true, true, true, true, false, false, false, false, false, false, false, false] rfl rfl (any_of HT_.out (by kernel_rfl)) (fun _ _ _ h => h) (Or.inl ⟨by rfl, ?_⟩) ?_ ?_
                   rotate_left
                   ·intro w'
                    go_simp
                    with_reducible rfl
                   rotate_left
                   ·simp only [Act.put, List.setIfInBounds_toArray, List.set_cons_zero, List.set_cons_succ, i64_w, i32_w]
                    rfl
                   refine pure_ (i := 25) (N := some 98) (v := ?_) (a' := ?_) #[true, true, true, true, true, true, true, true, true, true, true, true, true, true, true, true, true, true, true, true, true, true, true, true, true, true, false, false, false, false, false, false, false] rfl rfl (any_of HT_.out (by kernel_rfl)) (fun _ _ _ h => h) (Or.inl ⟨by rfl, ?_⟩) ?_ ?_
                   rotate_left
                   ·intro w'
                    go_simp
                    with_reducible rfl
                   rotate_left
                   ·simp only [Act.put, List.setIfInBounds_toArray, List.set_cons_zero, List.set_cons_succ, i64_w, i32_w]
                    rfl
                   refine pure_ (i := 26) (N := some 99) (v := ?_) (a' := ?_) #[true, true, true, true, true, true, true, true, true, true, true, true, true, true, true, true, true, true, true, true, true, true, true, true, true, true, true, false, false, false, false, false, false] rfl rfl (any_of HT_.out (by kernel_rfl)) (fun _ _ _ h => h) (Or.inl ⟨by rfl, ?_⟩) ?_ ?_
                   rotate_left
                   ·intro w'
                    go_simp
                    with_reducible rfl
                   rotate_left
                   ·simp only [Act.put, List.setIfInBounds_toArray, List.set_cons_zero, List.set_cons_succ, i64_w, i32_w]
                    rfl
                   refine pure_ (i := 27) (N := some 100) (v := ?_) (a' := ?_) #[true, true, true, true, true, true, true, true, true, true, true, true, true, true, true, true, true, true, true, true, true, true, true, true, true, true, true, true, false, false, false, false, false] rfl rfl (any_of HT_.out (by kernel_rfl)) (fun _ _ _ h => h) (Or.inl ⟨by rfl, ?_⟩) ?_ ?_
                   rotate_left
                   ·intro w'
                    go_simp
                    with_reducible rfl
                   rotate_left
                   ·simp only [Act.put, List.setIfInBounds_toArray, List.set_cons_zero, List.set_cons_succ, i64_w, i32_w]
                    rfl
                   refine pure_ (i := 28) (N := some 101) (v := ?_) (a' := ?_) #[true, true, true, true, true, true, true, true, true, true, true, true, true, true, true, true, true, true, true, true, true, true, true, true, true, true, true, true, true, false, false, false, false] rfl rfl (any_of HT_.out (by kernel_rfl)) (fun _ _ _ h => h) (Or.inl ⟨by rfl, ?_⟩) ?_ ?_
                   rotate_left
                   ·intro w'
                    go_simp
                    with_reducible rfl
                   rotate_left
                   ·simp only [Act.put, List.setIfInBounds_toArray, List.set_cons_zero, List.set_cons_succ, i64_w, i32_w]
                    rfl
                   refine take_ (i := 29) (N := some 102) (v := ?_) (a' := ?_) #[true, true, true, true, true, true, true, true, true, true, true, true, true, true, true, true, true, true, true, true, true, true, true, true, true, true, true, true, true, true, false, false, false] rfl rfl (take_ofW HT_.out HW_.out (by kernel_rfl)) (fun _ _ _ h => h) (Or.inl ⟨by rfl, ?_⟩) hHeld ?_ ?_
                   rotate_left
                   ·rintro w' ⟨s0, s1, s2, s3, s4, s5, s6, s7, s8⟩
                    go_simp
                    with_reducible rfl
                   rotate_left
                   ·simp only [Act.put, List.setIfInBounds_toArray, List.set_cons_zero, List.set_cons_succ, i64_w, i32_w]
                    rfl
                   refine pure_ (i := 30) (N := some 103) (v := ?_) (a' := ?_) #[true, true, true, true, true, true, true, true, true, true, true, true, true, true, true, true, true, true, true, true, true, true, true, true, true, true, true, true, true, true, true, false, false] rfl rfl (any_of HT_.out (by kernel_rfl)) (fun _ _ _ h => h) (Or.inl ⟨by rfl, ?_⟩) ?_ ?_
                   rotate_left
                   ·intro w'
                    go_simp
                    with_reducible rfl
                   rotate_left
                   ·simp only [Act.put, List.setIfInBounds_toArray, List.set_cons_zero, List.set_cons_succ, i64_w, i32_w]
                    rfl
                   refine pure_ (i := 31) (N := some 104) (v := ?_) (a' := ?_) #[true, true, true, true, true, true, true, true, true, true, true, true, true, true, true, true, true, true, true, true, true, true, true, true, true, true, true, true, true, true, true, true, false] rfl rfl (any_of HT_.out (by kernel_rfl)) (fun _ _ _ h => h) (Or.inl ⟨by rfl, ?_⟩) ?_ ?_
                   rotate_left
                   ·intro w'
                    go_simp
                    with_reducible rfl
                   rotate_left
                   ·simp only [Act.put, List.setIfInBounds_toArray, List.set_cons_zero, List.set_cons_succ, i64_w, i32_w]
                    rfl
                   refine pure_ (i := 32) (N := some 105) (v := ?_) (a' := ?_) #[true, true, true, true, true, true, true, true, true, true, true, true, true, true, true, true, true, true, true, true, true, true, true, true, true, true, true, true, true, true, true, true, true] rfl rfl (any_of HT_.out (by kernel_rfl)) (fun _ _ _ h => h) (Or.inl ⟨by rfl, ?_⟩) ?_ ?_
                   rotate_left
                   ·intro w'
                    go_simp
                    with_reducible rfl
                   rotate_left
                   ·simp only [Act.put, List.setIfInBounds_toArray, List.set_cons_zero, List.set_cons_succ, i64_w, i32_w]
                    rfl
                   refine done_ (done_of HT_.out (by kernel_rfl)) ?_
                   try go_wp2
                   go_roundg k3
                   case measure => have := HK1.out; have := HK2.out; have := HK3.out; omega
                   case rel => exact ⟨(wrap64 (x4_2 + 1)), (by first | rfl | (simp; done) | (simp [*]; done)), H', ⟨by have := HK1.out; have := HK2.out; have := HK3.out; omega⟩, ⟨mvR HO_3⟩, ⟨mvB HB⟩⟩
                  ·rw [if_neg c55] at H
                   have c55b0 : (((rd_T26 t260 x4_2).f0).toList == ([105, 110] : List UInt8)) = false := beq_eq_false_iff_ne.mpr c55
                   have c55b1 : (((rd_T26 t260 x4_2).f0).toList != ([105, 110] : List UInt8)) = true := bne_iff_ne.mpr c55
                   obtain rfl := Option.some.inj H
                   have p270 := dT (0 ≤ (x4_2 : Int))
                   have q270 := dT (x4_2 < (t260.length : Int))
                   obtain ⟨ad270, e270, hx270_0, hx270_1, hx270_2⟩ := at_T26 (Kd.R_reads' HO_3.out).2.2 x4_2 p270 q270
                   obtain rfl : ad263 = ad270 := (by injection e270)
                   replace p270 := eq_true p270
                   replace q270 := eq_true q270
                   try go_wp2_with (first | ((with_reducible refine gate_dst (N := 71) rfl ?_); refine Kd.R_lit (Kd.int .i32) _ 21 ?hg (N := 71) ?hd (xs := ([(rd_T26 t260 x4_2).f1] : List Int)) (inner := [.int .i32 ((rd_T26 t260 x4_2).f1)]) (ok := fun _ => True) (okp := fun _ => True) ?hr ?hp (fun _ hk => hk) trivial (Below.refl _ _) (Nat.le_refl _) (by simp) ?_; (case hd => rfl); (case hg => rfl); (case hr => first | (go_simp; done) | (go_simp; rfl)); (case hp => exact (Reps.one (show Kd.M (Kd.int .i32) _ _ _ ((rd_T26 t260 x4_2).f1) [.int .i32 ((rd_T26 t260 x4_2).f1)] from rfl) (Reps.none _ _))); intro v272 w63 ho64 hb hg_ hnew_; clear hg_ hnew_; (first | rw [← Ny271.out] at ho64 | (simp only [Int.reduceToNat] at ho64; rw [← Ny271.out] at ho64)); have n0_ := Aside0.mk (Kd.R_below (mvR HO_3) hb); have n1_ := Aside0.mk (Kd.R_below (mvR HO_41) hb); have n2_ := Aside0.mk (Kd.R_lower ho64 (below_size (mvB HB))); have n3_ := Aside0.mk (below_step (mvB HB) hb); clear HO_3; clear HO_41; clear HB; have HO_3 := n0_; have HO_41 := n1_; have HO273 := n2_; have HB := n3_; clear n0_ n1_ n2_ n3_; clear hb ho64; obtain ⟨Ao65, co65, eo65⟩ := Kd.R_slice HO273.out; subst eo65) | ((with_reducible refine gate_callee (f := 16) rfl ?_); refine goesL_ (some 72) rfl rfl Tryd.func16 (by kernel_rfl) rfl #[.slice Ao65 y271.length co65] rfl (by (try simp only [List.map_toArray, List.map_cons, List.map_nil]); first | done | rfl | (simp only [List.length_drop, List.length_take]; rfl)) ?_; (with_reducible refine (selvedgeref02_String.calls k3 _ _ y271 t274 _ ?side1 ?side2 A41.out).mono ?_); (case side1 => repeat (first | exact (Kd.R_reads' HO273.out).2.2 | (with_reducible refine Kd.C_alloc ?_ _) | (with_reducible refine Kd.C_drewN ?_ _) | (with_reducible refine Kd.C_drew ?_))); (case side2 => exact (Kd.R_reads' HO273.out).2.1); rintro e w66 ⟨rfl, hb⟩; refine ⟨_, rfl, ?_⟩; have n0_ := Aside0.mk (Kd.R_below (mvR HO_3) hb); have n1_ := Aside0.mk (Kd.R_below (mvR HO_41) hb); have n2_ := Aside0.mk (Kd.R_below (mvR HO273) hb); have n3_ := Aside0.mk (below_step (mvB HB) hb); clear HO_3; clear HO_41; clear HO273; clear HB; have HO_3 := n0_; have HO_41 := n1_; have HO273 := n2_; have HB := n3_; clear n0_ n1_ n2_ n3_; (try clear hb); (try clear hb2); (try clear hk); (try clear hi)))
                   have n0_ := Aside0.mk (Kd.R_drew HO_3.out)
                   have n1_ := Aside0.mk (Kd.R_drew HO_41.out)
                   have n2_ := Aside0.mk (Kd.R_drew HO273.out)
                   have n3_ := Aside0.mk (below_drew1 HB.out)
                   clear HO_3
                   clear HO_41
                   clear HO273
                   clear HB
                   have HO_3 := n0_
                   have HO_41 := n1_
                   have HO273 := n2_
                   have HB := n3_
                   clear n0_ n1_ n2_ n3_
                   have p277 := dT (0 ≤ (x4_2 : Int))
                   have q277 := dT (x4_2 < (t260.length : Int))
                   obtain ⟨ad277, e277, hx277_0, hx277_1, hx277_2⟩ := at_T26 (Kd.R_reads' HO_3.out).2.2 x4_2 p277 q277
                   obtain rfl : ad263 = ad277 := (by injection e277)
                   replace p277 := eq_true p277
                   replace q277 := eq_true q277
                   have p278 := dT (0 ≤ (x4_2 : Int))
                   have q278 := dT (x4_2 < (t260.length : Int))
                   obtain ⟨ad278, e278, hx278_0, hx278_1, hx278_2⟩ := at_T26 (Kd.R_reads' HO_3.out).2.2 x4_2 p278 q278
                   obtain rfl : ad263 = ad278 := (by injection e278)
                   replace p278 := eq_true p278
                   replace q278 := eq_true q278
                   have p279 := dT (0 ≤ (x4_2 : Int))
                   have q279 := dT (x4_2 < (t260.length : Int))
                   obtain ⟨ad279, e279, hx279_0, hx279_1, hx279_2⟩ := at_T26 (Kd.R_reads' HO_3.out).2.2 x4_2 p279 q279
                   obtain rfl : ad263 = ad279 := (by injection e279)
                   replace p279 := eq_true p279
                   replace q279 := eq_true q279
                   refine start_ (n := 33) (S := fun w' => w'.cell? (ad263.add ((x4_2).toNat * 3)) = some (.string ((rd_T26 t260 x4_2).f0)) ∧ w'.cell? ⟨(ad263.add ((x4_2).toNat * 3)).block, (ad263.add ((x4_2).toNat * 3)).off + 1, none⟩ = some (.int .i32 ((rd_T26 t260 x4_2).f1)) ∧ w'.cell? ⟨(ad263.add ((x4_2).toNat * 3)).block, (ad263.add ((x4_2).toNat * 3)).off + 2, none⟩ = some (.bool ((rd_T26 t260 x4_2).f2)) ∧ w'.cell? (ad263.add ((x4_2).toNat * 3)) = some (.string ((rd_T26 t260 x4_2).f0)) ∧ w'.cell? ⟨(ad263.add ((x4_2).toNat * 3)).block, (ad263.add ((x4_2).toNat * 3)).off + 1, none⟩ = some (.int .i32 ((rd_T26 t260 x4_2).f1)) ∧ w'.cell? ⟨(ad263.add ((x4_2).toNat * 3)).block, (ad263.add ((x4_2).toNat * 3)).off + 2, none⟩ = some (.bool ((rd_T26 t260 x4_2).f2)) ∧ w'.cell? (ad263.add ((x4_2).toNat * 3)) = some (.string ((rd_T26 t260 x4_2).f0)) ∧ w'.cell? ⟨(ad263.add ((x4_2).toNat * 3)).block, (ad263.add ((x4_2).toNat * 3)).off + 1, none⟩ = some (.int .i32 ((rd_T26 t260 x4_2).f1)) ∧ w'.cell? ⟨(ad263.add ((x4_2).toNat * 3)).block, (ad263.add ((x4_2).toNat * 3)).off + 2, none⟩ = some (.bool ((rd_T26 t260 x4_2).f2))) (ds := []) #[false, false, false, false, false, false, false, false, false, false, false, false, false, false, false, false, false, false, false, false, false, false, false, false, false, false, false, false, false, false, false, false, false] (by kernel_rfl) rfl rfl ⟨hx277_0, hx277_1, hx277_2, hx278_0, hx278_1, hx278_2, hx279_0, hx279_1, hx279_2⟩ (fun hHeld => ?_); refine with_tabW selvedgelaw03_CharrefKnown.tab19 selvedgelaw03_CharrefKnown.bits19 (fun HT_ HW_ => ?_)
                   generalize w66.drew = w67 at HO_3 HO_41 HO273 HB hx277_0 hx277_1 hx277_2 hx278_0 hx278_1 hx278_2 hx279_0 hx279_1 hx279_2 hHeld ⊢
                   refine pure_ (i := 0) (N := some 73) (v := ?_) (a' := ?_) #[true, false, false, false, false, false, false, false, false, false, false, false, false, false, false, false, false, false, false, false, false, false, false, false, false, false, false, false, false, false, false, false, false] rfl rfl (any_of HT_.out (by kernel_rfl)) (fun _ _ _ h => h) (Or.inl ⟨by rfl, ?_⟩) ?_ ?_
                   rotate_left
                   ·intro w'
                    go_simp
                    with_reducible rfl
                   rotate_left
                   ·simp only [Act.put, List.setIfInBounds_toArray, List.set_cons_zero, List.set_cons_succ, i64_w, i32_w]
                    rfl
                   refine pure_ (i := 1) (N := some 74) (v := ?_) (a' := ?_) #[true, true, false, false, false, false, false, false, false, false, false, false, false, false, false, false, false, false, false, false, false, false, false, false, false, false, false, false, false, false, false, false, false] rfl rfl (any_of HT_.out (by kernel_rfl)) (fun _ _ _ h => h) (Or.inl ⟨by rfl, ?_⟩) ?_ ?_
                   rotate_left
                   ·intro w'
                    go_simp
                    with_reducible rfl
                   rotate_left
                   ·simp only [Act.put, List.setIfInBounds_toArray, List.set_cons_zero, List.set_cons_succ, i64_w, i32_w]
                    rfl
                   refine pure_ (i := 3) (N := some 76) (v := ?_) (a' := ?_) #[true, true, false, true, false, false, false, false, false, false, false, false, false, false, false, false, false, false, false, false, false, false, false, false, false, false, false, false, false, false, false, false, false] rfl rfl (any_of HT_.out (by kernel_rfl)) (fun _ _ _ h => h) (Or.inl ⟨by rfl, ?_⟩) ?_ ?_
                   rotate_left
                   ·intro w'
                    go_simp
                    with_reducible rfl
                   rotate_left
                   ·simp only [Act.put, List.setIfInBounds_toArray, List.set_cons_zero, List.set_cons_succ, i64_w, i32_w]
                    rfl
                   refine one_ (i := 2) (N := some 75) #[true, true, true, true, false, false, false, false, false, false, false, false, false, false, false, false, false, false, false, false, false, false, false, false, false, false, false, false, false, false, false, false, false] rfl rfl (one_of HT_.out (by kernel_rfl)) (by decide) (fun K hK => ?_)
                   refine goes_ Tryd.func14 (by kernel_rfl) rfl #[.string (((⟨#[38]⟩ : ByteArray) ++ ((rd_T26 t260 x4_2).f0)) ++ (⟨#[59]⟩ : ByteArray)), .bool true] (by rfl) rfl rfl (by (try simp only [List.map_toArray, List.map_cons, List.map_nil]); first | done | rfl | (simp only [List.length_drop, List.length_take]; rfl)) ?_
                   with_reducible refine (charref_Decode.calls k3 (((⟨#[38]⟩ : ByteArray) ++ ((rd_T26 t260 x4_2).f0)) ++ (⟨#[59]⟩ : ByteArray)) true t275 _ A43.out (by exact HT.out.below (mvB HB))).mono ?_
                   rintro e w68 ⟨rfl, hb⟩
                   have HS0_ := (hb.cell (World.block_lt_of_cell? _ _ (hHeld.1))).trans (hHeld.1)
                   have HS1_ := (hb.cell (World.block_lt_of_cell? _ _ (hHeld.2.1))).trans (hHeld.2.1)
                   have HS2_ := (hb.cell (World.block_lt_of_cell? _ _ (hHeld.2.2.1))).trans (hHeld.2.2.1)
                   have HS3_ := (hb.cell (World.block_lt_of_cell? _ _ (hHeld.2.2.2.1))).trans (hHeld.2.2.2.1)
                   have HS4_ := (hb.cell (World.block_lt_of_cell? _ _ (hHeld.2.2.2.2.1))).trans (hHeld.2.2.2.2.1)
                   have HS5_ := (hb.cell (World.block_lt_of_cell? _ _ (hHeld.2.2.2.2.2.1))).trans (hHeld.2.2.2.2.2.1)
                   have HS6_ := (hb.cell (World.block_lt_of_cell? _ _ (hHeld.2.2.2.2.2.2.1))).trans (hHeld.2.2.2.2.2.2.1)
                   have HS7_ := (hb.cell (World.block_lt_of_cell? _ _ (hHeld.2.2.2.2.2.2.2.1))).trans (hHeld.2.2.2.2.2.2.2.1)
                   have HS8_ := (hb.cell (World.block_lt_of_cell? _ _ (hHeld.2.2.2.2.2.2.2.2))).trans (hHeld.2.2.2.2.2.2.2.2)
                   refine ⟨_, rfl, ?_⟩
                   have n0_ := Aside0.mk (Kd.R_below (mvR HO_3) hb)
                   have n1_ := Aside0.mk (Kd.R_below (mvR HO_41) hb)
                   have n2_ := Aside0.mk (Kd.R_below (mvR HO273) hb)
                   have n3_ := Aside0.mk (below_step (mvB HB) hb)
                   clear HO_3
                   clear HO_41
                   clear HO273
                   clear HB
                   have HO_3 := n0_
                   have HO_41 := n1_
                   have HO273 := n2_
                   have HB := n3_
                   clear n0_ n1_ n2_ n3_
                   (try clear hb)
                   (try clear hb2)
                   (try clear hk)
                   (try clear hi)
                   refine hK.out _ _ ⟨HS0_, HS1_, HS2_, HS3_, HS4_, HS5_, HS6_, HS7_, HS8_⟩ (fun hHeld => ?_)
                   clear hK K
                   refine norm_ (a' := ?_) ?_ ?_
                   rotate_left
                   ·show Act.put _ (some 75) _ = _
                    simp only [Act.put, List.setIfInBounds_toArray, List.set_cons_zero, List.set_cons_succ, i64_w, i32_w]
                    rfl
                   refine pure_ (i := 4) (N := some 77) (v := ?_) (a' := ?_) #[true, true, true, true, true, false, false, false, false, false, false, false, false, false, false, false, false, false, false, false, false, false, false, false, false, false, false, false, false, false, false, false, false] rfl rfl (any_of HT_.out (by kernel_rfl)) (fun _ _ _ h => h) (Or.inl ⟨by rfl, ?_⟩) ?_ ?_
                   rotate_left
                   ·intro w'
                    go_simp
                    with_reducible rfl
                   rotate_left
                   ·simp only [Act.put, List.setIfInBounds_toArray, List.set_cons_zero, List.set_cons_succ, i64_w, i32_w]
                    rfl
                   refine pure_ (i := 5) (N := some 78) (v := ?_) (a' := ?_) #[true, true, true, true, true, true, false, false, false, false, false, false, false, false, false, false, false, false, false, false, false, false, false, false, false, false, false, false, false, false, false, false, false] rfl rfl (any_of HT_.out (by kernel_rfl)) (fun _ _ _ h => h) (Or.inl ⟨by rfl, ?_⟩) ?_ ?_
                   rotate_left
                   ·intro w'
                    go_simp
                    with_reducible rfl
                   rotate_left
                   ·simp only [Act.put, List.setIfInBounds_toArray, List.set_cons_zero, List.set_cons_succ, i64_w, i32_w]
                    rfl
                   refine pure_ (i := 6) (N := some 79) (v := ?_) (a' := ?_) #[true, true, true, true, true, true, true, false, false, false, false, false, false, false, false, false, false, false, false, false, false, false, false, false, false, false, false, false, false, false, false, false, false] rfl rfl (any_of HT_.out (by kernel_rfl)) (fun _ _ _ h => h) (Or.inl ⟨by rfl, ?_⟩) ?_ ?_
                   rotate_left
                   ·intro w'
                    go_simp
                    with_reducible rfl
                   rotate_left
                   ·simp only [Act.put, List.setIfInBounds_toArray, List.set_cons_zero, List.set_cons_succ, i64_w, i32_w]
                    rfl
                   refine pure_ (i := 8) (N := some 81) (v := ?_) (a' := ?_) #[true, true, true, true, true, true, true, false, true, false, false, false, false, false, false, false, false, false, false, false, false, false, false, false, false, false, false, false, false, false, false, false, false] rfl rfl (any_of HT_.out (by kernel_rfl)) (fun _ _ _ h => h) (Or.inl ⟨by rfl, ?_⟩) ?_ ?_
                   rotate_left
                   ·intro w'
                    go_simp
                    with_reducible rfl
                   rotate_left
                   ·simp only [Act.put, List.setIfInBounds_toArray, List.set_cons_zero, List.set_cons_succ, i64_w, i32_w]
                    rfl
                   refine pure_ (i := 10) (N := some 83) (v := ?_) (a' := ?_) #[true, true, true, true, true, true, true, false, true, false, true, false, false, false, false, false, false, false, false, false, false, false, false, false, false, false, false, false, false, false, false, false, false] rfl rfl (any_of HT_.out (by kernel_rfl)) (fun _ _ _ h => h) (Or.inl ⟨by rfl, ?_⟩) ?_ ?_
                   rotate_left
                   ·intro w'
                    go_simp
                    with_reducible rfl
                   rotate_left
                   ·simp only [Act.put, List.setIfInBounds_toArray, List.set_cons_zero, List.set_cons_succ, i64_w, i32_w]
                    rfl
                   refine pure_ (i := 11) (N := some 84) (v := ?_) (a' := ?_) #[true, true, true, true, true, true, true, false, true, false, true, true, false, false, false, false, false, false, false, false, false, false, false, false, false, false, false, false, false, false, false, false, false] rfl rfl (any_of HT_.out (by kernel_rfl)) (fun _ _ _ h => h) (Or.inl ⟨by rfl, ?_⟩) ?_ ?_
                   rotate_left
                   ·intro w'
                    go_simp
                    with_reducible rfl
                   rotate_left
                   ·simp only [Act.put, List.setIfInBounds_toArray, List.set_cons_zero, List.set_cons_succ, i64_w, i32_w]
                    rfl
                   refine pure_ (i := 12) (N := some 85) (v := ?_) (a' := ?_) #[true, true, true, true, true, true, true, false, true, false, true, true, true, false, false, false, false, false, false, false, false, false, false, false, false, false, false, false, false, false, false, false, false] rfl rfl (any_of HT_.out (by kernel_rfl)) (fun _ _ _ h => h) (Or.inl ⟨by rfl, ?_⟩) ?_ ?_
                   rotate_left
                   ·intro w'
                    go_simp
                    with_reducible rfl
                   rotate_left
                   ·simp only [Act.put, List.setIfInBounds_toArray, List.set_cons_zero, List.set_cons_succ, i64_w, i32_w]
                    rfl
                   refine pure_ (i := 13) (N := some 86) (v := ?_) (a' := ?_) #[true, true, true, true, true, true, true, false, true, false, true, true, true, true, false, false, false, false, false, false, false, false, false, false, false, false, false, false, false, false, false, false, false] rfl rfl (any_of HT_.out (by kernel_rfl)) (fun _ _ _ h => h) (Or.inl ⟨by rfl, ?_⟩) ?_ ?_
                   rotate_left
                   ·intro w'
                    go_simp
                    with_reducible rfl
                   rotate_left
                   ·simp only [Act.put, List.setIfInBounds_toArray, List.set_cons_zero, List.set_cons_succ, i64_w, i32_w]
                    rfl
                   refine take_ (i := 14) (N := some 87) (v := ?_) (a' := ?_) #[true, true, true, true, true, true, true, false, true, false, true, true, true, true, true, false, false, false, false, false, false, false, false, false, false, false, false, false, false, false, false, false, false] rfl rfl (take_ofW HT_.out HW_.out (by kernel_rfl)) (fun _ _ _ h => h) (Or.inl ⟨by rfl, ?_⟩) hHeld ?_ ?_
                   rotate_left
                   ·rintro w' ⟨s0, s1, s2, s3, s4, s5, s6, s7, s8⟩
                    go_simp
                    with_reducible rfl
                   rotate_left
                   ·simp only [Act.put, List.setIfInBounds_toArray, List.set_cons_zero, List.set_cons_succ, i64_w, i32_w]
                    rfl
                   refine one_ (i := 7) (N := some 80) #[true, true, true, true, true, true, true, true, true, false, true, true, true, true, true, false, false, false, false, false, false, false, false, false, false, false, false, false, false, false, false, false, false] rfl rfl (one_of HT_.out (by kernel_rfl)) (by decide) (fun K hK => ?_)
                   refine goes_ Tryd.func14 (by kernel_rfl) rfl #[.string ((⟨#[38]⟩ : ByteArray) ++ ((rd_T26 t260 x4_2).f0)), .bool false] (by rfl) rfl rfl (by (try simp only [List.map_toArray, List.map_cons, List.map_nil]); first | done | rfl | (simp only [List.length_drop, List.length_take]; rfl)) ?_
                   with_reducible refine (charref_Decode.calls k3 ((⟨#[38]⟩ : ByteArray) ++ ((rd_T26 t260 x4_2).f0)) false t276 _ A45.out (by exact HT.out.below (mvB HB))).mono ?_
                   rintro e w69 ⟨rfl, hb⟩
                   have HS0_ := (hb.cell (World.block_lt_of_cell? _ _ (hHeld.1))).trans (hHeld.1)
                   have HS1_ := (hb.cell (World.block_lt_of_cell? _ _ (hHeld.2.1))).trans (hHeld.2.1)
                   have HS2_ := (hb.cell (World.block_lt_of_cell? _ _ (hHeld.2.2.1))).trans (hHeld.2.2.1)
                   have HS3_ := (hb.cell (World.block_lt_of_cell? _ _ (hHeld.2.2.2.1))).trans (hHeld.2.2.2.1)
                   have HS4_ := (hb.cell (World.block_lt_of_cell? _ _ (hHeld.2.2.2.2.1))).trans (hHeld.2.2.2.2.1)
                   have HS5_ := (hb.cell (World.block_lt_of_cell? _ _ (hHeld.2.2.2.2.2.1))).trans (hHeld.2.2.2.2.2.1)
                   have HS6_ := (hb.cell (World.block_lt_of_cell? _ _ (hHeld.2.2.2.2.2.2.1))).trans (hHeld.2.2.2.2.2.2.1)
                   have HS7_ := (hb.cell (World.block_lt_of_cell? _ _ (hHeld.2.2.2.2.2.2.2.1))).trans (hHeld.2.2.2.2.2.2.2.1)
                   have HS8_ := (hb.cell (World.block_lt_of_cell? _ _ (hHeld.2.2.2.2.2.2.2.2))).trans (hHeld.2.2.2.2.2.2.2.2)
                   refine ⟨_, rfl, ?_⟩
                   have n0_ := Aside0.mk (Kd.R_below (mvR HO_3) hb)
                   have n1_ := Aside0.mk (Kd.R_below (mvR HO_41) hb)
                   have n2_ := Aside0.mk (Kd.R_below (mvR HO273) hb)
                   have n3_ := Aside0.mk (below_step (mvB HB) hb)
                   clear HO_3
                   clear HO_41
                   clear HO273
                   clear HB
                   have HO_3 := n0_
                   have HO_41 := n1_
                   have HO273 := n2_
                   have HB := n3_
                   clear n0_ n1_ n2_ n3_
                   (try clear hb)
                   (try clear hb2)
                   (try clear hk)
                   (try clear hi)
                   refine hK.out _ _ ⟨HS0_, HS1_, HS2_, HS3_, HS4_, HS5_, HS6_, HS7_, HS8_⟩ (fun hHeld => ?_)
                   clear hK K
                   refine norm_ (a' := ?_) ?_ ?_
                   rotate_left
                   ·show Act.put _ (some 80) _ = _
                    simp only [Act.put, List.setIfInBounds_toArray, List.set_cons_zero, List.set_cons_succ, i64_w, i32_w]
                    rfl
                   refine pure_ (i := 9) (N := some 82) (v := ?_) (a' := ?_) #[true, true, true, true, true, true, true, true, true, true, true, true, true, true, true, false, false, false, false, false, false, false, false, false, false, false, false, false, false, false, false, false, false] rfl rfl (any_of HT_.out (by kernel_rfl)) (fun _ _ _ h => h) (Or.inl ⟨by rfl, ?_⟩) ?_ ?_
                   rotate_left
                   ·intro w'
                    go_simp
                    with_reducible rfl
                   rotate_left
                   ·simp only [Act.put, List.setIfInBounds_toArray, List.set_cons_zero, List.set_cons_succ, i64_w, i32_w]
                    rfl
                   refine pure_ (i := 15) (N := some 88) (v := ?_) (a' := ?_) #[true, true, true, true, true, true, true, true, true, true, true, true, true, true, true, true, false, false, false, false, false, false, false, false, false, false, false, false, false, false, false, false, false] rfl rfl (any_of HT_.out (by kernel_rfl)) (fun _ _ _ h => h) (Or.inl ⟨by rfl, ?_⟩) ?_ ?_
                   rotate_left
                   ·intro w'
                    go_simp
                    with_reducible rfl
                   rotate_left
                   ·simp only [Act.put, List.setIfInBounds_toArray, List.set_cons_zero, List.set_cons_succ, i64_w, i32_w]
                    rfl
                   refine pure_ (i := 16) (N := some 89) (v := ?_) (a' := ?_) #[true, true, true, true, true, true, true, true, true, true, true, true, true, true, true, true, true, false, false, false, false, false, false, false, false, false, false, false, false, false, false, false, false] rfl rfl (any_of HT_.out (by kernel_rfl)) (fun _ _ _ h => h) (Or.inl ⟨by rfl, ?_⟩) ?_ ?_
                   rotate_left
                   ·intro w'
                    go_simp
                    with_reducible rfl
                   rotate_left
                   ·simp only [Act.put, List.setIfInBounds_toArray, List.set_cons_zero, List.set_cons_succ, i64_w, i32_w]
                    rfl
                   refine pure_ (i := 17) (N := some 90) (v := ?_) (a' := ?_) #[true, true, true, true, true, true, true, true, true, true, true, true, true, true, true, true, true, true, false, false, false, false, false, false, false, false, false, false, false, false, false, false, false] rfl rfl (any_of HT_.out (by kernel_rfl)) (fun _ _ _ h => h) (Or.inl ⟨by rfl, ?_⟩) ?_ ?_
                   rotate_left
                   ·intro w'
                    go_simp
                    with_reducible rfl
                   rotate_left
                   ·simp only [Act.put, List.setIfInBounds_toArray, List.set_cons_zero, List.set_cons_succ, i64_w, i32_w]
                    rfl
                   refine pure_ (i := 18) (N := some 91) (v := ?_) (a' := ?_) #[true, true, true, true, true, true, true, true, true, true, true, true, true, true, true, true, true, true, true, false, false, false, false, false, false, false, false, false, false, false, false, false, false] rfl rfl (any_of HT_.out (by kernel_rfl)) (fun _ _ _ h => h) (Or.inl ⟨by rfl, ?_⟩) ?_ ?_
                   rotate_left
                   ·intro w'
                    go_simp
                    with_reducible rfl
                   rotate_left
                   ·simp only [Act.put, List.setIfInBounds_toArray, List.set_cons_zero, List.set_cons_succ, i64_w, i32_w]
                    rfl
                   refine pure_ (i := 19) (N := some 92) (v := ?_) (a' := ?_) #[true, true, true, true, true, true, true, true, true, true, true, true, true, true, true, true, true, true, true, true, false, false, false, false, false, false, false, false, false, false, false, false, false] rfl rfl (any_of HT_.out (by kernel_rfl)) (fun _ _ _ h => h) (Or.inl ⟨by rfl, ?_⟩) ?_ ?_
                   rotate_left
                   ·intro w'
                    go_simp
                    with_reducible rfl
                   rotate_left
                   ·simp only [Act.put, List.setIfInBounds_toArray, List.set_cons_zero, List.set_cons_succ, i64_w, i32_w]
                    rfl
                   refine pure_ (i := 20) (N := some 93) (v := ?_) (a' := ?_) #[true, true, true, true, true, true, true, true, true, true, true, true, true, true, true, true, true, true, true, true, true, false, false, false, false, false, false, false, false, false, false, false, false] rfl rfl (any_of HT_.out (by kernel_rfl)) (fun _ _ _ h => h) (Or.inl ⟨by rfl, ?_⟩) ?_ ?_
                   rotate_left
                   ·intro w'
                    go_simp
                    with_reducible rfl
                   rotate_left
                   ·simp only [Act.put, List.setIfInBounds_toArray, List.set_cons_zero, List.set_cons_succ, i64_w, i32_w]
                    rfl
                   refine take_ (i := 21) (N := some 94) (v := ?_) (a' := ?_) #[true, true, true, true, true, true, true, true, true, true, true, true, true, true, true, true, true, true, true, true, true, true, false, false, false, false, false, false, false, false, false, false, false] rfl rfl (take_ofW HT_.out HW_.out (by kernel_rfl)) (fun _ _ _ h => h) (Or.inl ⟨by rfl, ?_⟩) hHeld ?_ ?_
                   rotate_left
                   ·rintro w' ⟨s0, s1, s2, s3, s4, s5, s6, s7, s8⟩
                    go_simp
                    with_reducible rfl
                   rotate_left
                   ·simp only [Act.put, List.setIfInBounds_toArray, List.set_cons_zero, List.set_cons_succ, i64_w, i32_w]
                    rfl
                   refine pure_ (i := 22) (N := some 95) (v := ?_) (a' := ?_) #[true, true, true, true, true, true, true, true, true, true, true, true, true, true, true, true, true, true, true, true, true, true, true, false, false, false, false, false, false, false, false, false, false] rfl rfl (any_of HT_.out (by kernel_rfl)) (fun _ _ _ h => h) (Or.inl ⟨by rfl, ?_⟩) ?_ ?_
                   rotate_left
                   ·intro w'
                    go_simp
                    with_reducible rfl
                   rotate_left
                   ·simp only [Act.put, List.setIfInBounds_toArray, List.set_cons_zero, List.set_cons_succ, i64_w, i32_w]
                    rfl
                   refine pure_ (i := 23) (N := some 96) (v := ?_) (a' := ?_) #[true, true, true, true, true, true, true, true, true, true, true, true, true, true, true, true, true, true, true, true, true, true, true, true, false, false, false, false, false, false, false, false, false] rfl rfl (any_of HT_.out (by kernel_rfl)) (fun _ _ _ h => h) (Or.inl ⟨by rfl, ?_⟩) ?_ ?_
                   rotate_left
                   ·intro w'
                    go_simp
                    with_reducible rfl
                   rotate_left
                   ·simp only [Act.put, List.setIfInBounds_toArray, List.set_cons_zero, List.set_cons_succ, i64_w, i32_w]
                    rfl
                   refine pure_ (i := 24) (N := some 97) (v := ?_) (a' := ?_) #[true, true, true, true, true, true, true, true, true, true, true, true, true, true, true, true, true, true, true, true, true, true, true, true, true, false, false, false, false, false, false, false, false] rfl rfl (any_of HT_.out (by kernel_rfl)) (fun _ _ _ h => h) (Or.inl ⟨by rfl, ?_⟩) ?_ ?_
                   rotate_left
                   ·intro w'
                    go_simp
                    with_reducible rfl
                   rotate_left
                   ·simp only [Act.put, List.setIfInBounds_toArray, List.set_cons_zero, List.set_cons_succ, i64_w, i32_w]
                    rfl
                   refine pure_ (i := 25) (N := some 98) (v := ?_) (a' := ?_) #[true, true, true, true, true, true, true, true, true, true, true, true, true, true, true, true, true, true, true, true, true, true, true, true, true, true, false, false, false, false, false, false, false] rfl rfl (any_of HT_.out (by kernel_rfl)) (fun _ _ _ h => h) (Or.inl ⟨by rfl, ?_⟩) ?_ ?_
                   rotate_left
                   ·intro w'
                    go_simp
                    with_reducible rfl
                   rotate_left
                   ·simp only [Act.put, List.setIfInBounds_toArray, List.set_cons_zero, List.set_cons_succ, i64_w, i32_w]
                    rfl
                   refine pure_ (i := 26) (N := some 99) (v := ?_) (a' := ?_) #[true, true, true, true, true, true, true, true, true, true, true, true, true, true, true, true, true, true, true, true, true, true, true, true, true, true, true, false, false, false, false, false, false] rfl rfl (any_of HT_.out (by kernel_rfl)) (fun _ _ _ h => h) (Or.inl ⟨by rfl, ?_⟩) ?_ ?_
                   rotate_left
                   ·intro w'
                    go_simp
                    with_reducible rfl
                   rotate_left
                   ·simp only [Act.put, List.setIfInBounds_toArray, List.set_cons_zero, List.set_cons_succ, i64_w, i32_w]
                    rfl
                   refine pure_ (i := 27) (N := some 100) (v := ?_) (a' := ?_) #[true, true, true, true, true, true, true, true, true, true, true, true, true, true, true, true, true, true, true, true, true, true, true, true, true, true, true, true, false, false, false, false, false] rfl rfl (any_of HT_.out (by kernel_rfl)) (fun _ _ _ h => h) (Or.inl ⟨by rfl, ?_⟩) ?_ ?_
                   rotate_left
                   ·intro w'
                    go_simp
                    with_reducible rfl
                   rotate_left
                   ·simp only [Act.put, List.setIfInBounds_toArray, List.set_cons_zero, List.set_cons_succ, i64_w, i32_w]
                    rfl
                   refine pure_ (i := 28) (N := some 101) (v := ?_) (a' := ?_) #[true, true, true, true, true, true, true, true, true, true, true, true, true, true, true, true, true, true, true, true, true, true, true, true, true, true, true, true, true, false, false, false, false] rfl rfl (any_of HT_.out (by kernel_rfl)) (fun _ _ _ h => h) (Or.inl ⟨by rfl, ?_⟩) ?_ ?_
                   rotate_left
                   ·intro w'
                    go_simp
                    with_reducible rfl
                   rotate_left
                   ·simp only [Act.put, List.setIfInBounds_toArray, List.set_cons_zero, List.set_cons_succ, i64_w, i32_w]
                    rfl
                   refine take_ (i := 29) (N := some 102) (v := ?_) (a' := ?_) #[true, true, true, true, true, true, true, true, true, true, true, true, true, true, true, true, true, true, true, true, true, true, true, true, true, true, true, true, true, true, false, false, false] rfl rfl (take_ofW HT_.out HW_.out (by kernel_rfl)) (fun _ _ _ h => h) (Or.inl ⟨by rfl, ?_⟩) hHeld ?_ ?_
                   rotate_left
                   ·rintro w' ⟨s0, s1, s2, s3, s4, s5, s6, s7, s8⟩
                    go_simp
                    with_reducible rfl
                   rotate_left
                   ·simp only [Act.put, List.setIfInBounds_toArray, List.set_cons_zero, List.set_cons_succ, i64_w, i32_w]
                    rfl
                   refine pure_ (i := 30) (N := some 103) (v := ?_) (a' := ?_) #[true, true, true, true, true, true, true, true, true, true, true, true, true, true, true, true, true, true, true, true, true, true, true, true, true, true, true, true, true, true, true, false, false] rfl rfl (any_of HT_.out (by kernel_rfl)) (fun _ _ _ h => h) (Or.inl ⟨by rfl, ?_⟩) ?_ ?_
                   rotate_left
                   ·intro w'
                    go_simp
                    with_reducible rfl
                   rotate_left
                   ·simp only [Act.put, List.setIfInBounds_toArray, List.set_cons_zero, List.set_cons_succ, i64_w, i32_w]
                    rfl
                   refine pure_ (i := 31) (N := some 104) (v := ?_) (a' := ?_) #[true, true, true, true, true, true, true, true, true, true, true, true, true, true, true, true, true, true, true, true, true, true, true, true, true, true, true, true, true, true, true, true, false] rfl rfl (any_of HT_.out (by kernel_rfl)) (fun _ _ _ h => h) (Or.inl ⟨by rfl, ?_⟩) ?_ ?_
                   rotate_left
                   ·intro w'
                    go_simp
                    with_reducible rfl
                   rotate_left
                   ·simp only [Act.put, List.setIfInBounds_toArray, List.set_cons_zero, List.set_cons_succ, i64_w, i32_w]
                    rfl
                   refine pure_ (i := 32) (N := some 105) (v := ?_) (a' := ?_) #[true, true, true, true, true, true, true, true, true, true, true, true, true, true, true, true, true, true, true, true, true, true, true, true, true, true, true, true, true, true, true, true, true] rfl rfl (any_of HT_.out (by kernel_rfl)) (fun _ _ _ h => h) (Or.inl ⟨by rfl, ?_⟩) ?_ ?_
                   rotate_left
                   ·intro w'
                    go_simp
                    with_reducible rfl
                   rotate_left
                   ·simp only [Act.put, List.setIfInBounds_toArray, List.set_cons_zero, List.set_cons_succ, i64_w, i32_w]
                    rfl
                   refine done_ (done_of HT_.out (by kernel_rfl)) ?_
                   try go_wp2
                   go_ret
                   exact ⟨by first | rfl | (simp [errW_none, errW_some] <;> rfl) | (simp [*, errW_none, errW_some] <;> rfl), mvB HB⟩
                ·rw [if_neg c46] at H
                 have c46b0 : ((t276.toList == t274.toList) != ((rd_T26 t260 x4_2).f2)) = false := by simpa using c46
                 (try (have c46b1 : decide ((t276.toList == t274.toList) = ((rd_T26 t260 x4_2).f2)) = true := by simpa using c46))
                 (try (have c46b2 : ((t276.toList == t274.toList) == ((rd_T26 t260 x4_2).f2)) = true := by simpa using c46))
                 clear c46
                 have H' := Aside0.mk H
                 clear H
                 have p270 := dT (0 ≤ (x4_2 : Int))
                 have q270 := dT (x4_2 < (t260.length : Int))
                 obtain ⟨ad270, e270, hx270_0, hx270_1, hx270_2⟩ := at_T26 (Kd.R_reads' HO_3.out).2.2 x4_2 p270 q270
                 obtain rfl : ad263 = ad270 := (by injection e270)
                 replace p270 := eq_true p270
                 replace q270 := eq_true q270
                 try go_wp2_with (first | ((with_reducible refine gate_dst (N := 71) rfl ?_); refine Kd.R_lit (Kd.int .i32) _ 21 ?hg (N := 71) ?hd (xs := ([(rd_T26 t260 x4_2).f1] : List Int)) (inner := [.int .i32 ((rd_T26 t260 x4_2).f1)]) (ok := fun _ => True) (okp := fun _ => True) ?hr ?hp (fun _ hk => hk) trivial (Below.refl _ _) (Nat.le_refl _) (by simp) ?_; (case hd => rfl); (case hg => rfl); (case hr => first | (go_simp; done) | (go_simp; rfl)); (case hp => exact (Reps.one (show Kd.M (Kd.int .i32) _ _ _ ((rd_T26 t260 x4_2).f1) [.int .i32 ((rd_T26 t260 x4_2).f1)] from rfl) (Reps.none _ _))); intro v272 w70 ho71 hb hg_ hnew_; clear hg_ hnew_; (first | rw [← Ny271.out] at ho71 | (simp only [Int.reduceToNat] at ho71; rw [← Ny271.out] at ho71)); have n0_ := Aside0.mk (Kd.R_below (mvR HO_3) hb); have n1_ := Aside0.mk (Kd.R_below (mvR HO_41) hb); have n2_ := Aside0.mk (Kd.R_lower ho71 (below_size (mvB HB))); have n3_ := Aside0.mk (below_step (mvB HB) hb); clear HO_3; clear HO_41; clear HB; have HO_3 := n0_; have HO_41 := n1_; have HO273 := n2_; have HB := n3_; clear n0_ n1_ n2_ n3_; clear hb ho71; obtain ⟨Ao72, co72, eo72⟩ := Kd.R_slice HO273.out; subst eo72) | ((with_reducible refine gate_callee (f := 16) rfl ?_); refine goesL_ (some 72) rfl rfl Tryd.func16 (by kernel_rfl) rfl #[.slice Ao72 y271.length co72] rfl (by (try simp only [List.map_toArray, List.map_cons, List.map_nil]); first | done | rfl | (simp only [List.length_drop, List.length_take]; rfl)) ?_; (with_reducible refine (selvedgeref02_String.calls k3 _ _ y271 t274 _ ?side1 ?side2 A41.out).mono ?_); (case side1 => repeat (first | exact (Kd.R_reads' HO273.out).2.2 | (with_reducible refine Kd.C_alloc ?_ _) | (with_reducible refine Kd.C_drewN ?_ _) | (with_reducible refine Kd.C_drew ?_))); (case side2 => exact (Kd.R_reads' HO273.out).2.1); rintro e w73 ⟨rfl, hb⟩; refine ⟨_, rfl, ?_⟩; have n0_ := Aside0.mk (Kd.R_below (mvR HO_3) hb); have n1_ := Aside0.mk (Kd.R_below (mvR HO_41) hb); have n2_ := Aside0.mk (Kd.R_below (mvR HO273) hb); have n3_ := Aside0.mk (below_step (mvB HB) hb); clear HO_3; clear HO_41; clear HO273; clear HB; have HO_3 := n0_; have HO_41 := n1_; have HO273 := n2_; have HB := n3_; clear n0_ n1_ n2_ n3_; (try clear hb); (try clear hb2); (try clear hk); (try clear hi)))
                 have n0_ := Aside0.mk (Kd.R_drew HO_3.out)
                 have n1_ := Aside0.mk (Kd.R_drew HO_41.out)
                 have n2_ := Aside0.mk (Kd.R_drew HO273.out)
                 have n3_ := Aside0.mk (below_drew1 HB.out)
                 clear HO_3
                 clear HO_41
                 clear HO273
                 clear HB
                 have HO_3 := n0_
                 have HO_41 := n1_
                 have HO273 := n2_
                 have HB := n3_
                 clear n0_ n1_ n2_ n3_
                 have p277 := dT (0 ≤ (x4_2 : Int))
                 have q277 := dT (x4_2 < (t260.length : Int))
                 obtain ⟨ad277, e277, hx277_0, hx277_1, hx277_2⟩ := at_T26 (Kd.R_reads' HO_3.out).2.2 x4_2 p277 q277
                 obtain rfl : ad263 = ad277 := (by injection e277)
                 replace p277 := eq_true p277
                 replace q277 := eq_true q277
                 refine start_ (n := 33) (S := fun w' => w'.cell? (ad263.add ((x4_2).toNat * 3)) = some (.string ((rd_T26 t260 x4_2).f0)) ∧ w'.cell? ⟨(ad263.add ((x4_2).toNat * 3)).block, (ad263.add ((x4_2).toNat * 3)).off + 1, none⟩ = some (.int .i32 ((rd_T26 t260 x4_2).f1)) ∧ w'.cell? ⟨(ad263.add ((x4_2).toNat * 3)).block, (ad263.add ((x4_2).toNat * 3)).off + 2, none⟩ = some (.bool ((rd_T26 t260 x4_2).f2))) (ds := []) #[false, false, false, false, false, false, false, false, false, false, false, false, false, false, false, false, false, false, false, false, false, false, false, false, false, false, false, false, false, false, false, false, false] (by kernel_rfl) rfl rfl ⟨hx277_0, hx277_1, hx277_2⟩ (fun hHeld => ?_); refine with_tabW selvedgelaw03_CharrefKnown.tab19 selvedgelaw03_CharrefKnown.bits19 (fun HT_ HW_ => ?_)
                 generalize w73.drew = w74 at HO_3 HO_41 HO273 HB hx277_0 hx277_1 hx277_2 hHeld ⊢
                 refine pure_ (i := 0) (N := some 73) (v := ?_) (a' := ?_) #[true, false, false, false, false, false, false, false, false, false, false, false, false, false, false, false, false, false, false, false, false, false, false, false, false, false, false, false, false, false, false, false, false] rfl rfl (any_of HT_.out (by kernel_rfl)) (fun _ _ _ h => h) (Or.inl ⟨by rfl, ?_⟩) ?_ ?_
                 rotate_left
                 ·intro w'
                  go_simp
                  with_reducible rfl
                 rotate_left
                 ·simp only [Act.put, List.setIfInBounds_toArray, List.set_cons_zero, List.set_cons_succ, i64_w, i32_w]
                  rfl
                 refine pure_ (i := 1) (N := some 74) (v := ?_) (a' := ?_) #[true, true, false, false, false, false, false, false, false, false, false, false, false, false, false, false, false, false, false, false, false, false, false, false, false, false, false, false, false, false, false, false, false] rfl rfl (any_of HT_.out (by kernel_rfl)) (fun _ _ _ h => h) (Or.inl ⟨by rfl, ?_⟩) ?_ ?_
                 rotate_left
                 ·intro w'
                  go_simp
                  with_reducible rfl
                 rotate_left
                 ·simp only [Act.put, List.setIfInBounds_toArray, List.set_cons_zero, List.set_cons_succ, i64_w, i32_w]
                  rfl
                 refine pure_ (i := 3) (N := some 76) (v := ?_) (a' := ?_) #[true, true, false, true, false, false, false, false, false, false, false, false, false, false, false, false, false, false, false, false, false, false, false, false, false, false, false, false, false, false, false, false, false] rfl rfl (any_of HT_.out (by kernel_rfl)) (fun _ _ _ h => h) (Or.inl ⟨by rfl, ?_⟩) ?_ ?_
                 rotate_left
                 ·intro w'
                  go_simp
                  with_reducible rfl
                 rotate_left
                 ·simp only [Act.put, List.setIfInBounds_toArray, List.set_cons_zero, List.set_cons_succ, i64_w, i32_w]
                  rfl
                 refine one_ (i := 2) (N := some 75) #[true, true, true, true, false, false, false, false, false, false, false, false, false, false, false, false, false, false, false, false, false, false, false, false, false, false, false, false, false, false, false, false, false] rfl rfl (one_of HT_.out (by kernel_rfl)) (by decide) (fun K hK => ?_)
                 refine goes_ Tryd.func14 (by kernel_rfl) rfl #[.string (((⟨#[38]⟩ : ByteArray) ++ ((rd_T26 t260 x4_2).f0)) ++ (⟨#[59]⟩ : ByteArray)), .bool true] (by rfl) rfl rfl (by (try simp only [List.map_toArray, List.map_cons, List.map_nil]); first | done | rfl | (simp only [List.length_drop, List.length_take]; rfl)) ?_
                 with_reducible refine (charref_Decode.calls k3 (((⟨#[38]⟩ : ByteArray) ++ ((rd_T26 t260 x4_2).f0)) ++ (⟨#[59]⟩ : ByteArray)) true t275 _ A43.out (by exact HT.out.below (mvB HB))).mono ?_
                 rintro e w75 ⟨rfl, hb⟩
                 have HS0_ := (hb.cell (World.block_lt_of_cell? _ _ (hHeld.1))).trans (hHeld.1)
                 have HS1_ := (hb.cell (World.block_lt_of_cell? _ _ (hHeld.2.1))).trans (hHeld.2.1)
                 have HS2_ := (hb.cell (World.block_lt_of_cell? _ _ (hHeld.2.2))).trans (hHeld.2.2)
                 refine ⟨_, rfl, ?_⟩
                 have n0_ := Aside0.mk (Kd.R_below (mvR HO_3) hb)
                 have n1_ := Aside0.mk (Kd.R_below (mvR HO_41) hb)
                 have n2_ := Aside0.mk (Kd.R_below (mvR HO273) hb)
                 have n3_ := Aside0.mk (below_step (mvB HB) hb)
                 clear HO_3
                 clear HO_41
                 clear HO273
                 clear HB
                 have HO_3 := n0_
                 have HO_41 := n1_
                 have HO273 := n2_
                 have HB := n3_
                 clear n0_ n1_ n2_ n3_
                 (try clear hb)
                 (try clear hb2)
                 (try clear hk)
                 (try clear hi)
                 refine hK.out _ _ ⟨HS0_, HS1_, HS2_⟩ (fun hHeld => ?_)
                 clear hK K
                 refine norm_ (a' := ?_) ?_ ?_
                 rotate_left
                 ·show Act.put _ (some 75) _ = _
                  simp only [Act.put, List.setIfInBounds_toArray, List.set_cons_zero, List.set_cons_succ, i64_w, i32_w]
                  rfl
                 refine pure_ (i := 4) (N := some 77) (v := ?_) (a' := ?_) #[true, true, true, true, true, false, false, false, false, false, false, false, false, false, false, false, false, false, false, false, false, false, false, false, false, false, false, false, false, false, false, false, false] rfl rfl (any_of HT_.out (by kernel_rfl)) (fun _ _ _ h => h) (Or.inl ⟨by rfl, ?_⟩) ?_ ?_
                 rotate_left
                 ·intro w'
                  go_simp
                  with_reducible rfl
                 rotate_left
                 ·simp only [Act.put, List.setIfInBounds_toArray, List.set_cons_zero, List.set_cons_succ, i64_w, i32_w]
                  rfl
                 refine pure_ (i := 5) (N := some 78) (v := ?_) (a' := ?_) #[true, true, true, true, true, true, false, false, false, false, false, false, false, false, false, false, false, false, false, false, false, false, false, false, false, false, false, false, false, false, false, false, false] rfl rfl (any_of HT_.out (by kernel_rfl)) (fun _ _ _ h => h) (Or.inl ⟨by rfl, ?_⟩) ?_ ?_
                 rotate_left
                 ·intro w'
                  go_simp
                  with_reducible rfl
                 rotate_left
                 ·simp only [Act.put, List.setIfInBounds_toArray, List.set_cons_zero, List.set_cons_succ, i64_w, i32_w]
                  rfl
                 refine pure_ (i := 6) (N := some 79) (v := ?_) (a' := ?_) #[true, true, true, true, true, true, true, false, false, false, false, false, false, false, false, false, false, false, false, false, false, false, false, false, false, false, false, false, false, false, false, false, false] rfl rfl (any_of HT_.out (by kernel_rfl)) (fun _ _ _ h => h) (Or.inl ⟨by rfl, ?_⟩) ?_ ?_
                 rotate_left
                 ·intro w'
                  go_simp
                  with_reducible rfl
                 rotate_left
                 ·simp only [Act.put, List.setIfInBounds_toArray, List.set_cons_zero, List.set_cons_succ, i64_w, i32_w]
                  rfl
                 refine pure_ (i := 8) (N := some 81) (v := ?_) (a' := ?_) #[true, true, true, true, true, true, true, false, true, false, false, false, false, false, false, false, false, false, false, false, false, false, false, false, false, false, false, false, false, false, false, false, false] rfl rfl (any_of HT_.out (by kernel_rfl)) (fun _ _ _ h => h) (Or.inl ⟨by rfl, ?_⟩) ?_ ?_
                 rotate_left
                 ·intro w'
                  go_simp
                  with_reducible rfl
                 rotate_left
                 ·simp only [Act.put, List.setIfInBounds_toArray, List.set_cons_zero, List.set_cons_succ, i64_w, i32_w]
                  rfl
                 refine pure_ (i := 10) (N := some 83) (v := ?_) (a' := ?_) #[true, true, true, true, true, true, true, false, true, false, true, false, false, false, false, false, false, false, false, false, false, false, false, false, false, false, false, false, false, false, false, false, false] rfl rfl (any_of HT_.out (by kernel_rfl)) (fun _ _ _ h => h) (Or.inl ⟨by rfl, ?_⟩) ?_ ?_
                 rotate_left
                 ·intro w'
                  go_simp
                  with_reducible rfl
                 rotate_left
                 ·simp only [Act.put, List.setIfInBounds_toArray, List.set_cons_zero, List.set_cons_succ, i64_w, i32_w]
                  rfl
                 refine pure_ (i := 11) (N := some 84) (v := ?_) (a' := ?_) #[true, true, true, true, true, true, true, false, true, false, true, true, false, false, false, false, false, false, false, false, false, false, false, false, false, false, false, false, false, false, false, false, false] rfl rfl (any_of HT_.out (by kernel_rfl)) (fun _ _ _ h => h) (Or.inl ⟨by rfl, ?_⟩) ?_ ?_
                 rotate_left
                 ·intro w'
                  go_simp
                  with_reducible rfl
                 rotate_left
                 ·simp only [Act.put, List.setIfInBounds_toArray, List.set_cons_zero, List.set_cons_succ, i64_w, i32_w]
                  rfl
                 refine pure_ (i := 12) (N := some 85) (v := ?_) (a' := ?_) #[true, true, true, true, true, true, true, false, true, false, true, true, true, false, false, false, false, false, false, false, false, false, false, false, false, false, false, false, false, false, false, false, false] rfl rfl (any_of HT_.out (by kernel_rfl)) (fun _ _ _ h => h) (Or.inl ⟨by rfl, ?_⟩) ?_ ?_
                 rotate_left
                 ·intro w'
                  go_simp
                  with_reducible rfl
                 rotate_left
                 ·simp only [Act.put, List.setIfInBounds_toArray, List.set_cons_zero, List.set_cons_succ, i64_w, i32_w]
                  rfl
                 refine pure_ (i := 13) (N := some 86) (v := ?_) (a' := ?_) #[true, true, true, true, true, true, true, false, true, false, true, true, true, true, false, false, false, false, false, false, false, false, false, false, false, false, false, false, false, false, false, false, false] rfl rfl (any_of HT_.out (by kernel_rfl)) (fun _ _ _ h => h) (Or.inl ⟨by rfl, ?_⟩) ?_ ?_
                 rotate_left
                 ·intro w'
                  go_simp
                  with_reducible rfl
                 rotate_left
                 ·simp only [Act.put, List.setIfInBounds_toArray, List.set_cons_zero, List.set_cons_succ, i64_w, i32_w]
                  rfl
                 refine take_ (i := 14) (N := some 87) (v := ?_) (a' := ?_) #[true, true, true, true, true, true, true, false, true, false, true, true, true, true, true, false, false, false, false, false, false, false, false, false, false, false, false, false, false, false, false, false, false] rfl rfl (take_ofW HT_.out HW_.out (by kernel_rfl)) (fun _ _ _ h => h) (Or.inl ⟨by rfl, ?_⟩) hHeld ?_ ?_
                 rotate_left
                 ·rintro w' ⟨s0, s1, s2⟩
                  go_simp
                  with_reducible rfl
                 rotate_left
                 ·simp only [Act.put, List.setIfInBounds_toArray, List.set_cons_zero, List.set_cons_succ, i64_w, i32_w]
                  rfl
                 refine one_ (i := 7) (N := some 80) #[true, true, true, true, true, true, true, true, true, false, true, true, true, true, true, false, false, false, false, false, false, false, false, false, false, false, false, false, false, false, false, false, false] rfl rfl (one_of HT_.out (by kernel_rfl)) (by decide) (fun K hK => ?_)
                 refine goes_ Tryd.func14 (by kernel_rfl) rfl #[.string ((⟨#[38]⟩ : ByteArray) ++ ((rd_T26 t260 x4_2).f0)), .bool false] (by rfl) rfl rfl (by (try simp only [List.map_toArray, List.map_cons, List.map_nil]); first | done | rfl | (simp only [List.length_drop, List.length_take]; rfl)) ?_
                 with_reducible refine (charref_Decode.calls k3 ((⟨#[38]⟩ : ByteArray) ++ ((rd_T26 t260 x4_2).f0)) false t276 _ A45.out (by exact HT.out.below (mvB HB))).mono ?_
                 rintro e w76 ⟨rfl, hb⟩
                 have HS0_ := (hb.cell (World.block_lt_of_cell? _ _ (hHeld.1))).trans (hHeld.1)
                 have HS1_ := (hb.cell (World.block_lt_of_cell? _ _ (hHeld.2.1))).trans (hHeld.2.1)
                 have HS2_ := (hb.cell (World.block_lt_of_cell? _ _ (hHeld.2.2))).trans (hHeld.2.2)
                 refine ⟨_, rfl, ?_⟩
                 have n0_ := Aside0.mk (Kd.R_below (mvR HO_3) hb)
                 have n1_ := Aside0.mk (Kd.R_below (mvR HO_41) hb)
                 have n2_ := Aside0.mk (Kd.R_below (mvR HO273) hb)
                 have n3_ := Aside0.mk (below_step (mvB HB) hb)
                 clear HO_3
                 clear HO_41
                 clear HO273
                 clear HB
                 have HO_3 := n0_
                 have HO_41 := n1_
                 have HO273 := n2_
                 have HB := n3_
                 clear n0_ n1_ n2_ n3_
                 (try clear hb)
                 (try clear hb2)
                 (try clear hk)
                 (try clear hi)
                 refine hK.out _ _ ⟨HS0_, HS1_, HS2_⟩ (fun hHeld => ?_)
                 clear hK K
                 refine norm_ (a' := ?_) ?_ ?_
                 rotate_left
                 ·show Act.put _ (some 80) _ = _
                  simp only [Act.put, List.setIfInBounds_toArray, List.set_cons_zero, List.set_cons_succ, i64_w, i32_w]
                  rfl
                 refine pure_ (i := 9) (N := some 82) (v := ?_) (a' := ?_) #[true, true, true, true, true, true, true, true, true, true, true, true, true, true, true, false, false, false, false, false, false, false, false, false, false, false, false, false, false, false, false, false, false] rfl rfl (any_of HT_.out (by kernel_rfl)) (fun _ _ _ h => h) (Or.inl ⟨by rfl, ?_⟩) ?_ ?_
                 rotate_left
                 ·intro w'
                  go_simp
                  with_reducible rfl
                 rotate_left
                 ·simp only [Act.put, List.setIfInBounds_toArray, List.set_cons_zero, List.set_cons_succ, i64_w, i32_w]
                  rfl
                 refine pure_ (i := 15) (N := some 88) (v := ?_) (a' := ?_) #[true, true, true, true, true, true, true, true, true, true, true, true, true, true, true, true, false, false, false, false, false, false, false, false, false, false, false, false, false, false, false, false, false] rfl rfl (any_of HT_.out (by kernel_rfl)) (fun _ _ _ h => h) (Or.inl ⟨by rfl, ?_⟩) ?_ ?_
                 rotate_left
                 ·intro w'
                  go_simp
                  with_reducible rfl
                 rotate_left
                 ·simp only [Act.put, List.setIfInBounds_toArray, List.set_cons_zero, List.set_cons_succ, i64_w, i32_w]
                  rfl
                 refine pure_ (i := 16) (N := some 89) (v := ?_) (a' := ?_) #[true, true, true, true, true, true, true, true, true, true, true, true, true, true, true, true, true, false, false, false, false, false, false, false, false, false, false, false, false, false, false, false, false] rfl rfl (any_of HT_.out (by kernel_rfl)) (fun _ _ _ h => h) (Or.inl ⟨by rfl, ?_⟩) ?_ ?_
                 rotate_left
                 ·intro w'
                  go_simp
                  with_reducible rfl
                 rotate_left
                 ·simp only [Act.put, List.setIfInBounds_toArray, List.set_cons_zero, List.set_cons_succ, i64_w, i32_w]
                  rfl
                 refine pure_ (i := 17) (N := some 90) (v := undef) (a' := ?_) #[true, true, true, true, true, true, true, true, true, true, true, true, true, true, true, true, true, true, false, false, false, false, false, false, false, false, false, false, false, false, false, false, false] rfl rfl (any_of HT_.out (by kernel_rfl)) (fun _ _ _ h => h) (Or.inr ⟨by rfl, rfl⟩) ?_ ?_
                 rotate_left
                 ·simp only [Act.put, List.setIfInBounds_toArray, List.set_cons_zero, List.set_cons_succ, i64_w, i32_w]
                  rfl
                 refine pure_ (i := 18) (N := some 91) (v := undef) (a' := ?_) #[true, true, true, true, true, true, true, true, true, true, true, true, true, true, true, true, true, true, true, false, false, false, false, false, false, false, false, false, false, false, false, false, false] rfl rfl (any_of HT_.out (by kernel_rfl)) (fun _ _ _ h => h) (Or.inr ⟨by rfl, rfl⟩) ?_ ?_
                 rotate_left
                 ·simp only [Act.put, List.setIfInBounds_toArray, List.set_cons_zero, List.set_cons_succ, i64_w, i32_w]
                  rfl
                 refine pure_ (i := 19) (N := some 92) (v := undef) (a' := ?_) #[true, true, true, true, true, true, true, true, true, true, true, true, true, true, true, true, true, true, true, true, false, false, false, false, false, false, false, false, false, false, false, false, false] rfl rfl (any_of HT_.out (by kernel_rfl)) (fun _ _ _ h => h) (Or.inr ⟨by rfl, rfl⟩) ?_ ?_
                 rotate_left
                 ·simp only [Act.put, List.setIfInBounds_toArray, List.set_cons_zero, List.set_cons_succ, i64_w, i32_w]
                  rfl
                 refine pure_ (i := 20) (N := some 93) (v := undef) (a' := ?_) #[true, true, true, true, true, true, true, true, true, true, true, true, true, true, true, true, true, true, true, true, true, false, false, false, false, false, false, false, false, false, false, false, false] rfl rfl (any_of HT_.out (by kernel_rfl)) (fun _ _ _ h => h) (Or.inr ⟨by rfl, rfl⟩) ?_ ?_
                 rotate_left
                 ·simp only [Act.put, List.setIfInBounds_toArray, List.set_cons_zero, List.set_cons_succ, i64_w, i32_w]
                  rfl
                 refine pure_ (i := 21) (N := some 94) (v := undef) (a' := ?_) #[true, true, true, true, true, true, true, true, true, true, true, true, true, true, true, true, true, true, true, true, true, true, false, false, false, false, false, false, false, false, false, false, false] rfl rfl (any_of HT_.out (by kernel_rfl)) (fun _ _ _ h => h) (Or.inr ⟨by rfl, rfl⟩) ?_ ?_
                 rotate_left
                 ·simp only [Act.put, List.setIfInBounds_toArray, List.set_cons_zero, List.set_cons_succ, i64_w, i32_w]
                  rfl
                 refine pure_ (i := 22) (N := some 95) (v := undef) (a' := ?_) #[true, true, true, true, true, true, true, true, true, true, true, true, true, true, true, true, true, true, true, true, true, true, true, false, false, false, false, false, false, false, false, false, false] rfl rfl (any_of HT_.out (by kernel_rfl)) (fun _ _ _ h => h) (Or.inr ⟨by rfl, rfl⟩) ?_ ?_
                 rotate_left
                 ·simp only [Act.put, List.setIfInBounds_toArray, List.set_cons_zero, List.set_cons_succ, i64_w, i32_w]
                  rfl
                 refine pure_ (i := 23) (N := some 96) (v := ?_) (a' := ?_) #[true, true, true, true, true, true, true, true, true, true, true, true, true, true, true, true, true, true, true, true, true, true, true, true, false, false, false, false, false, false, false, false, false] rfl rfl (any_of HT_.out (by kernel_rfl)) (fun _ _ _ h => h) (Or.inl ⟨by rfl, ?_⟩) ?_ ?_
                 rotate_left
                 ·intro w'
                  go_simp
                  with_reducible rfl
                 rotate_left
                 ·simp only [Act.put, List.setIfInBounds_toArray, List.set_cons_zero, List.set_cons_succ, i64_w, i32_w]
                  rfl
                 refine pure_ (i := 24) (N := some 97) (v := ?_) (a' := ?_) #[true, true, true, true, true, true, true, true, true, true, true, true, true, true, true, true, true, true, true, true, true, true, true, true, true, false, false, false, false, false, false, false, false] rfl rfl (any_of HT_.out (by kernel_rfl)) (fun _ _ _ h => h) (Or.inl ⟨by rfl, ?_⟩) ?_ ?_
                 rotate_left
                 ·intro w'
                  go_simp
                  with_reducible rfl
                 rotate_left
                 ·simp only [Act.put, List.setIfInBounds_toArray, List.set_cons_zero, List.set_cons_succ, i64_w, i32_w]
                  rfl
                 refine pure_ (i := 25) (N := some 98) (v := undef) (a' := ?_) #[true, true, true, true, true, true, true, true, true, true, true, true, true, true, true, true, true, true, true, true, true, true, true, true, true, true, false, false, false, false, false, false, false] rfl rfl (any_of HT_.out (by kernel_rfl)) (fun _ _ _ h => h) (Or.inr ⟨by rfl, rfl⟩) ?_ ?_
                 rotate_left
                 ·simp only [Act.put, List.setIfInBounds_toArray, List.set_cons_zero, List.set_cons_succ, i64_w, i32_w]
                  rfl
                 refine pure_ (i := 26) (N := some 99) (v := undef) (a' := ?_) #[true, true, true, true, true, true, true, true, true, true, true, true, true, true, true, true, true, true, true, true, true, true, true, true, true, true, true, false, false, false, false, false, false] rfl rfl (any_of HT_.out (by kernel_rfl)) (fun _ _ _ h => h) (Or.inr ⟨by rfl, rfl⟩) ?_ ?_
                 rotate_left
                 ·simp only [Act.put, List.setIfInBounds_toArray, List.set_cons_zero, List.set_cons_succ, i64_w, i32_w]
                  rfl
                 refine pure_ (i := 27) (N := some 100) (v := undef) (a' := ?_) #[true, true, true, true, true, true, true, true, true, true, true, true, true, true, true, true, true, true, true, true, true, true, true, true, true, true, true, true, false, false, false, false, false] rfl rfl (any_of HT_.out (by kernel_rfl)) (fun _ _ _ h => h) (Or.inr ⟨by rfl, rfl⟩) ?_ ?_
                 rotate_left
                 ·simp only [Act.put, List.setIfInBounds_toArray, List.set_cons_zero, List.set_cons_succ, i64_w, i32_w]
                  rfl
                 refine pure_ (i := 28) (N := some 101) (v := undef) (a' := ?_) #[true, true, true, true, true, true, true, true, true, true, true, true, true, true, true, true, true, true, true, true, true, true, true, true, true, true, true, true, true, false, false, false, false] rfl rfl (any_of HT_.out (by kernel_rfl)) (fun _ _ _ h => h) (Or.inr ⟨by rfl, rfl⟩) ?_ ?_
                 rotate_left
                 ·simp only [Act.put, List.setIfInBounds_toArray, List.set_cons_zero, List.set_cons_succ, i64_w, i32_w]
                  rfl
                 refine pure_ (i := 29) (N := some 102) (v := undef) (a' := ?_) #[true, true, true, true, true, true, true, true, true, true, true, true, true, true, true, true, true, true, true, true, true, true, true, true, true, true, true, true, true, true, false, false, false] rfl rfl (any_of HT_.out (by kernel_rfl)) (fun _ _ _ h => h) (Or.inr ⟨by rfl, rfl⟩) ?_ ?_
                 rotate_left
                 ·simp only [Act.put, List.setIfInBounds_toArray, List.set_cons_zero, List.set_cons_succ, i64_w, i32_w]
                  rfl
                 refine pure_ (i := 30) (N := some 103) (v := undef) (a' := ?_) #[true, true, true, true, true, true, true, true, true, true, true, true, true, true, true, true, true, true, true, true, true, true, true, true, true, true, true, true, true, true, true, false, false] rfl rfl (any_of HT_.out (by kernel_rfl)) (fun _ _ _ h => h) (Or.inr ⟨by rfl, rfl⟩) ?_ ?_
                 rotate_left
                 ·simp only [Act.put, List.setIfInBounds_toArray, List.set_cons_zero, List.set_cons_succ, i64_w, i32_w]
                  rfl
                 refine pure_ (i := 31) (N := some 104) (v := ?_) (a' := ?_) #[true, true, true, true, true, true, true, true, true, true, true, true, true, true, true, true, true, true, true, true, true, true, true, true, true, true, true, true, true, true, true, true, false] rfl rfl (any_of HT_.out (by kernel_rfl)) (fun _ _ _ h => h) (Or.inl ⟨by rfl, ?_⟩) ?_ ?_
                 rotate_left
                 ·intro w'
                  go_simp
                  with_reducible rfl
                 rotate_left
                 ·simp only [Act.put, List.setIfInBounds_toArray, List.set_cons_zero, List.set_cons_succ, i64_w, i32_w]
                  rfl
                 refine pure_ (i := 32) (N := some 105) (v := ?_) (a' := ?_) #[true, true, true, true, true, true, true, true, true, true, true, true, true, true, true, true, true, true, true, true, true, true, true, true, true, true, true, true, true, true, true, true, true] rfl rfl (any_of HT_.out (by kernel_rfl)) (fun _ _ _ h => h) (Or.inl ⟨by rfl, ?_⟩) ?_ ?_
                 rotate_left
                 ·intro w'
                  go_simp
                  with_reducible rfl
                 rotate_left
                 ·simp only [Act.put, List.setIfInBounds_toArray, List.set_cons_zero, List.set_cons_succ, i64_w, i32_w]
                  rfl
                 refine done_ (done_of HT_.out (by kernel_rfl)) ?_
                 try go_wp2
                 go_roundg k3
                 case measure => have := HK1.out; have := HK2.out; have := HK3.out; omega
                 case rel => exact ⟨(wrap64 (x4_2 + 1)), (by first | rfl | (simp; done) | (simp [*]; done)), H', ⟨by have := HK1.out; have := HK2.out; have := HK3.out; omega⟩, ⟨mvR HO_3⟩, ⟨mvB HB⟩⟩
               ·rw [if_neg c44] at H
                have c44b0 : (t275.toList == t274.toList) = false := beq_eq_false_iff_ne.mpr c44
                have c44b1 : (t275.toList != t274.toList) = true := bne_iff_ne.mpr c44
                obtain rfl := Option.some.inj H
                have p270 := dT (0 ≤ (x4_2 : Int))
                have q270 := dT (x4_2 < (t260.length : Int))
                obtain ⟨ad270, e270, hx270_0, hx270_1, hx270_2⟩ := at_T26 (Kd.R_reads' HO_3.out).2.2 x4_2 p270 q270
                obtain rfl : ad263 = ad270 := (by injection e270)
                replace p270 := eq_true p270
                replace q270 := eq_true q270
                try go_wp2_with (first | ((with_reducible refine gate_dst (N := 71) rfl ?_); refine Kd.R_lit (Kd.int .i32) _ 21 ?hg (N := 71) ?hd (xs := ([(rd_T26 t260 x4_2).f1] : List Int)) (inner := [.int .i32 ((rd_T26 t260 x4_2).f1)]) (ok := fun _ => True) (okp := fun _ => True) ?hr ?hp (fun _ hk => hk) trivial (Below.refl _ _) (Nat.le_refl _) (by simp) ?_; (case hd => rfl); (case hg => rfl); (case hr => first | (go_simp; done) | (go_simp; rfl)); (case hp => exact (Reps.one (show Kd.M (Kd.int .i32) _ _ _ ((rd_T26 t260 x4_2).f1) [.int .i32 ((rd_T26 t260 x4_2).f1)] from rfl) (Reps.none _ _))); intro v272 w77 ho78 hb hg_ hnew_; clear hg_ hnew_; (first | rw [← Ny271.out] at ho78 | (simp only [Int.reduceToNat] at ho78; rw [← Ny271.out] at ho78)); have n0_ := Aside0.mk (Kd.R_below (mvR HO_3) hb); have n1_ := Aside0.mk (Kd.R_below (mvR HO_41) hb); have n2_ := Aside0.mk (Kd.R_lower ho78 (below_size (mvB HB))); have n3_ := Aside0.mk (below_step (mvB HB) hb); clear HO_3; clear HO_41; clear HB; have HO_3 := n0_; have HO_41 := n1_; have HO273 := n2_; have HB := n3_; clear n0_ n1_ n2_ n3_; clear hb ho78; obtain ⟨Ao79, co79, eo79⟩ := Kd.R_slice HO273.out; subst eo79) | ((with_reducible refine gate_callee (f := 16) rfl ?_); refine goesL_ (some 72) rfl rfl Tryd.func16 (by kernel_rfl) rfl #[.slice Ao79 y271.length co79] rfl (by (try simp only [List.map_toArray, List.map_cons, List.map_nil]); first | done | rfl | (simp only [List.length_drop, List.length_take]; rfl)) ?_; (with_reducible refine (selvedgeref02_String.calls k3 _ _ y271 t274 _ ?side1 ?side2 A41.out).mono ?_); (case side1 => repeat (first | exact (Kd.R_reads' HO273.out).2.2 | (with_reducible refine Kd.C_alloc ?_ _) | (with_reducible refine Kd.C_drewN ?_ _) | (with_reducible refine Kd.C_drew ?_))); (case side2 => exact (Kd.R_reads' HO273.out).2.1); rintro e w80 ⟨rfl, hb⟩; refine ⟨_, rfl, ?_⟩; have n0_ := Aside0.mk (Kd.R_below (mvR HO_3) hb); have n1_ := Aside0.mk (Kd.R_below (mvR HO_41) hb); have n2_ := Aside0.mk (Kd.R_below (mvR HO273) hb); have n3_ := Aside0.mk (below_step (mvB HB) hb); clear HO_3; clear HO_41; clear HO273; clear HB; have HO_3 := n0_; have HO_41 := n1_; have HO273 := n2_; have HB := n3_; clear n0_ n1_ n2_ n3_; (try clear hb); (try clear hb2); (try clear hk); (try clear hi)))
                have n0_ := Aside0.mk (Kd.R_drew HO_3.out)
                have n1_ := Aside0.mk (Kd.R_drew HO_41.out)
                have n2_ := Aside0.mk (Kd.R_drew HO273.out)
                have n3_ := Aside0.mk (below_drew1 HB.out)
                clear HO_3
                clear HO_41
                clear HO273
                clear HB
                have HO_3 := n0_
                have HO_41 := n1_
                have HO273 := n2_
                have HB := n3_
                clear n0_ n1_ n2_ n3_
                refine start_ (n := 33) (S := fun w' => True) (ds := []) #[false, false, false, false, false, false, false, false, false, false, false, false, false, false, false, false, false, false, false, false, false, false, false, false, false, false, false, false, false, false, false, false, false] (by kernel_rfl) rfl rfl trivial (fun hHeld => ?_); refine with_tabW selvedgelaw03_CharrefKnown.tab19 selvedgelaw03_CharrefKnown.bits19 (fun HT_ HW_ => ?_)
                generalize w80.drew = w81 at HO_3 HO_41 HO273 HB hHeld ⊢
                refine pure_ (i := 0) (N := some 73) (v := ?_) (a' := ?_) #[true, false, false, false, false, false, false, false, false, false, false, false, false, false, false, false, false, false, false, false, false, false, false, false, false, false, false, false, false, false, false, false, false] rfl rfl (any_of HT_.out (by kernel_rfl)) (fun _ _ _ h => h) (Or.inl ⟨by rfl, ?_⟩) ?_ ?_
                rotate_left
                ·intro w'
                 go_simp
                 with_reducible rfl
                rotate_left
                ·simp only [Act.put, List.setIfInBounds_toArray, List.set_cons_zero, List.set_cons_succ, i64_w, i32_w]
                 rfl
                refine pure_ (i := 1) (N := some 74) (v := ?_) (a' := ?_) #[true, true, false, false, false, false, false, false, false, false, false, false, false, false, false, false, false, false, false, false, false, false, false, false, false, false, false, false, false, false, false, false, false] rfl rfl (any_of HT_.out (by kernel_rfl)) (fun _ _ _ h => h) (Or.inl ⟨by rfl, ?_⟩) ?_ ?_
                rotate_left
                ·intro w'
                 go_simp
                 with_reducible rfl
                rotate_left
                ·simp only [Act.put, List.setIfInBounds_toArray, List.set_cons_zero, List.set_cons_succ, i64_w, i32_w]
                 rfl
                refine pure_ (i := 3) (N := some 76) (v := ?_) (a' := ?_) #[true, true, false, true, false, false, false, false, false, false, false, false, false, false, false, false, false, false, false, false, false, false, false, false, false, false, false, false, false, false, false, false, false] rfl rfl (any_of HT_.out (by kernel_rfl)) (fun _ _ _ h => h) (Or.inl ⟨by rfl, ?_⟩) ?_ ?_
                rotate_left
                ·intro w'
                 go_simp
                 with_reducible rfl
                rotate_left
                ·simp only [Act.put, List.setIfInBounds_toArray, List.set_cons_zero, List.set_cons_succ, i64_w, i32_w]
                 rfl
                refine one_ (i := 2) (N := some 75) #[true, true, true, true, false, false, false, false, false, false, false, false, false, false, false, false, false, false, false, false, false, false, false, false, false, false, false, false, false, false, false, false, false] rfl rfl (one_of HT_.out (by kernel_rfl)) (by decide) (fun K hK => ?_)
                refine goes_ Tryd.func14 (by kernel_rfl) rfl #[.string (((⟨#[38]⟩ : ByteArray) ++ ((rd_T26 t260 x4_2).f0)) ++ (⟨#[59]⟩ : ByteArray)), .bool true] (by rfl) rfl rfl (by (try simp only [List.map_toArray, List.map_cons, List.map_nil]); first | done | rfl | (simp only [List.length_drop, List.length_take]; rfl)) ?_
                with_reducible refine (charref_Decode.calls k3 (((⟨#[38]⟩ : ByteArray) ++ ((rd_T26 t260 x4_2).f0)) ++ (⟨#[59]⟩ : ByteArray)) true t275 _ A43.out (by exact HT.out.below (mvB HB))).mono ?_
                rintro e w82 ⟨rfl, hb⟩
                refine ⟨_, rfl, ?_⟩
                have n0_ := Aside0.mk (Kd.R_below (mvR HO_3) hb)
                have n1_ := Aside0.mk (Kd.R_below (mvR HO_41) hb)
                have n2_ := Aside0.mk (Kd.R_below (mvR HO273) hb)
                have n3_ := Aside0.mk (below_step (mvB HB) hb)
                clear HO_3
                clear HO_41
                clear HO273
                clear HB
                have HO_3 := n0_
                have HO_41 := n1_
                have HO273 := n2_
                have HB := n3_
                clear n0_ n1_ n2_ n3_
                (try clear hb)
                (try clear hb2)
                (try clear hk)
                (try clear hi)
                refine hK.out _ _ trivial (fun hHeld => ?_)
                clear hK K
                refine norm_ (a' := ?_) ?_ ?_
                rotate_left
                ·show Act.put _ (some 75) _ = _
                 simp only [Act.put, List.setIfInBounds_toArray, List.set_cons_zero, List.set_cons_succ, i64_w, i32_w]
                 rfl
                refine pure_ (i := 4) (N := some 77) (v := ?_) (a' := ?_) #[true, true, true, true, true, false, false, false, false, false, false, false, false, false, false, false, false, false, false, false, false, false, false, false, false, false, false, false, false, false, false, false, false] rfl rfl (any_of HT_.out (by kernel_rfl)) (fun _ _ _ h => h) (Or.inl ⟨by rfl, ?_⟩) ?_ ?_
                rotate_left
                ·intro w'
                 go_simp
                 with_reducible rfl
                rotate_left
                ·simp only [Act.put, List.setIfInBounds_toArray, List.set_cons_zero, List.set_cons_succ, i64_w, i32_w]
                 rfl
                refine pure_ (i := 5) (N := some 78) (v := ?_) (a' := ?_) #[true, true, true, true, true, true, false, false, false, false, false, false, false, false, false, false, false, false, false, false, false, false, false, false, false, false, false, false, false, false, false, false, false] rfl rfl (any_of HT_.out (by kernel_rfl)) (fun _ _ _ h => h) (Or.inl ⟨by rfl, ?_⟩) ?_ ?_
                rotate_left
                ·intro w'
                 go_simp
                 with_reducible rfl
                rotate_left
                ·simp only [Act.put, List.setIfInBounds_toArray, List.set_cons_zero, List.set_cons_succ, i64_w, i32_w]
                 rfl
                refine pure_ (i := 6) (N := some 79) (v := undef) (a' := ?_) #[true, true, true, true, true, true, true, false, false, false, false, false, false, false, false, false, false, false, false, false, false, false, false, false, false, false, false, false, false, false, false, false, false] rfl rfl (any_of HT_.out (by kernel_rfl)) (fun _ _ _ h => h) (Or.inr ⟨by rfl, rfl⟩) ?_ ?_
                rotate_left
                ·simp only [Act.put, List.setIfInBounds_toArray, List.set_cons_zero, List.set_cons_succ, i64_w, i32_w]
                 rfl
                refine pure_ (i := 7) (N := some 80) (v := undef) (a' := ?_) #[true, true, true, true, true, true, true, true, false, false, false, false, false, false, false, false, false, false, false, false, false, false, false, false, false, false, false, false, false, false, false, false, false] rfl rfl (any_of HT_.out (by kernel_rfl)) (fun _ _ _ h => h) (Or.inr ⟨by rfl, rfl⟩) ?_ ?_
                rotate_left
                ·simp only [Act.put, List.setIfInBounds_toArray, List.set_cons_zero, List.set_cons_succ, i64_w, i32_w]
                 rfl
                refine pure_ (i := 8) (N := some 81) (v := undef) (a' := ?_) #[true, true, true, true, true, true, true, true, true, false, false, false, false, false, false, false, false, false, false, false, false, false, false, false, false, false, false, false, false, false, false, false, false] rfl rfl (any_of HT_.out (by kernel_rfl)) (fun _ _ _ h => h) (Or.inr ⟨by rfl, rfl⟩) ?_ ?_
                rotate_left
                ·simp only [Act.put, List.setIfInBounds_toArray, List.set_cons_zero, List.set_cons_succ, i64_w, i32_w]
                 rfl
                refine pure_ (i := 9) (N := some 82) (v := undef) (a' := ?_) #[true, true, true, true, true, true, true, true, true, true, false, false, false, false, false, false, false, false, false, false, false, false, false, false, false, false, false, false, false, false, false, false, false] rfl rfl (any_of HT_.out (by kernel_rfl)) (fun _ _ _ h => h) (Or.inr ⟨by rfl, rfl⟩) ?_ ?_
                rotate_left
                ·simp only [Act.put, List.setIfInBounds_toArray, List.set_cons_zero, List.set_cons_succ, i64_w, i32_w]
                 rfl
                refine pure_ (i := 10) (N := some 83) (v := undef) (a' := ?_) #[true, true, true, true, true, true, true, true, true, true, true, false, false, false, false, false, false, false, false, false, false, false, false, false, false, false, false, false, false, false, false, false, false] rfl rfl (any_of HT_.out (by kernel_rfl)) (fun _ _ _ h => h) (Or.inr ⟨by rfl, rfl⟩) ?_ ?_
                rotate_left
                ·simp only [Act.put, List.setIfInBounds_toArray, List.set_cons_zero, List.set_cons_succ, i64_w, i32_w]
                 rfl
                refine pure_ (i := 11) (N := some 84) (v := undef) (a' := ?_) #[true, true, true, true, true, true, true, true, true, true, true, true, false, false, false, false, false, false, false, false, false, false, false, false, false, false, false, false, false, false, false, false, false] rfl rfl (any_of HT_.out (by kernel_rfl)) (fun _ _ _ h => h) (Or.inr ⟨by rfl, rfl⟩) ?_ ?_
                rotate_left
                ·simp only [Act.put, List.setIfInBounds_toArray, List.set_cons_zero, List.set_cons_succ, i64_w, i32_w]
                 rfl
                refine pure_ (i := 12) (N := some 85) (v := undef) (a' := ?_) #[true, true, true, true, true, true, true, true, true, true, true, true, true, false, false, false, false, false, false, false, false, false, false, false, false, false, false, false, false, false, false, false, false] rfl rfl (any_of HT_.out (by kernel_rfl)) (fun _ _ _ h => h) (Or.inr ⟨by rfl, rfl⟩) ?_ ?_
                rotate_left
                ·simp only [Act.put, List.setIfInBounds_toArray, List.set_cons_zero, List.set_cons_succ, i64_w, i32_w]
                 rfl
                refine pure_ (i := 13) (N := some 86) (v := undef) (a' := ?_) #[true, true, true, true, true, true, true, true, true, true, true, true, true, true, false, false, false, false, false, false, false, false, false, false, false, false, false, false, false, false, false, false, false] rfl rfl (any_of HT_.out (by kernel_rfl)) (fun _ _ _ h => h) (Or.inr ⟨by rfl, rfl⟩) ?_ ?_
                rotate_left
                ·simp only [Act.put, List.setIfInBounds_toArray, List.set_cons_zero, List.set_cons_succ, i64_w, i32_w]
                 rfl
                refine pure_ (i := 14) (N := some 87) (v := undef) (a' := ?_) #[true, true, true, true, true, true, true, true, true, true, true, true, true, true, true, false, false, false, false, false, false, false, false, false, false, false, false, false, false, false, false, false, false] rfl rfl (any_of HT_.out (by kernel_rfl)) (fun _ _ _ h => h) (Or.inr ⟨by rfl, rfl⟩) ?_ ?_
                rotate_left
                ·simp only [Act.put, List.setIfInBounds_toArray, List.set_cons_zero, List.set_cons_succ, i64_w, i32_w]
                 rfl
                refine pure_ (i := 15) (N := some 88) (v := undef) (a' := ?_) #[true, true, true, true, true, true, true, true, true, true, true, true, true, true, true, true, false, false, false, false, false, false, false, false, false, false, false, false, false, false, false, false, false] rfl rfl (any_of HT_.out (by kernel_rfl)) (fun _ _ _ h => h) (Or.inr ⟨by rfl, rfl⟩) ?_ ?_
                rotate_left
                ·simp only [Act.put, List.setIfInBounds_toArray, List.set_cons_zero, List.set_cons_succ, i64_w, i32_w]
                 rfl
                refine pure_ (i := 16) (N := some 89) (v := undef) (a' := ?_) #[true, true, true, true, true, true, true, true, true, true, true, true, true, true, true, true, true, false, false, false, false, false, false, false, false, false, false, false, false, false, false, false, false] rfl rfl (any_of HT_.out (by kernel_rfl)) (fun _ _ _ h => h) (Or.inr ⟨by rfl, rfl⟩) ?_ ?_
                rotate_left
                ·simp only [Act.put, List.setIfInBounds_toArray, List.set_cons_zero, List.set_cons_succ, i64_w, i32_w]
                 rfl
                refine pure_ (i := 17) (N := some 90) (v := undef) (a' := ?_) #[true, true, true, true, true, true, true, true, true, true, true, true, true, true, true, true, true, true, false, false, false, false, false, false, false, false, false, false, false, false, false, false, false] rfl rfl (any_of HT_.out (by kernel_rfl)) (fun _ _ _ h => h) (Or.inr ⟨by rfl, rfl⟩) ?_ ?_
                rotate_left
                ·simp only [Act.put, List.setIfInBounds_toArray, List.set_cons_zero, List.set_cons_succ, i64_w, i32_w]
                 rfl
                refine pure_ (i := 18) (N := some 91) (v := undef) (a' := ?_) #[true, true, true, true, true, true, true, true, true, true, true, true, true, true, true, true, true, true, true, false, false, false, false, false, false, false, false, false, false, false, false, false, false] rfl rfl (any_of HT_.out (by kernel_rfl)) (fun _ _ _ h => h) (Or.inr ⟨by rfl, rfl⟩) ?_ ?_
                rotate_left
                ·simp only [Act.put, List.setIfInBounds_toArray, List.set_cons_zero, List.set_cons_succ, i64_w, i32_w]
                 rfl
                refine pure_ (i := 19) (N := some 92) (v := undef) (a' := ?_) #[true, true, true, true, true, true, true, true, true, true, true, true, true, true, true, true, true, true, true, true, false, false, false, false, false, false, false, false, false, false, false, false, false] rfl rfl (any_of HT_.out (by kernel_rfl)) (fun _ _ _ h => h) (Or.inr ⟨by rfl, rfl⟩) ?_ ?_
                rotate_left
                ·simp only [Act.put, List.setIfInBounds_toArray, List.set_cons_zero, List.set_cons_succ, i64_w, i32_w]
                 rfl
                refine pure_ (i := 20) (N := some 93) (v := undef) (a' := ?_) #[true, true, true, true, true, true, true, true, true, true, true, true, true, true, true, true, true, true, true, true, true, false, false, false, false, false, false, false, false, false, false, false, false] rfl rfl (any_of HT_.out (by kernel_rfl)) (fun _ _ _ h => h) (Or.inr ⟨by rfl, rfl⟩) ?_ ?_
                rotate_left
                ·simp only [Act.put, List.setIfInBounds_toArray, List.set_cons_zero, List.set_cons_succ, i64_w, i32_w]
                 rfl
                refine pure_ (i := 21) (N := some 94) (v := undef) (a' := ?_) #[true, true, true, true, true, true, true, true, true, true, true, true, true, true, true, true, true, true, true, true, true, true, false, false, false, false, false, false, false, false, false, false, false] rfl rfl (any_of HT_.out (by kernel_rfl)) (fun _ _ _ h => h) (Or.inr ⟨by rfl, rfl⟩) ?_ ?_
                rotate_left
                ·simp only [Act.put, List.setIfInBounds_toArray, List.set_cons_zero, List.set_cons_succ, i64_w, i32_w]
                 rfl
                refine pure_ (i := 22) (N := some 95) (v := undef) (a' := ?_) #[true, true, true, true, true, true, true, true, true, true, true, true, true, true, true, true, true, true, true, true, true, true, true, false, false, false, false, false, false, false, false, false, false] rfl rfl (any_of HT_.out (by kernel_rfl)) (fun _ _ _ h => h) (Or.inr ⟨by rfl, rfl⟩) ?_ ?_
                rotate_left
                ·simp only [Act.put, List.setIfInBounds_toArray, List.set_cons_zero, List.set_cons_succ, i64_w, i32_w]
                 rfl
                refine pure_ (i := 23) (N := some 96) (v := undef) (a' := ?_) #[true, true, true, true, true, true, true, true, true, true, true, true, true, true, true, true, true, true, true, true, true, true, true, true, false, false, false, false, false, false, false, false, false] rfl rfl (any_of HT_.out (by kernel_rfl)) (fun _ _ _ h => h) (Or.inr ⟨by rfl, rfl⟩) ?_ ?_
                rotate_left
                ·simp only [Act.put, List.setIfInBounds_toArray, List.set_cons_zero, List.set_cons_succ, i64_w, i32_w]
                 rfl
                refine pure_ (i := 24) (N := some 97) (v := undef) (a' := ?_) #[true, true, true, true, true, true, true, true, true, true, true, true, true, true, true, true, true, true, true, true, true, true, true, true, true, false, false, false, false, false, false, false, false] rfl rfl (any_of HT_.out (by kernel_rfl)) (fun _ _ _ h => h) (Or.inr ⟨by rfl, rfl⟩) ?_ ?_
                rotate_left
                ·simp only [Act.put, List.setIfInBounds_toArray, List.set_cons_zero, List.set_cons_succ, i64_w, i32_w]
                 rfl
                refine pure_ (i := 25) (N := some 98) (v := undef) (a' := ?_) #[true, true, true, true, true, true, true, true, true, true, true, true, true, true, true, true, true, true, true, true, true, true, true, true, true, true, false, false, false, false, false, false, false] rfl rfl (any_of HT_.out (by kernel_rfl)) (fun _ _ _ h => h) (Or.inr ⟨by rfl, rfl⟩) ?_ ?_
                rotate_left
                ·simp only [Act.put, List.setIfInBounds_toArray, List.set_cons_zero, List.set_cons_succ, i64_w, i32_w]
                 rfl
                refine pure_ (i := 26) (N := some 99) (v := undef) (a' := ?_) #[true, true, true, true, true, true, true, true, true, true, true, true, true, true, true, true, true, true, true, true, true, true, true, true, true, true, true, false, false, false, false, false, false] rfl rfl (any_of HT_.out (by kernel_rfl)) (fun _ _ _ h => h) (Or.inr ⟨by rfl, rfl⟩) ?_ ?_
                rotate_left
                ·simp only [Act.put, List.setIfInBounds_toArray, List.set_cons_zero, List.set_cons_succ, i64_w, i32_w]
                 rfl
                refine pure_ (i := 27) (N := some 100) (v := undef) (a' := ?_) #[true, true, true, true, true, true, true, true, true, true, true, true, true, true, true, true, true, true, true, true, true, true, true, true, true, true, true, true, false, false, false, false, false] rfl rfl (any_of HT_.out (by kernel_rfl)) (fun _ _ _ h => h) (Or.inr ⟨by rfl, rfl⟩) ?_ ?_
                rotate_left
                ·simp only [Act.put, List.setIfInBounds_toArray, List.set_cons_zero, List.set_cons_succ, i64_w, i32_w]
                 rfl
                refine pure_ (i := 28) (N := some 101) (v := undef) (a' := ?_) #[true, true, true, true, true, true, true, true, true, true, true, true, true, true, true, true, true, true, true, true, true, true, true, true, true, true, true, true, true, false, false, false, false] rfl rfl (any_of HT_.out (by kernel_rfl)) (fun _ _ _ h => h) (Or.inr ⟨by rfl, rfl⟩) ?_ ?_
                rotate_left
                ·simp only [Act.put, List.setIfInBounds_toArray, List.set_cons_zero, List.set_cons_succ, i64_w, i32_w]
                 rfl
                refine pure_ (i := 29) (N := some 102) (v := undef) (a' := ?_) #[true, true, true, true, true, true, true, true, true, true, true, true, true, true, true, true, true, true, true, true, true, true, true, true, true, true, true, true, true, true, false, false, false] rfl rfl (any_of HT_.out (by kernel_rfl)) (fun _ _ _ h => h) (Or.inr ⟨by rfl, rfl⟩) ?_ ?_
                rotate_left
                ·simp only [Act.put, List.setIfInBounds_toArray, List.set_cons_zero, List.set_cons_succ, i64_w, i32_w]
                 rfl
                refine pure_ (i := 30) (N := some 103) (v := undef) (a' := ?_) #[true, true, true, true, true, true, true, true, true, true, true, true, true, true, true, true, true, true, true, true, true, true, true, true, true, true, true, true, true, true, true, false, false] rfl rfl (any_of HT_.out (by kernel_rfl)) (fun _ _ _ h => h) (Or.inr ⟨by rfl, rfl⟩) ?_ ?_
                rotate_left
                ·simp only [Act.put, List.setIfInBounds_toArray, List.set_cons_zero, List.set_cons_succ, i64_w, i32_w]
                 rfl
                refine pure_ (i := 31) (N := some 104) (v := undef) (a' := ?_) #[true, true, true, true, true, true, true, true, true, true, true, true, true, true, true, true, true, true, true, true, true, true, true, true, true, true, true, true, true, true, true, true, false] rfl rfl (any_of HT_.out (by kernel_rfl)) (fun _ _ _ h => h) (Or.inr ⟨by rfl, rfl⟩) ?_ ?_
                rotate_left
                ·simp only [Act.put, List.setIfInBounds_toArray, List.set_cons_zero, List.set_cons_succ, i64_w, i32_w]
                 rfl
                refine pure_ (i := 32) (N := some 105) (v := ?_) (a' := ?_) #[true, true, true, true, true, true, true, true, true, true, true, true, true, true, true, true, true, true, true, true, true, true, true, true, true, true, true, true, true, true, true, true, true] rfl rfl (any_of HT_.out (by kernel_rfl)) (fun _ _ _ h => h) (Or.inl ⟨by rfl, ?_⟩) ?_ ?_
                rotate_left
                ·intro w'
                 go_simp
                 with_reducible rfl
                rotate_left
                ·simp only [Act.put, List.setIfInBounds_toArray, List.set_cons_zero, List.set_cons_succ, i64_w, i32_w]
                 rfl
                refine done_ (done_of HT_.out (by kernel_rfl)) ?_
                try go_wp2
                go_ret
                exact ⟨by first | rfl | (simp [errW_none, errW_some] <;> rfl) | (simp [*, errW_none, errW_some] <;> rfl), mvB HB⟩
              ·rw [if_neg c42] at H
               exact absurd H (by simp)
             ·rw [if_neg c40] at H
              exact absurd H (by simp)
            ·rw [if_neg c39] at H
             exact absurd H (by simp)
        ·rw [if_neg c21] at H
         exact absurd H (by simp)
       ·rw [if_neg c20] at H
        exact absurd H (by simp)
      ·rw [if_neg c19] at H
       have c19b0 : decide (x4_2 < (t260.length : Int)) = false := decide_eq_false c19
       clear c19
       have H' := Aside0.mk H
       clear H
       obtain ⟨Ao83, co83, eo83⟩ := Kd.R_slice HO_3.out
       subst eo83
       go_wp2
       go_loopg [9] k2 (fun kq v9 w' => ∃ (x9_3 : Int), v9 = .int .i32 x9_3 ∧ Aside0 (selvedgelaw03_CharrefKnown.l3 kq x9_3 = some r) ∧ Aside0 (kq ≤ k2) ∧ Aside0 (Below w.heap.size w w'))
       case atStart => exact ⟨(112), (by first | rfl | (simp; done) | (simp [*]; done)), H', ⟨Nat.le_refl _⟩, ⟨mvB HB⟩⟩
       case round =>
        clear H'
        try clear c1
        try clear c2
        try clear p2
        try clear q2
        try clear hx2
        try clear c3
        try clear c4
        try clear p6
        try clear c14
        try clear c16
        try clear c19
        try clear c19b0
        try clear c20
        try clear c21
        try clear p27
        try clear q27
        try clear hx27
        try clear c39
        try clear c40
        try clear c42
        try clear c44
        try clear c44b0
        try clear c44b1
        try clear c46
        try clear c46b0
        try clear c46b1
        try clear c46b2
        try clear p64
        try clear hx270_0
        try clear hx270_1
        try clear hx270_2
        try clear hx277_0
        try clear hx277_1
        try clear hx277_2
        try clear p270
        try clear p277
        try clear q270
        try clear q277
        obtain ⟨x9_3, rfl, HA, HK3, HB⟩ := hrel
        cases gk with
        | zero => exact absurd HA.out (by simp [selvedgelaw03_CharrefKnown.l3])
        | succ k3 =>
         have H := HA.out
         clear HA
         simp only [selvedgelaw03_CharrefKnown.l3] at H
         by_cases c84 : x9_3 < 176
         ·rw [if_pos c84] at H
          have c84b0 : decide (x9_3 < 176) = true := decide_eq_true c84
          clear c84
          replace H := Option.bind_eq_some_iff.mp H
          obtain ⟨t282, A850, H⟩ := H
          replace H : (if 2 + t282.size ≤ 9223372036854775807 then (if ((⟨#[38, 35]⟩ : ByteArray) ++ t282).size + 1 ≤ 9223372036854775807 then ((selvedgelaw03_CharrefDecodes.f k3 (((⟨#[38, 35]⟩ : ByteArray) ++ t282) ++ (⟨#[59]⟩ : ByteArray)) false).bind fun t283 => (if t283 = true then (selvedgelaw03_CharrefKnown.l3 k3 (wrap32 (x9_3 + 1))) else (some false))) else (none)) else (none)) = some r := H
          have A85 := Aside0.mk A850
          clear A850
          by_cases c86 : 2 + t282.size ≤ 9223372036854775807
          ·rw [if_pos c86] at H
           have c86b0 := eq_true c86
           have c86b1 : decide (2 + t282.size ≤ 9223372036854775807) = true := decide_eq_true c86
           try have c86b2 : (9223372036854775807 < 2 + t282.size) = False := eq_false (Nat.not_lt.2 c86)
           by_cases c87 : ((⟨#[38, 35]⟩ : ByteArray) ++ t282).size + 1 ≤ 9223372036854775807
           ·rw [if_pos c87] at H
            have c87b0 := eq_true c87
            have c87b1 : decide (((⟨#[38, 35]⟩ : ByteArray) ++ t282).size + 1 ≤ 9223372036854775807) = true := decide_eq_true c87
            try have c87b2 : (9223372036854775807 < ((⟨#[38, 35]⟩ : ByteArray) ++ t282).size + 1) = False := eq_false (Nat.not_lt.2 c87)
            try have c87b3 : (9223372036854775807 < 2 + t282.size + 1) = False := eq_false (by have z_ := c87; simp only [ByteArray.size_append, show (⟨#[38, 35]⟩ : ByteArray).size = 2 from rfl] at z_; omega)
            replace H := Option.bind_eq_some_iff.mp H
            obtain ⟨t283, A880, H⟩ := H
            replace H : (if t283 = true then (selvedgelaw03_CharrefKnown.l3 k3 (wrap32 (x9_3 + 1))) else (some false)) = some r := H
            have A88 := Aside0.mk A880
            clear A880
            by_cases c89 : t283 = true
            ·subst c89
             have H1 : (selvedgelaw03_CharrefKnown.l3 k3 (wrap32 (x9_3 + 1))) = some r := by rw [if_pos rfl] at H; exact H
             clear H
             have H := H1
             clear H1
             have H' := Aside0.mk H
             clear H
             go_wp2_with (first | ((with_reducible refine gate_callee (f := 17) rfl ?_); refine goesL_ (some 112) rfl rfl Tryd.func17 (by kernel_rfl) rfl #[.int .u32 ((x9_3) % 4294967296), .int .u32 10, .int .u8 0] rfl (by (try simp only [List.map_toArray, List.map_cons, List.map_nil]); first | done | rfl | (simp only [List.length_drop, List.length_take]; rfl)) ?_; (with_reducible refine (selvedgelaw03_digits.calls k3 ((x9_3) % 4294967296) 10 0 t282 _ A85.out).mono ?_); rintro e w' ⟨rfl, ⟨nd, rfl⟩⟩; refine ⟨_, rfl, ?_⟩) | ((with_reducible refine gate_callee (f := 4) rfl ?_); refine goesL_ (some 115) rfl rfl Tryd.func4 (by kernel_rfl) rfl #[.string (((⟨#[38, 35]⟩ : ByteArray) ++ t282) ++ (⟨#[59]⟩ : ByteArray)), .bool false] rfl (by (try simp only [List.map_toArray, List.map_cons, List.map_nil]); first | done | rfl | (simp only [List.length_drop, List.length_take]; rfl)) ?_; (with_reducible refine (selvedgelaw03_CharrefDecodes.calls k3 (((⟨#[38, 35]⟩ : ByteArray) ++ t282) ++ (⟨#[59]⟩ : ByteArray)) false true _ A88.out (by exact HT.out.below (mvB HB))).mono ?_); rintro e w90 ⟨rfl, hb⟩; refine ⟨_, rfl, ?_⟩; have n0_ := Aside0.mk (below_step (mvB HB) hb); clear HB; have HB := n0_; clear n0_; (try clear hb); (try clear hb2); (try clear hk); (try clear hi)))
             go_roundg k3
             case measure => have := HK1.out; have := HK2.out; have := HK3.out; omega
             case rel => exact ⟨(wrap32 (x9_3 + 1)), (by first | rfl | (simp; done) | (simp [*]; done)), H', ⟨by have := HK1.out; have := HK2.out; have := HK3.out; omega⟩, ⟨mvB HB⟩⟩
            ·replace c89 := Bool.eq_false_iff.mpr c89
             subst c89
             have H1 : (some false) = some r := by rw [if_neg (show ¬ (false = true) by decide)] at H; exact H
             clear H
             have H := H1
             clear H1
             obtain rfl := Option.some.inj H
             go_wp2_with (first | ((with_reducible refine gate_callee (f := 17) rfl ?_); refine goesL_ (some 112) rfl rfl Tryd.func17 (by kernel_rfl) rfl #[.int .u32 ((x9_3) % 4294967296), .int .u32 10, .int .u8 0] rfl (by (try simp only [List.map_toArray, List.map_cons, List.map_nil]); first | done | rfl | (simp only [List.length_drop, List.length_take]; rfl)) ?_; (with_reducible refine (selvedgelaw03_digits.calls k3 ((x9_3) % 4294967296) 10 0 t282 _ A85.out).mono ?_); rintro e w' ⟨rfl, ⟨nd, rfl⟩⟩; refine ⟨_, rfl, ?_⟩) | ((with_reducible refine gate_callee (f := 4) rfl ?_); refine goesL_ (some 115) rfl rfl Tryd.func4 (by kernel_rfl) rfl #[.string (((⟨#[38, 35]⟩ : ByteArray) ++ t282) ++ (⟨#[59]⟩ : ByteArray)), .bool false] rfl (by (try simp only [List.map_toArray, List.map_cons, List.map_nil]); first | done | rfl | (simp only [List.length_drop, List.length_take]; rfl)) ?_; (with_reducible refine (selvedgelaw03_CharrefDecodes.calls k3 (((⟨#[38, 35]⟩ : ByteArray) ++ t282) ++ (⟨#[59]⟩ : ByteArray)) false false _ A88.out (by exact HT.out.below (mvB HB))).mono ?_); rintro e w91 ⟨rfl, hb⟩; refine ⟨_, rfl, ?_⟩; have n0_ := Aside0.mk (below_step (mvB HB) hb); clear HB; have HB := n0_; clear n0_; (try clear hb); (try clear hb2); (try clear hk); (try clear hi)))
             go_ret
             exact ⟨by first | rfl | (simp [errW_none, errW_some] <;> rfl) | (simp [*, errW_none, errW_some] <;> rfl), mvB HB⟩
           ·rw [if_neg c87] at H
            exact absurd H (by simp)
          ·rw [if_neg c86] at H
           exact absurd H (by simp)
         ·rw [if_neg c84] at H
          have c84b0 : decide (x9_3 < 176) = false := decide_eq_false c84
          clear c84
          replace H := Option.bind_eq_some_iff.mp H
          obtain ⟨t280, A920, H⟩ := H
          replace H : (if t280.toList = ([38, 110, 111, 116, 105, 110, 32, 38, 110, 111, 116, 105] : List UInt8) then ((selvedgelaw03_works.f k3).bind fun t281 => (some t281)) else (some false)) = some r := H
          have A92 := Aside0.mk A920
          clear A920
          by_cases c93 : t280.toList = ([38, 110, 111, 116, 105, 110, 32, 38, 110, 111, 116, 105] : List UInt8)
          ·rw [if_pos c93] at H
           have c93b0 : (t280.toList == ([38, 110, 111, 116, 105, 110, 32, 38, 110, 111, 116, 105] : List UInt8)) = true := beq_iff_eq.mpr c93
           have c93b1 : (t280.toList != ([38, 110, 111, 116, 105, 110, 32, 38, 110, 111, 116, 105] : List UInt8)) = false := bne_eq_false_iff_eq.mpr c93
           clear c93
           replace H := Option.bind_eq_some_iff.mp H
           obtain ⟨t281, A940, H⟩ := H
           replace H : (some t281) = some r := H
           have A94 := Aside0.mk A940
           clear A940
           obtain rfl := Option.some.inj H
           go_wp2_with (first | ((with_reducible refine gate_callee (f := 14) rfl ?_); refine goesL_ (some 117) rfl rfl Tryd.func14 (by kernel_rfl) rfl #[.string (⟨#[38, 110, 111, 116, 105, 110, 32, 38, 110, 111, 116, 105]⟩ : ByteArray), .bool true] rfl (by (try simp only [List.map_toArray, List.map_cons, List.map_nil]); first | done | rfl | (simp only [List.length_drop, List.length_take]; rfl)) ?_; (with_reducible refine (charref_Decode.calls k3 (⟨#[38, 110, 111, 116, 105, 110, 32, 38, 110, 111, 116, 105]⟩ : ByteArray) true t280 _ A92.out (by exact HT.out.below (mvB HB))).mono ?_); rintro e w95 ⟨rfl, hb⟩; refine ⟨_, rfl, ?_⟩; have n0_ := Aside0.mk (below_step (mvB HB) hb); clear HB; have HB := n0_; clear n0_; (try clear hb); (try clear hb2); (try clear hk); (try clear hi)) | (go_at_call 10; (with_reducible refine (selvedgelaw03_works.calls k3  t281 _ A94.out (by exact HT.out.below (mvB HB))).mono ?_); rintro e w96 ⟨rfl, hb⟩; have n0_ := Aside0.mk (below_step (mvB HB) hb); clear HB; have HB := n0_; clear n0_; (try clear hb); (try clear hb2); (try clear hk); (try clear hi)))
           go_ret
           exact ⟨by first | rfl | (simp [errW_none, errW_some] <;> rfl) | (simp [*, errW_none, errW_some] <;> rfl), mvB HB⟩
          ·rw [if_neg c93] at H
           have c93b0 : (t280.toList == ([38, 110, 111, 116, 105, 110, 32, 38, 110, 111, 116, 105] : List UInt8)) = false := beq_eq_false_iff_ne.mpr c93
           have c93b1 : (t280.toList != ([38, 110, 111, 116, 105, 110, 32, 38, 110, 111, 116, 105] : List UInt8)) = true := bne_iff_ne.mpr c93
           obtain rfl := Option.some.inj H
           go_wp2_with (first | ((with_reducible refine gate_callee (f := 14) rfl ?_); refine goesL_ (some 117) rfl rfl Tryd.func14 (by kernel_rfl) rfl #[.string (⟨#[38, 110, 111, 116, 105, 110, 32, 38, 110, 111, 116, 105]⟩ : ByteArray), .bool true] rfl (by (try simp only [List.map_toArray, List.map_cons, List.map_nil]); first | done | rfl | (simp only [List.length_drop, List.length_take]; rfl)) ?_; (with_reducible refine (charref_Decode.calls k3 (⟨#[38, 110, 111, 116, 105, 110, 32, 38, 110, 111, 116, 105]⟩ : ByteArray) true t280 _ A92.out (by exact HT.out.below (mvB HB))).mono ?_); rintro e w97 ⟨rfl, hb⟩; refine ⟨_, rfl, ?_⟩; have n0_ := Aside0.mk (below_step (mvB HB) hb); clear HB; have HB := n0_; clear n0_; (try clear hb); (try clear hb2); (try clear hk); (try clear hi)))
           go_ret
           exact ⟨by first | rfl | (simp [errW_none, errW_some] <;> rfl) | (simp [*, errW_none, errW_some] <;> rfl), mvB HB⟩

/-- THE ONE PURE STATEMENT of selvedgelaw03_CharrefKnown: yours. -/
def selvedgelaw03_CharrefKnown.Pure : Prop := ∃ k, selvedgelaw03_CharrefKnown.f k  = some true
theorem selvedgelaw03_CharrefKnown.walk (P : selvedgelaw03_CharrefKnown.Pure)  (w : World)  (hT : Tabs w) :
  Calls Tryd.prog 9 #[] w fun e w' => e = .returned (.bool true) ∧ Below w.heap.size w w' := by
 obtain ⟨k, h⟩ := P  
 refine (selvedgelaw03_CharrefKnown.calls k  true w h hT).mono ?_
 rintro e w' ⟨rfl, hd⟩
 exact ⟨rfl, hd⟩

end Go.Proofs.YtaohghcmlohngaaDoor.X
