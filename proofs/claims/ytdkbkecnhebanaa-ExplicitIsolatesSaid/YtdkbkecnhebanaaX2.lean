-- by xprint.py: the kit's printer over texts of this session
import Derived.Test.YtdkbkecnhebanaaX0
import Derived.Test.YtdkbkecnhebanaaX1
namespace Go.Proofs.Ytdkbkecnhebanaa.X
open Go.RowKit Go.Proofs.YtdkbkecnhebanaaW.PrintWords Go.Proofs.YtdkbkecnhebanaaW.PrintLast Go.Proofs.YtdkbkecnhebanaaW.PrintMore
attribute [local go_sem] max2_int min2_int max_two min_two max_three min_three max_four min_four   -- for this text's walks alone
set_option linter.unusedVariables false
set_option linter.unusedSimpArgs false

/-! ### selvedgelaw14_ExplicitIsolates: function 5 -/
mutual
def selvedgelaw14_ExplicitIsolates.j0 : Nat → List Int → List Int → List Int → List Int → Bool → Int → Bool → Option (Bool)
 | 0, _, _, _, _, _, _, _ => none
 | k + 1, x0, x1, x2, x3, x4, x5, x61 => if x61 = true then ((selvedgelaw14_works.f k).bind fun t163 => (some t163)) else (if x4 = true then (selvedgelaw14_ExplicitIsolates.j1 k x0 x1 x2 x3 x5 21) else (selvedgelaw14_ExplicitIsolates.j1 k x0 x1 x2 x3 x5 20))
def selvedgelaw14_ExplicitIsolates.j1 : Nat → List Int → List Int → List Int → List Int → Int → Int → Option (Bool)
 | 0, _, _, _, _, _, _ => none
 | k + 1, x0, x1, x2, x3, x5, x13 => if ([] : List Int).length + x0.length < 140737488355328 then ((some (([] : List Int) ++ x0 : List Int)).bind fun y164 => (if y164.length < 140737488355328 then ((some (y164 ++ [x13] : List Int)).bind fun y167 => (if ([] : List Int).length + y167.length < 140737488355328 then ((some (([] : List Int) ++ y167 : List Int)).bind fun y170 => (if y167.length + x1.length < 140737488355328 then ((some (y167 ++ x1 : List Int)).bind fun y173 => (if y170.length + x2.length < 140737488355328 then ((some (y170 ++ x2 : List Int)).bind fun y176 => (if y173.length < 140737488355328 then ((some (y173 ++ [23] : List Int)).bind fun y179 => (if y176.length < 140737488355328 then ((some (y176 ++ [23] : List Int)).bind fun y182 => (if y179.length + x3.length < 140737488355328 then ((some (y179 ++ x3 : List Int)).bind fun y185 => (if y182.length + x3.length < 140737488355328 then ((some (y182 ++ x3 : List Int)).bind fun y188 => ((explicit_Levels.f y185 x5).bind fun bt191 => ((explicit_Levels.f y188 x5).bind fun bt199 => (if bt191.2.2.2 = bt199.2.2.2 then (if bt191.2.2.1 = bt199.2.2.1 then (selvedgelaw14_ExplicitIsolates.j2 k x0 x3 x13 y185 y188 bt191.1 bt191.2.1 bt191.2.2.1 bt191.2.2.2 bt199.1 bt199.2.1 bt199.2.2.2 (bt191.2.2.2 != 0)) else (selvedgelaw14_ExplicitIsolates.j2 k x0 x3 x13 y185 y188 bt191.1 bt191.2.1 bt191.2.2.1 bt191.2.2.2 bt199.1 bt199.2.1 bt199.2.2.2 true)) else (selvedgelaw14_ExplicitIsolates.j2 k x0 x3 x13 y185 y188 bt191.1 bt191.2.1 bt191.2.2.1 bt191.2.2.2 bt199.1 bt199.2.1 bt199.2.2.2 true))))) else (none))) else (none))) else (none))) else (none))) else (none))) else (none))) else (none))) else (none))) else (none)
def selvedgelaw14_ExplicitIsolates.j2 : Nat → List Int → List Int → Int → List Int → List Int → List Int → List Int → Int → Int → List Int → List Int → Int → Bool → Option (Bool)
 | 0, _, _, _, _, _, _, _, _, _, _, _, _, _ => none
 | k + 1, x0, x3, x13, x14, x15, x16, x17, x18, x19, x20, x21, x23, x119 => if x119 = true then (if x19 = x23 then ((selvedgelaw14_works.f k).bind fun t207 => (some t207)) else (some false)) else (if ([] : List Int).length + x0.length < 140737488355328 then ((some (([] : List Int) ++ x0 : List Int)).bind fun y208 => ((some (([x13, 14, 23] : List Int) : List Int)).bind fun y211 => (if y208.length + y211.length < 140737488355328 then ((some (y208 ++ y211 : List Int)).bind fun y214 => (if y214.length + x3.length < 140737488355328 then ((some (y214 ++ x3 : List Int)).bind fun y217 => ((explicit_Levels.f y217 x18).bind fun bt220 => (if (bt220.1.length : Int) = (y217.length : Int) then (if 0 ≤ (wrap64 ((x0.length : Int) + 1)) then (if (wrap64 ((x0.length : Int) + 1)) < (bt220.1.length : Int) then (if 0 ≤ (x0.length : Int) then (if (x0.length : Int) < (bt220.1.length : Int) then (selvedgelaw14_ExplicitIsolates.j3 k x0 x3 x14 x15 x16 x17 x20 x21 ((rd bt220.1 (wrap64 ((x0.length : Int) + 1))) == (rd bt220.1 (x0.length : Int)))) else (none)) else (none)) else (none)) else (none)) else (selvedgelaw14_ExplicitIsolates.j3 k x0 x3 x14 x15 x16 x17 x20 x21 true)))) else (none))) else (none)))) else (none))
def selvedgelaw14_ExplicitIsolates.j3 : Nat → List Int → List Int → List Int → List Int → List Int → List Int → List Int → List Int → Bool → Option (Bool)
 | 0, _, _, _, _, _, _, _, _, _ => none
 | k + 1, x0, x3, x14, x15, x16, x17, x20, x21, x162 => if x162 = true then ((selvedgelaw14_works.f k).bind fun t230 => (some t230)) else (selvedgelaw14_ExplicitIsolates.l0 k x0 x3 x14 x15 x16 x17 x20 x21 0)
def selvedgelaw14_ExplicitIsolates.l0 : Nat → List Int → List Int → List Int → List Int → List Int → List Int → List Int → List Int → Int → Option (Bool)
 | 0, _, _, _, _, _, _, _, _, _ => none
 | k + 1, x0, x3, x14, x15, x16, x17, x20, x21, x30 => if x30 ≤ (x0.length : Int) then (if 0 ≤ x30 then (if x30 < (x16.length : Int) then (if x30 < (x20.length : Int) then (if (rd x16 x30) = (rd x20 x30) then (if x30 < (x17.length : Int) then (if x30 < (x21.length : Int) then (if (rd x17 x30) = (rd x21 x30) then (selvedgelaw14_ExplicitIsolates.l0 k x0 x3 x14 x15 x16 x17 x20 x21 (wrap64 (x30 + 1))) else (some false)) else (none)) else (none)) else (some false)) else (none)) else (none)) else (none)) else (selvedgelaw14_ExplicitIsolates.l1 k x3 x14 x15 x16 x17 x20 x21 0)
def selvedgelaw14_ExplicitIsolates.l1 : Nat → List Int → List Int → List Int → List Int → List Int → List Int → List Int → Int → Option (Bool)
 | 0, _, _, _, _, _, _, _, _ => none
 | k + 1, x3, x14, x15, x16, x17, x20, x21, x31 => if x31 ≤ (x3.length : Int) then (if 0 ≤ (wrap64 ((wrap64 ((x14.length : Int) - 1)) - x31)) then (if (wrap64 ((wrap64 ((x14.length : Int) - 1)) - x31)) < (x16.length : Int) then (if 0 ≤ (wrap64 ((wrap64 ((x15.length : Int) - 1)) - x31)) then (if (wrap64 ((wrap64 ((x15.length : Int) - 1)) - x31)) < (x20.length : Int) then (if (rd x16 (wrap64 ((wrap64 ((x14.length : Int) - 1)) - x31))) = (rd x20 (wrap64 ((wrap64 ((x15.length : Int) - 1)) - x31))) then (if (wrap64 ((wrap64 ((x14.length : Int) - 1)) - x31)) < (x17.length : Int) then (if (wrap64 ((wrap64 ((x15.length : Int) - 1)) - x31)) < (x21.length : Int) then (if (rd x17 (wrap64 ((wrap64 ((x14.length : Int) - 1)) - x31))) = (rd x21 (wrap64 ((wrap64 ((x15.length : Int) - 1)) - x31))) then (selvedgelaw14_ExplicitIsolates.l1 k x3 x14 x15 x16 x17 x20 x21 (wrap64 (x31 + 1))) else (some false)) else (none)) else (none)) else (some false)) else (none)) else (none)) else (none)) else (none)) else ((selvedgelaw14_works.f k).bind fun t239 => (some t239))
end
def selvedgelaw14_ExplicitIsolates.f (k : Nat) (l0 : List Int) (l1 : List Int) (l2 : List Int) (l3 : List Int) (a4 : Bool) (a5 : Int) : Option (Bool) := if (l0.length : Int) > 600 then (selvedgelaw14_ExplicitIsolates.j0 k l0 l1 l2 l3 a4 a5 true) else (if (l1.length : Int) > 600 then (selvedgelaw14_ExplicitIsolates.j0 k l0 l1 l2 l3 a4 a5 true) else (if (l2.length : Int) > 600 then (selvedgelaw14_ExplicitIsolates.j0 k l0 l1 l2 l3 a4 a5 true) else (if (l3.length : Int) > 600 then (selvedgelaw14_ExplicitIsolates.j0 k l0 l1 l2 l3 a4 a5 true) else ((selvedgelaw14_plain.f k l1).bind fun t161 => (if t161 = true then ((selvedgelaw14_plain.f k l2).bind fun t162 => (selvedgelaw14_ExplicitIsolates.j0 k l0 l1 l2 l3 a4 a5 (!t162))) else (selvedgelaw14_ExplicitIsolates.j0 k l0 l1 l2 l3 a4 a5 true))))))
theorem selvedgelaw14_ExplicitIsolates.mono_l : ∀ k, (∀ y0 y1 y2 y3 y4 y5 y6, LeO (selvedgelaw14_ExplicitIsolates.j0 k y0 y1 y2 y3 y4 y5 y6) (selvedgelaw14_ExplicitIsolates.j0 (k + 1) y0 y1 y2 y3 y4 y5 y6)) ∧ (∀ y0 y1 y2 y3 y4 y5, LeO (selvedgelaw14_ExplicitIsolates.j1 k y0 y1 y2 y3 y4 y5) (selvedgelaw14_ExplicitIsolates.j1 (k + 1) y0 y1 y2 y3 y4 y5)) ∧ (∀ y0 y1 y2 y3 y4 y5 y6 y7 y8 y9 y10 y11 y12, LeO (selvedgelaw14_ExplicitIsolates.j2 k y0 y1 y2 y3 y4 y5 y6 y7 y8 y9 y10 y11 y12) (selvedgelaw14_ExplicitIsolates.j2 (k + 1) y0 y1 y2 y3 y4 y5 y6 y7 y8 y9 y10 y11 y12)) ∧ (∀ y0 y1 y2 y3 y4 y5 y6 y7 y8, LeO (selvedgelaw14_ExplicitIsolates.j3 k y0 y1 y2 y3 y4 y5 y6 y7 y8) (selvedgelaw14_ExplicitIsolates.j3 (k + 1) y0 y1 y2 y3 y4 y5 y6 y7 y8)) ∧ (∀ y0 y1 y2 y3 y4 y5 y6 y7 y8, LeO (selvedgelaw14_ExplicitIsolates.l0 k y0 y1 y2 y3 y4 y5 y6 y7 y8) (selvedgelaw14_ExplicitIsolates.l0 (k + 1) y0 y1 y2 y3 y4 y5 y6 y7 y8)) ∧ (∀ y0 y1 y2 y3 y4 y5 y6 y7, LeO (selvedgelaw14_ExplicitIsolates.l1 k y0 y1 y2 y3 y4 y5 y6 y7) (selvedgelaw14_ExplicitIsolates.l1 (k + 1) y0 y1 y2 y3 y4 y5 y6 y7))
 | 0 => ⟨fun _ _ _ _ _ _ _ r h => by simp [selvedgelaw14_ExplicitIsolates.j0] at h, fun _ _ _ _ _ _ r h => by simp [selvedgelaw14_ExplicitIsolates.j1] at h, fun _ _ _ _ _ _ _ _ _ _ _ _ _ r h => by simp [selvedgelaw14_ExplicitIsolates.j2] at h, fun _ _ _ _ _ _ _ _ _ r h => by simp [selvedgelaw14_ExplicitIsolates.j3] at h, fun _ _ _ _ _ _ _ _ _ r h => by simp [selvedgelaw14_ExplicitIsolates.l0] at h, fun _ _ _ _ _ _ _ _ r h => by simp [selvedgelaw14_ExplicitIsolates.l1] at h⟩
 | k + 1 => by
  obtain ⟨ih0, ih1, ih2, ih3, ih4, ih5⟩ := selvedgelaw14_ExplicitIsolates.mono_l k
  refine ⟨?_, ?_, ?_, ?_, ?_, ?_⟩
  ·intro y0 y1 y2 y3 y4 y5 y6
   unfold selvedgelaw14_ExplicitIsolates.j0
   repeat' first
   | (with_reducible exact ih0 _ _ _ _ _ _ _)
   | (with_reducible exact ih1 _ _ _ _ _ _)
   | (with_reducible exact ih2 _ _ _ _ _ _ _ _ _ _ _ _ _)
   | (with_reducible exact ih3 _ _ _ _ _ _ _ _ _)
   | (with_reducible exact ih4 _ _ _ _ _ _ _ _ _)
   | (with_reducible exact ih5 _ _ _ _ _ _ _ _)
   | (with_reducible exact selvedgelaw14_plain.mono _ _)
   | (with_reducible exact selvedgelaw14_works.mono _)
   | (with_reducible exact LeO.refl _)
   | (with_reducible exact LeO.none _)
   | (with_reducible refine LeO.ite ?_ ?_)
   | (with_reducible refine LeO.bind ?_ (fun _ => ?_))
   | exact ih0 _ _ _ _ _ _ _
   | exact ih1 _ _ _ _ _ _
   | exact ih2 _ _ _ _ _ _ _ _ _ _ _ _ _
   | exact ih3 _ _ _ _ _ _ _ _ _
   | exact ih4 _ _ _ _ _ _ _ _ _
   | exact ih5 _ _ _ _ _ _ _ _
   | exact selvedgelaw14_plain.mono _ _
   | exact selvedgelaw14_works.mono _
   | exact LeO.none _
   | refine LeO.ite ?_ ?_
   | refine LeO.bind ?_ (fun _ => ?_)
  ·intro y0 y1 y2 y3 y4 y5
   unfold selvedgelaw14_ExplicitIsolates.j1
   repeat' first
   | (with_reducible exact ih0 _ _ _ _ _ _ _)
   | (with_reducible exact ih1 _ _ _ _ _ _)
   | (with_reducible exact ih2 _ _ _ _ _ _ _ _ _ _ _ _ _)
   | (with_reducible exact ih3 _ _ _ _ _ _ _ _ _)
   | (with_reducible exact ih4 _ _ _ _ _ _ _ _ _)
   | (with_reducible exact ih5 _ _ _ _ _ _ _ _)
   | (with_reducible exact selvedgelaw14_plain.mono _ _)
   | (with_reducible exact selvedgelaw14_works.mono _)
   | (with_reducible exact LeO.refl _)
   | (with_reducible exact LeO.none _)
   | (with_reducible refine LeO.ite ?_ ?_)
   | (with_reducible refine LeO.bind ?_ (fun _ => ?_))
   | exact ih0 _ _ _ _ _ _ _
   | exact ih1 _ _ _ _ _ _
   | exact ih2 _ _ _ _ _ _ _ _ _ _ _ _ _
   | exact ih3 _ _ _ _ _ _ _ _ _
   | exact ih4 _ _ _ _ _ _ _ _ _
   | exact ih5 _ _ _ _ _ _ _ _
   | exact selvedgelaw14_plain.mono _ _
   | exact selvedgelaw14_works.mono _
   | exact LeO.none _
   | refine LeO.ite ?_ ?_
   | refine LeO.bind ?_ (fun _ => ?_)
  ·intro y0 y1 y2 y3 y4 y5 y6 y7 y8 y9 y10 y11 y12
   unfold selvedgelaw14_ExplicitIsolates.j2
   repeat' first
   | (with_reducible exact ih0 _ _ _ _ _ _ _)
   | (with_reducible exact ih1 _ _ _ _ _ _)
   | (with_reducible exact ih2 _ _ _ _ _ _ _ _ _ _ _ _ _)
   | (with_reducible exact ih3 _ _ _ _ _ _ _ _ _)
   | (with_reducible exact ih4 _ _ _ _ _ _ _ _ _)
   | (with_reducible exact ih5 _ _ _ _ _ _ _ _)
   | (with_reducible exact selvedgelaw14_plain.mono _ _)
   | (with_reducible exact selvedgelaw14_works.mono _)
   | (with_reducible exact LeO.refl _)
   | (with_reducible exact LeO.none _)
   | (with_reducible refine LeO.ite ?_ ?_)
   | (with_reducible refine LeO.bind ?_ (fun _ => ?_))
   | exact ih0 _ _ _ _ _ _ _
   | exact ih1 _ _ _ _ _ _
   | exact ih2 _ _ _ _ _ _ _ _ _ _ _ _ _
   | exact ih3 _ _ _ _ _ _ _ _ _
   | exact ih4 _ _ _ _ _ _ _ _ _
   | exact ih5 _ _ _ _ _ _ _ _
   | exact selvedgelaw14_plain.mono _ _
   | exact selvedgelaw14_works.mono _
   | exact LeO.none _
   | refine LeO.ite ?_ ?_
   | refine LeO.bind ?_ (fun _ => ?_)
  ·intro y0 y1 y2 y3 y4 y5 y6 y7 y8
   unfold selvedgelaw14_ExplicitIsolates.j3
   repeat' first
   | (with_reducible exact ih0 _ _ _ _ _ _ _)
   | (with_reducible exact ih1 _ _ _ _ _ _)
   | (with_reducible exact ih2 _ _ _ _ _ _ _ _ _ _ _ _ _)
   | (with_reducible exact ih3 _ _ _ _ _ _ _ _ _)
   | (with_reducible exact ih4 _ _ _ _ _ _ _ _ _)
   | (with_reducible exact ih5 _ _ _ _ _ _ _ _)
   | (with_reducible exact selvedgelaw14_plain.mono _ _)
   | (with_reducible exact selvedgelaw14_works.mono _)
   | (with_reducible exact LeO.refl _)
   | (with_reducible exact LeO.none _)
   | (with_reducible refine LeO.ite ?_ ?_)
   | (with_reducible refine LeO.bind ?_ (fun _ => ?_))
   | exact ih0 _ _ _ _ _ _ _
   | exact ih1 _ _ _ _ _ _
   | exact ih2 _ _ _ _ _ _ _ _ _ _ _ _ _
   | exact ih3 _ _ _ _ _ _ _ _ _
   | exact ih4 _ _ _ _ _ _ _ _ _
   | exact ih5 _ _ _ _ _ _ _ _
   | exact selvedgelaw14_plain.mono _ _
   | exact selvedgelaw14_works.mono _
   | exact LeO.none _
   | refine LeO.ite ?_ ?_
   | refine LeO.bind ?_ (fun _ => ?_)
  ·intro y0 y1 y2 y3 y4 y5 y6 y7 y8
   unfold selvedgelaw14_ExplicitIsolates.l0
   repeat' first
   | (with_reducible exact ih0 _ _ _ _ _ _ _)
   | (with_reducible exact ih1 _ _ _ _ _ _)
   | (with_reducible exact ih2 _ _ _ _ _ _ _ _ _ _ _ _ _)
   | (with_reducible exact ih3 _ _ _ _ _ _ _ _ _)
   | (with_reducible exact ih4 _ _ _ _ _ _ _ _ _)
   | (with_reducible exact ih5 _ _ _ _ _ _ _ _)
   | (with_reducible exact selvedgelaw14_plain.mono _ _)
   | (with_reducible exact selvedgelaw14_works.mono _)
   | (with_reducible exact LeO.refl _)
   | (with_reducible exact LeO.none _)
   | (with_reducible refine LeO.ite ?_ ?_)
   | (with_reducible refine LeO.bind ?_ (fun _ => ?_))
   | exact ih0 _ _ _ _ _ _ _
   | exact ih1 _ _ _ _ _ _
   | exact ih2 _ _ _ _ _ _ _ _ _ _ _ _ _
   | exact ih3 _ _ _ _ _ _ _ _ _
   | exact ih4 _ _ _ _ _ _ _ _ _
   | exact ih5 _ _ _ _ _ _ _ _
   | exact selvedgelaw14_plain.mono _ _
   | exact selvedgelaw14_works.mono _
   | exact LeO.none _
   | refine LeO.ite ?_ ?_
   | refine LeO.bind ?_ (fun _ => ?_)
  ·intro y0 y1 y2 y3 y4 y5 y6 y7
   unfold selvedgelaw14_ExplicitIsolates.l1
   repeat' first
   | (with_reducible exact ih0 _ _ _ _ _ _ _)
   | (with_reducible exact ih1 _ _ _ _ _ _)
   | (with_reducible exact ih2 _ _ _ _ _ _ _ _ _ _ _ _ _)
   | (with_reducible exact ih3 _ _ _ _ _ _ _ _ _)
   | (with_reducible exact ih4 _ _ _ _ _ _ _ _ _)
   | (with_reducible exact ih5 _ _ _ _ _ _ _ _)
   | (with_reducible exact selvedgelaw14_plain.mono _ _)
   | (with_reducible exact selvedgelaw14_works.mono _)
   | (with_reducible exact LeO.refl _)
   | (with_reducible exact LeO.none _)
   | (with_reducible refine LeO.ite ?_ ?_)
   | (with_reducible refine LeO.bind ?_ (fun _ => ?_))
   | exact ih0 _ _ _ _ _ _ _
   | exact ih1 _ _ _ _ _ _
   | exact ih2 _ _ _ _ _ _ _ _ _ _ _ _ _
   | exact ih3 _ _ _ _ _ _ _ _ _
   | exact ih4 _ _ _ _ _ _ _ _ _
   | exact ih5 _ _ _ _ _ _ _ _
   | exact selvedgelaw14_plain.mono _ _
   | exact selvedgelaw14_works.mono _
   | exact LeO.none _
   | refine LeO.ite ?_ ?_
   | refine LeO.bind ?_ (fun _ => ?_)
theorem selvedgelaw14_ExplicitIsolates.mono : ∀ a0 a1 a2 a3 a4 a5 k, LeO (selvedgelaw14_ExplicitIsolates.f k a0 a1 a2 a3 a4 a5) (selvedgelaw14_ExplicitIsolates.f (k + 1) a0 a1 a2 a3 a4 a5) := by
 intro a0 a1 a2 a3 a4 a5 k
 obtain ⟨ih0, ih1, ih2, ih3, ih4, ih5⟩ := selvedgelaw14_ExplicitIsolates.mono_l k
 unfold selvedgelaw14_ExplicitIsolates.f
 repeat' first
   | (with_reducible exact ih0 _ _ _ _ _ _ _)
   | (with_reducible exact ih1 _ _ _ _ _ _)
   | (with_reducible exact ih2 _ _ _ _ _ _ _ _ _ _ _ _ _)
   | (with_reducible exact ih3 _ _ _ _ _ _ _ _ _)
   | (with_reducible exact ih4 _ _ _ _ _ _ _ _ _)
   | (with_reducible exact ih5 _ _ _ _ _ _ _ _)
   | (with_reducible exact selvedgelaw14_plain.mono _ _)
   | (with_reducible exact selvedgelaw14_works.mono _)
   | (with_reducible exact LeO.refl _)
   | (with_reducible exact LeO.none _)
   | (with_reducible refine LeO.ite ?_ ?_)
   | (with_reducible refine LeO.bind ?_ (fun _ => ?_))
   | exact ih0 _ _ _ _ _ _ _
   | exact ih1 _ _ _ _ _ _
   | exact ih2 _ _ _ _ _ _ _ _ _ _ _ _ _
   | exact ih3 _ _ _ _ _ _ _ _ _
   | exact ih4 _ _ _ _ _ _ _ _ _
   | exact ih5 _ _ _ _ _ _ _ _
   | exact selvedgelaw14_plain.mono _ _
   | exact selvedgelaw14_works.mono _
   | exact LeO.none _
   | refine LeO.ite ?_ ?_
   | refine LeO.bind ?_ (fun _ => ?_)
set_option maxHeartbeats 8000000 in
set_option maxRecDepth 100000 in
theorem selvedgelaw14_ExplicitIsolates.calls (k : Nat) (A0 : Option Addr) (c0 : Nat) (l0 : List Int) (A1 : Option Addr) (c1 : Nat) (l1 : List Int) (A2 : Option Addr) (c2 : Nat) (l2 : List Int) (A3 : Option Addr) (c3 : Nat) (l3 : List Int) (a4 : Bool) (a5 : Int) (r : Bool) (w : World) (hr0 : Kd.C (Kd.int .u8) w A0 l0.length l0) (hc0 : l0.length ≤ c0) (hr1 : Kd.C (Kd.int .u8) w A1 l1.length l1) (hc1 : l1.length ≤ c1) (hr2 : Kd.C (Kd.int .u8) w A2 l2.length l2) (hc2 : l2.length ≤ c2) (hr3 : Kd.C (Kd.int .u8) w A3 l3.length l3) (hc3 : l3.length ≤ c3) (h : selvedgelaw14_ExplicitIsolates.f k l0 l1 l2 l3 a4 a5 = some r) :
  Calls Try.prog 5 #[.slice A0 l0.length c0, .slice A1 l1.length c1, .slice A2 l2.length c2, .slice A3 l3.length c3, .bool a4, .int .u8 a5] w fun e w' => e = .returned (.bool r) ∧ Below w.heap.size w w' := by
 have HR0 := Aside0.mk hr0
 have HC0 := Aside0.mk hc0
 clear hr0 hc0
 have HR1 := Aside0.mk hr1
 have HC1 := Aside0.mk hc1
 clear hr1 hc1
 have HR2 := Aside0.mk hr2
 have HC2 := Aside0.mk hc2
 clear hr2 hc2
 have HR3 := Aside0.mk hr3
 have HC3 := Aside0.mk hc3
 clear hr3 hc3
 have HB := Aside0.mk (Below.refl w.heap.size w)
 have H : (if (l0.length : Int) > 600 then (selvedgelaw14_ExplicitIsolates.j0 k l0 l1 l2 l3 a4 a5 true) else (if (l1.length : Int) > 600 then (selvedgelaw14_ExplicitIsolates.j0 k l0 l1 l2 l3 a4 a5 true) else (if (l2.length : Int) > 600 then (selvedgelaw14_ExplicitIsolates.j0 k l0 l1 l2 l3 a4 a5 true) else (if (l3.length : Int) > 600 then (selvedgelaw14_ExplicitIsolates.j0 k l0 l1 l2 l3 a4 a5 true) else ((selvedgelaw14_plain.f k l1).bind fun t161 => (if t161 = true then ((selvedgelaw14_plain.f k l2).bind fun t162 => (selvedgelaw14_ExplicitIsolates.j0 k l0 l1 l2 l3 a4 a5 (!t162))) else (selvedgelaw14_ExplicitIsolates.j0 k l0 l1 l2 l3 a4 a5 true))))))) = some r := h
 clear h
 have HC7 := Aside0.mk H
 clear H
 go_enter Try.func5, Try.ntmps5
 go_upto_region 1 with (fail)
 repeat (go_quiet (fail); go_upto_region 1 with (fail))
 go_cut [61] (fun v61 wc => ∃ (kq : Nat) (x61_6 : Bool), v61 = .bool x61_6 ∧ Aside0 (selvedgelaw14_ExplicitIsolates.j0 kq l0 l1 l2 l3 a4 a5 x61_6 = some r) ∧ Aside0 (kq ≤ k) ∧ Aside0 (Below w.heap.size w wc))
 case first =>
  as_aux_lemma =>
  have H := HC7.out
  clear HC7
  by_cases c8 : (l0.length : Int) > 600
  ·rw [if_pos c8] at H
   have c8b0 : decide (600 < (l0.length : Int)) = true := decide_eq_true c8
   have c8b1 : decide (600 < l0.length) = true := decide_eq_true (by omega)
   clear c8
   (first | rw [c8b0] | (simp only [i64_w, i32_w]; rw [c8b0]) | skip)
   have H' := Aside0.mk H
   clear H
   go_wp2
   repeat (go_quiet (fail); try go_wp2)
   go_meet
   case rel => exact ⟨_, (true), (by first | rfl | (simp; done) | (simp [*]; done)), H', ⟨by first | omega | exact Nat.le_refl _⟩, ⟨mvB HB⟩⟩
  ·rw [if_neg c8] at H
   have c8b0 : decide (600 < (l0.length : Int)) = false := decide_eq_false c8
   have c8b1 : decide (600 < l0.length) = false := decide_eq_false (by omega)
   clear c8
   (first | rw [c8b0] | (simp only [i64_w, i32_w]; rw [c8b0]) | skip)
   by_cases c9 : (l1.length : Int) > 600
   ·rw [if_pos c9] at H
    have c9b0 : decide (600 < (l1.length : Int)) = true := decide_eq_true c9
    have c9b1 : decide (600 < l1.length) = true := decide_eq_true (by omega)
    clear c9
    have H' := Aside0.mk H
    clear H
    go_wp2
    repeat (go_quiet (fail); try go_wp2)
    go_meet
    case rel => exact ⟨_, (true), (by first | rfl | (simp; done) | (simp [*]; done)), H', ⟨by first | omega | exact Nat.le_refl _⟩, ⟨mvB HB⟩⟩
   ·rw [if_neg c9] at H
    have c9b0 : decide (600 < (l1.length : Int)) = false := decide_eq_false c9
    have c9b1 : decide (600 < l1.length) = false := decide_eq_false (by omega)
    clear c9
    by_cases c10 : (l2.length : Int) > 600
    ·rw [if_pos c10] at H
     have c10b0 : decide (600 < (l2.length : Int)) = true := decide_eq_true c10
     have c10b1 : decide (600 < l2.length) = true := decide_eq_true (by omega)
     clear c10
     have H' := Aside0.mk H
     clear H
     go_wp2
     repeat (go_quiet (fail); try go_wp2)
     go_meet
     case rel => exact ⟨_, (true), (by first | rfl | (simp; done) | (simp [*]; done)), H', ⟨by first | omega | exact Nat.le_refl _⟩, ⟨mvB HB⟩⟩
    ·rw [if_neg c10] at H
     have c10b0 : decide (600 < (l2.length : Int)) = false := decide_eq_false c10
     have c10b1 : decide (600 < l2.length) = false := decide_eq_false (by omega)
     clear c10
     by_cases c11 : (l3.length : Int) > 600
     ·rw [if_pos c11] at H
      have c11b0 : decide (600 < (l3.length : Int)) = true := decide_eq_true c11
      have c11b1 : decide (600 < l3.length) = true := decide_eq_true (by omega)
      clear c11
      have H' := Aside0.mk H
      clear H
      go_wp2
      repeat (go_quiet (fail); try go_wp2)
      go_meet
      case rel => exact ⟨_, (true), (by first | rfl | (simp; done) | (simp [*]; done)), H', ⟨by first | omega | exact Nat.le_refl _⟩, ⟨mvB HB⟩⟩
     ·rw [if_neg c11] at H
      have c11b0 : decide (600 < (l3.length : Int)) = false := decide_eq_false c11
      have c11b1 : decide (600 < l3.length) = false := decide_eq_false (by omega)
      clear c11
      replace H := Option.bind_eq_some_iff.mp H
      obtain ⟨t161, A120, H⟩ := H
      replace H : (if t161 = true then ((selvedgelaw14_plain.f k l2).bind fun t162 => (selvedgelaw14_ExplicitIsolates.j0 k l0 l1 l2 l3 a4 a5 (!t162))) else (selvedgelaw14_ExplicitIsolates.j0 k l0 l1 l2 l3 a4 a5 true)) = some r := H
      have A12 := Aside0.mk A120
      clear A120
      by_cases c13 : t161 = true
      ·subst c13
       have H1 : ((selvedgelaw14_plain.f k l2).bind fun t162 => (selvedgelaw14_ExplicitIsolates.j0 k l0 l1 l2 l3 a4 a5 (!t162))) = some r := by rw [if_pos rfl] at H; exact H
       clear H
       have H := H1
       clear H1
       replace H := Option.bind_eq_some_iff.mp H
       obtain ⟨t162, A140, H⟩ := H
       replace H : (selvedgelaw14_ExplicitIsolates.j0 k l0 l1 l2 l3 a4 a5 (!t162)) = some r := H
       have A14 := Aside0.mk A140
       clear A140
       have H' := Aside0.mk H
       clear H
       go_wp2_with (first | (go_at_call 18; (with_reducible refine (selvedgelaw14_plain.calls k _ _ l1 true _ ?side1 ?side2 A12.out).mono ?_); (case side1 => repeat (first | exact (Kd.C_below HR1.out HB.out) | (with_reducible refine Kd.C_alloc ?_ _) | (with_reducible refine Kd.C_drewN ?_ _) | (with_reducible refine Kd.C_drew ?_))); (case side2 => exact HC1.out); rintro e w' ⟨rfl, ⟨nd, rfl⟩⟩; (try first | exact ⟨rfl, _, World.drewN_drewN _ _ _⟩ | exact ⟨rfl, _, Eq.trans (World.drewN_drewN _ _ _) (congrArg (World.drewN _) (Nat.add_assoc _ _ _))⟩)) | (go_at_call 18; (with_reducible refine (selvedgelaw14_plain.calls k _ _ l2 t162 _ ?side1 ?side2 A14.out).mono ?_); (case side1 => repeat (first | exact (Kd.C_below HR2.out (mvB HB)) | (with_reducible refine Kd.C_alloc ?_ _) | (with_reducible refine Kd.C_drewN ?_ _) | (with_reducible refine Kd.C_drew ?_))); (case side2 => exact HC2.out); rintro e w' ⟨rfl, ⟨nd, rfl⟩⟩; (try first | exact ⟨rfl, _, World.drewN_drewN _ _ _⟩ | exact ⟨rfl, _, Eq.trans (World.drewN_drewN _ _ _) (congrArg (World.drewN _) (Nat.add_assoc _ _ _))⟩)))
       repeat (go_quiet (first | (go_at_call 18; (with_reducible refine (selvedgelaw14_plain.calls k _ _ l1 true _ ?side1 ?side2 A12.out).mono ?_); (case side1 => repeat (first | exact (Kd.C_below HR1.out HB.out) | (with_reducible refine Kd.C_alloc ?_ _) | (with_reducible refine Kd.C_drewN ?_ _) | (with_reducible refine Kd.C_drew ?_))); (case side2 => exact HC1.out); rintro e w' ⟨rfl, ⟨nd, rfl⟩⟩; (try first | exact ⟨rfl, _, World.drewN_drewN _ _ _⟩ | exact ⟨rfl, _, Eq.trans (World.drewN_drewN _ _ _) (congrArg (World.drewN _) (Nat.add_assoc _ _ _))⟩)) | (go_at_call 18; (with_reducible refine (selvedgelaw14_plain.calls k _ _ l2 t162 _ ?side1 ?side2 A14.out).mono ?_); (case side1 => repeat (first | exact (Kd.C_below HR2.out (mvB HB)) | (with_reducible refine Kd.C_alloc ?_ _) | (with_reducible refine Kd.C_drewN ?_ _) | (with_reducible refine Kd.C_drew ?_))); (case side2 => exact HC2.out); rintro e w' ⟨rfl, ⟨nd, rfl⟩⟩; (try first | exact ⟨rfl, _, World.drewN_drewN _ _ _⟩ | exact ⟨rfl, _, Eq.trans (World.drewN_drewN _ _ _) (congrArg (World.drewN _) (Nat.add_assoc _ _ _))⟩))); try go_wp2_with (first | (go_at_call 18; (with_reducible refine (selvedgelaw14_plain.calls k _ _ l1 true _ ?side1 ?side2 A12.out).mono ?_); (case side1 => repeat (first | exact (Kd.C_below HR1.out HB.out) | (with_reducible refine Kd.C_alloc ?_ _) | (with_reducible refine Kd.C_drewN ?_ _) | (with_reducible refine Kd.C_drew ?_))); (case side2 => exact HC1.out); rintro e w' ⟨rfl, ⟨nd, rfl⟩⟩; (try first | exact ⟨rfl, _, World.drewN_drewN _ _ _⟩ | exact ⟨rfl, _, Eq.trans (World.drewN_drewN _ _ _) (congrArg (World.drewN _) (Nat.add_assoc _ _ _))⟩)) | (go_at_call 18; (with_reducible refine (selvedgelaw14_plain.calls k _ _ l2 t162 _ ?side1 ?side2 A14.out).mono ?_); (case side1 => repeat (first | exact (Kd.C_below HR2.out (mvB HB)) | (with_reducible refine Kd.C_alloc ?_ _) | (with_reducible refine Kd.C_drewN ?_ _) | (with_reducible refine Kd.C_drew ?_))); (case side2 => exact HC2.out); rintro e w' ⟨rfl, ⟨nd, rfl⟩⟩; (try first | exact ⟨rfl, _, World.drewN_drewN _ _ _⟩ | exact ⟨rfl, _, Eq.trans (World.drewN_drewN _ _ _) (congrArg (World.drewN _) (Nat.add_assoc _ _ _))⟩))))
       go_meet
       case rel => exact ⟨_, (!t162), (by first | rfl | (simp; done) | (simp [*]; done)), H', ⟨by first | omega | exact Nat.le_refl _⟩, ⟨mvB HB⟩⟩
      ·replace c13 := Bool.eq_false_iff.mpr c13
       subst c13
       have H1 : (selvedgelaw14_ExplicitIsolates.j0 k l0 l1 l2 l3 a4 a5 true) = some r := by rw [if_neg (show ¬ (false = true) by decide)] at H; exact H
       clear H
       have H := H1
       clear H1
       have H' := Aside0.mk H
       clear H
       go_wp2_with (first | (go_at_call 18; (with_reducible refine (selvedgelaw14_plain.calls k _ _ l1 false _ ?side1 ?side2 A12.out).mono ?_); (case side1 => repeat (first | exact (Kd.C_below HR1.out HB.out) | (with_reducible refine Kd.C_alloc ?_ _) | (with_reducible refine Kd.C_drewN ?_ _) | (with_reducible refine Kd.C_drew ?_))); (case side2 => exact HC1.out); rintro e w' ⟨rfl, ⟨nd, rfl⟩⟩; (try first | exact ⟨rfl, _, World.drewN_drewN _ _ _⟩ | exact ⟨rfl, _, Eq.trans (World.drewN_drewN _ _ _) (congrArg (World.drewN _) (Nat.add_assoc _ _ _))⟩)))
       repeat (go_quiet (first | (go_at_call 18; (with_reducible refine (selvedgelaw14_plain.calls k _ _ l1 false _ ?side1 ?side2 A12.out).mono ?_); (case side1 => repeat (first | exact (Kd.C_below HR1.out HB.out) | (with_reducible refine Kd.C_alloc ?_ _) | (with_reducible refine Kd.C_drewN ?_ _) | (with_reducible refine Kd.C_drew ?_))); (case side2 => exact HC1.out); rintro e w' ⟨rfl, ⟨nd, rfl⟩⟩; (try first | exact ⟨rfl, _, World.drewN_drewN _ _ _⟩ | exact ⟨rfl, _, Eq.trans (World.drewN_drewN _ _ _) (congrArg (World.drewN _) (Nat.add_assoc _ _ _))⟩))); try go_wp2_with (first | (go_at_call 18; (with_reducible refine (selvedgelaw14_plain.calls k _ _ l1 false _ ?side1 ?side2 A12.out).mono ?_); (case side1 => repeat (first | exact (Kd.C_below HR1.out HB.out) | (with_reducible refine Kd.C_alloc ?_ _) | (with_reducible refine Kd.C_drewN ?_ _) | (with_reducible refine Kd.C_drew ?_))); (case side2 => exact HC1.out); rintro e w' ⟨rfl, ⟨nd, rfl⟩⟩; (try first | exact ⟨rfl, _, World.drewN_drewN _ _ _⟩ | exact ⟨rfl, _, Eq.trans (World.drewN_drewN _ _ _) (congrArg (World.drewN _) (Nat.add_assoc _ _ _))⟩))))
       go_meet
       case rel => exact ⟨_, (true), (by first | rfl | (simp; done) | (simp [*]; done)), H', ⟨by first | omega | exact Nat.le_refl _⟩, ⟨mvB HB⟩⟩
 case rest =>
  as_aux_lemma =>
  clear HC7
  try clear c1
  try clear c2
  try clear p2
  try clear c3
  try clear c5
  try clear c8
  try clear c8b0
  try clear c8b1
  try clear c9
  try clear c9b0
  try clear c9b1
  try clear c10
  try clear c10b0
  try clear c10b1
  try clear c11
  try clear c11b0
  try clear c11b1
  try clear c13
  obtain ⟨kq, x61_6, rfl, HA, HJ6, HB⟩ := hcut
  cases kq with
  | zero => exact absurd HA.out (by simp [selvedgelaw14_ExplicitIsolates.j0])
  | succ kj6 =>
   have H := HA.out
   clear HA
   simp only [selvedgelaw14_ExplicitIsolates.j0] at H
   by_cases c15 : x61_6 = true
   ·subst c15
    have H1 : ((selvedgelaw14_works.f kj6).bind fun t163 => (some t163)) = some r := by rw [if_pos rfl] at H; exact H
    clear H
    have H := H1
    clear H1
    replace H := Option.bind_eq_some_iff.mp H
    obtain ⟨t163, A160, H⟩ := H
    replace H : (some t163) = some r := H
    have A16 := Aside0.mk A160
    clear A160
    obtain rfl := Option.some.inj H
    go_wp2_with (first | (go_at_call 10; (with_reducible refine (selvedgelaw14_works.calls kj6  t163 _ A16.out).mono ?_); rintro e w17 ⟨rfl, hb⟩; have n0_ := Aside0.mk (below_step (mvB HB) hb); clear HB; have HB := n0_; clear n0_; (try clear hb); (try clear hb2); (try clear hk); (try clear hi)))
    repeat (go_quiet (first | (go_at_call 10; (with_reducible refine (selvedgelaw14_works.calls kj6  t163 _ A16.out).mono ?_); rintro e w17 ⟨rfl, hb⟩; have n0_ := Aside0.mk (below_step (mvB HB) hb); clear HB; have HB := n0_; clear n0_; (try clear hb); (try clear hb2); (try clear hk); (try clear hi))); try go_wp2_with (first | (go_at_call 10; (with_reducible refine (selvedgelaw14_works.calls kj6  t163 _ A16.out).mono ?_); rintro e w17 ⟨rfl, hb⟩; have n0_ := Aside0.mk (below_step (mvB HB) hb); clear HB; have HB := n0_; clear n0_; (try clear hb); (try clear hb2); (try clear hk); (try clear hi))))
    go_ret
    exact ⟨by first | rfl | (simp [errW_none, errW_some] <;> rfl) | (simp [*, errW_none, errW_some] <;> rfl), mvB HB⟩
   ·replace c15 := Bool.eq_false_iff.mpr c15
    subst c15
    have H1 : (if a4 = true then (selvedgelaw14_ExplicitIsolates.j1 kj6 l0 l1 l2 l3 a5 21) else (selvedgelaw14_ExplicitIsolates.j1 kj6 l0 l1 l2 l3 a5 20)) = some r := by rw [if_neg (show ¬ (false = true) by decide)] at H; exact H
    clear H
    have H := H1
    clear H1
    have HC18 := Aside0.mk H
    clear H
    go_upto_if 63 with (fail)
    repeat (go_quiet (fail); go_upto_if 63 with (fail))
    go_cut [13] (fun v13 wc => ∃ (kq : Nat) (x13_17 : Int), v13 = .int .u8 x13_17 ∧ Aside0 (selvedgelaw14_ExplicitIsolates.j1 kq l0 l1 l2 l3 a5 x13_17 = some r) ∧ Aside0 (kq ≤ kj6) ∧ Aside0 (Below w.heap.size w wc))
    case first =>
     as_aux_lemma =>
     have H := HC18.out
     clear HC18
     by_cases c19 : a4 = true
     ·subst c19
      have H1 : (selvedgelaw14_ExplicitIsolates.j1 kj6 l0 l1 l2 l3 a5 21) = some r := by rw [if_pos rfl] at H; exact H
      clear H
      have H := H1
      clear H1
      have H' := Aside0.mk H
      clear H
      go_wp2
      repeat (go_quiet (fail); try go_wp2)
      go_meet
      case rel => exact ⟨_, (21), (by first | rfl | (simp; done) | (simp [*]; done)), H', ⟨by have := HJ6.out; first | omega | exact Nat.le_refl _⟩, ⟨mvB HB⟩⟩
     ·replace c19 := Bool.eq_false_iff.mpr c19
      subst c19
      have H1 : (selvedgelaw14_ExplicitIsolates.j1 kj6 l0 l1 l2 l3 a5 20) = some r := by rw [if_neg (show ¬ (false = true) by decide)] at H; exact H
      clear H
      have H := H1
      clear H1
      have H' := Aside0.mk H
      clear H
      go_wp2
      repeat (go_quiet (fail); try go_wp2)
      go_meet
      case rel => exact ⟨_, (20), (by first | rfl | (simp; done) | (simp [*]; done)), H', ⟨by have := HJ6.out; first | omega | exact Nat.le_refl _⟩, ⟨mvB HB⟩⟩
    case rest =>
     as_aux_lemma =>
     clear HC18
     try clear c1
     try clear c2
     try clear p2
     try clear c3
     try clear c5
     try clear c8
     try clear c8b0
     try clear c8b1
     try clear c9
     try clear c9b0
     try clear c9b1
     try clear c10
     try clear c10b0
     try clear c10b1
     try clear c11
     try clear c11b0
     try clear c11b1
     try clear c13
     try clear c15
     try clear c19
     try clear p2
     obtain ⟨kq, x13_17, rfl, HA, HJ17, HB⟩ := hcut
     cases kq with
     | zero => exact absurd HA.out (by simp [selvedgelaw14_ExplicitIsolates.j1])
     | succ kj17 =>
      have H := HA.out
      clear HA
      simp only [selvedgelaw14_ExplicitIsolates.j1] at H
      by_cases c20 : ([] : List Int).length + l0.length < 140737488355328
      ·rw [if_pos c20] at H
       have LMc20 := Aside0.mk c20
       clear c20
       obtain ⟨y164, hy164⟩ : ∃ y_ : List Int, y_ = (([] : List Int) ++ l0) := ⟨_, rfl⟩
       replace H : (if y164.length < 140737488355328 then ((some (y164 ++ [x13_17] : List Int)).bind fun y167 => (if ([] : List Int).length + y167.length < 140737488355328 then ((some (([] : List Int) ++ y167 : List Int)).bind fun y170 => (if y167.length + l1.length < 140737488355328 then ((some (y167 ++ l1 : List Int)).bind fun y173 => (if y170.length + l2.length < 140737488355328 then ((some (y170 ++ l2 : List Int)).bind fun y176 => (if y173.length < 140737488355328 then ((some (y173 ++ [23] : List Int)).bind fun y179 => (if y176.length < 140737488355328 then ((some (y176 ++ [23] : List Int)).bind fun y182 => (if y179.length + l3.length < 140737488355328 then ((some (y179 ++ l3 : List Int)).bind fun y185 => (if y182.length + l3.length < 140737488355328 then ((some (y182 ++ l3 : List Int)).bind fun y188 => ((explicit_Levels.f y185 a5).bind fun bt191 => ((explicit_Levels.f y188 a5).bind fun bt199 => (if bt191.2.2.2 = bt199.2.2.2 then (if bt191.2.2.1 = bt199.2.2.1 then (selvedgelaw14_ExplicitIsolates.j2 kj17 l0 l3 x13_17 y185 y188 bt191.1 bt191.2.1 bt191.2.2.1 bt191.2.2.2 bt199.1 bt199.2.1 bt199.2.2.2 (bt191.2.2.2 != 0)) else (selvedgelaw14_ExplicitIsolates.j2 kj17 l0 l3 x13_17 y185 y188 bt191.1 bt191.2.1 bt191.2.2.1 bt191.2.2.2 bt199.1 bt199.2.1 bt199.2.2.2 true)) else (selvedgelaw14_ExplicitIsolates.j2 kj17 l0 l3 x13_17 y185 y188 bt191.1 bt191.2.1 bt191.2.2.1 bt191.2.2.2 bt199.1 bt199.2.1 bt199.2.2.2 true))))) else (none))) else (none))) else (none))) else (none))) else (none))) else (none))) else (none))) else (none)) = some r := by first | (rw [hy164]; with_reducible exact H) | (have H2_ := (Option.bind_some _ _).symm.trans H; rw [hy164]; with_reducible exact H2_) | (have H2_ := (Option.bind_some _ _).symm.trans H; with_reducible exact H2_) | with_reducible exact H | (rw [hy164]; exact H) | exact H
       have Ny164 := Aside0.mk hy164
       clear hy164
       by_cases c21 : y164.length < 140737488355328
       ·rw [if_pos c21] at H
        have LMc21 := Aside0.mk c21
        clear c21
        obtain ⟨y167, hy167⟩ : ∃ y_ : List Int, y_ = (y164 ++ [x13_17]) := ⟨_, rfl⟩
        replace H : (if ([] : List Int).length + y167.length < 140737488355328 then ((some (([] : List Int) ++ y167 : List Int)).bind fun y170 => (if y167.length + l1.length < 140737488355328 then ((some (y167 ++ l1 : List Int)).bind fun y173 => (if y170.length + l2.length < 140737488355328 then ((some (y170 ++ l2 : List Int)).bind fun y176 => (if y173.length < 140737488355328 then ((some (y173 ++ [23] : List Int)).bind fun y179 => (if y176.length < 140737488355328 then ((some (y176 ++ [23] : List Int)).bind fun y182 => (if y179.length + l3.length < 140737488355328 then ((some (y179 ++ l3 : List Int)).bind fun y185 => (if y182.length + l3.length < 140737488355328 then ((some (y182 ++ l3 : List Int)).bind fun y188 => ((explicit_Levels.f y185 a5).bind fun bt191 => ((explicit_Levels.f y188 a5).bind fun bt199 => (if bt191.2.2.2 = bt199.2.2.2 then (if bt191.2.2.1 = bt199.2.2.1 then (selvedgelaw14_ExplicitIsolates.j2 kj17 l0 l3 x13_17 y185 y188 bt191.1 bt191.2.1 bt191.2.2.1 bt191.2.2.2 bt199.1 bt199.2.1 bt199.2.2.2 (bt191.2.2.2 != 0)) else (selvedgelaw14_ExplicitIsolates.j2 kj17 l0 l3 x13_17 y185 y188 bt191.1 bt191.2.1 bt191.2.2.1 bt191.2.2.2 bt199.1 bt199.2.1 bt199.2.2.2 true)) else (selvedgelaw14_ExplicitIsolates.j2 kj17 l0 l3 x13_17 y185 y188 bt191.1 bt191.2.1 bt191.2.2.1 bt191.2.2.2 bt199.1 bt199.2.1 bt199.2.2.2 true))))) else (none))) else (none))) else (none))) else (none))) else (none))) else (none))) else (none)) = some r := by first | (rw [hy167]; with_reducible exact H) | (have H2_ := (Option.bind_some _ _).symm.trans H; rw [hy167]; with_reducible exact H2_) | (have H2_ := (Option.bind_some _ _).symm.trans H; with_reducible exact H2_) | with_reducible exact H | (rw [hy167]; exact H) | exact H
        have Ny167 := Aside0.mk hy167
        clear hy167
        by_cases c22 : ([] : List Int).length + y167.length < 140737488355328
        ·rw [if_pos c22] at H
         have LMc22 := Aside0.mk c22
         clear c22
         obtain ⟨y170, hy170⟩ : ∃ y_ : List Int, y_ = (([] : List Int) ++ y167) := ⟨_, rfl⟩
         replace H : (if y167.length + l1.length < 140737488355328 then ((some (y167 ++ l1 : List Int)).bind fun y173 => (if y170.length + l2.length < 140737488355328 then ((some (y170 ++ l2 : List Int)).bind fun y176 => (if y173.length < 140737488355328 then ((some (y173 ++ [23] : List Int)).bind fun y179 => (if y176.length < 140737488355328 then ((some (y176 ++ [23] : List Int)).bind fun y182 => (if y179.length + l3.length < 140737488355328 then ((some (y179 ++ l3 : List Int)).bind fun y185 => (if y182.length + l3.length < 140737488355328 then ((some (y182 ++ l3 : List Int)).bind fun y188 => ((explicit_Levels.f y185 a5).bind fun bt191 => ((explicit_Levels.f y188 a5).bind fun bt199 => (if bt191.2.2.2 = bt199.2.2.2 then (if bt191.2.2.1 = bt199.2.2.1 then (selvedgelaw14_ExplicitIsolates.j2 kj17 l0 l3 x13_17 y185 y188 bt191.1 bt191.2.1 bt191.2.2.1 bt191.2.2.2 bt199.1 bt199.2.1 bt199.2.2.2 (bt191.2.2.2 != 0)) else (selvedgelaw14_ExplicitIsolates.j2 kj17 l0 l3 x13_17 y185 y188 bt191.1 bt191.2.1 bt191.2.2.1 bt191.2.2.2 bt199.1 bt199.2.1 bt199.2.2.2 true)) else (selvedgelaw14_ExplicitIsolates.j2 kj17 l0 l3 x13_17 y185 y188 bt191.1 bt191.2.1 bt191.2.2.1 bt191.2.2.2 bt199.1 bt199.2.1 bt199.2.2.2 true))))) else (none))) else (none))) else (none))) else (none))) else (none))) else (none)) = some r := by first | (rw [hy170]; with_reducible exact H) | (have H2_ := (Option.bind_some _ _).symm.trans H; rw [hy170]; with_reducible exact H2_) | (have H2_ := (Option.bind_some _ _).symm.trans H; with_reducible exact H2_) | with_reducible exact H | (rw [hy170]; exact H) | exact H
         have Ny170 := Aside0.mk hy170
         clear hy170
         by_cases c23 : y167.length + l1.length < 140737488355328
         ·rw [if_pos c23] at H
          have LMc23 := Aside0.mk c23
          clear c23
          obtain ⟨y173, hy173⟩ : ∃ y_ : List Int, y_ = (y167 ++ l1) := ⟨_, rfl⟩
          replace H : (if y170.length + l2.length < 140737488355328 then ((some (y170 ++ l2 : List Int)).bind fun y176 => (if y173.length < 140737488355328 then ((some (y173 ++ [23] : List Int)).bind fun y179 => (if y176.length < 140737488355328 then ((some (y176 ++ [23] : List Int)).bind fun y182 => (if y179.length + l3.length < 140737488355328 then ((some (y179 ++ l3 : List Int)).bind fun y185 => (if y182.length + l3.length < 140737488355328 then ((some (y182 ++ l3 : List Int)).bind fun y188 => ((explicit_Levels.f y185 a5).bind fun bt191 => ((explicit_Levels.f y188 a5).bind fun bt199 => (if bt191.2.2.2 = bt199.2.2.2 then (if bt191.2.2.1 = bt199.2.2.1 then (selvedgelaw14_ExplicitIsolates.j2 kj17 l0 l3 x13_17 y185 y188 bt191.1 bt191.2.1 bt191.2.2.1 bt191.2.2.2 bt199.1 bt199.2.1 bt199.2.2.2 (bt191.2.2.2 != 0)) else (selvedgelaw14_ExplicitIsolates.j2 kj17 l0 l3 x13_17 y185 y188 bt191.1 bt191.2.1 bt191.2.2.1 bt191.2.2.2 bt199.1 bt199.2.1 bt199.2.2.2 true)) else (selvedgelaw14_ExplicitIsolates.j2 kj17 l0 l3 x13_17 y185 y188 bt191.1 bt191.2.1 bt191.2.2.1 bt191.2.2.2 bt199.1 bt199.2.1 bt199.2.2.2 true))))) else (none))) else (none))) else (none))) else (none))) else (none)) = some r := by first | (rw [hy173]; with_reducible exact H) | (have H2_ := (Option.bind_some _ _).symm.trans H; rw [hy173]; with_reducible exact H2_) | (have H2_ := (Option.bind_some _ _).symm.trans H; with_reducible exact H2_) | with_reducible exact H | (rw [hy173]; exact H) | exact H
          have Ny173 := Aside0.mk hy173
          clear hy173
          by_cases c24 : y170.length + l2.length < 140737488355328
          ·rw [if_pos c24] at H
           have LMc24 := Aside0.mk c24
           clear c24
           obtain ⟨y176, hy176⟩ : ∃ y_ : List Int, y_ = (y170 ++ l2) := ⟨_, rfl⟩
           replace H : (if y173.length < 140737488355328 then ((some (y173 ++ [23] : List Int)).bind fun y179 => (if y176.length < 140737488355328 then ((some (y176 ++ [23] : List Int)).bind fun y182 => (if y179.length + l3.length < 140737488355328 then ((some (y179 ++ l3 : List Int)).bind fun y185 => (if y182.length + l3.length < 140737488355328 then ((some (y182 ++ l3 : List Int)).bind fun y188 => ((explicit_Levels.f y185 a5).bind fun bt191 => ((explicit_Levels.f y188 a5).bind fun bt199 => (if bt191.2.2.2 = bt199.2.2.2 then (if bt191.2.2.1 = bt199.2.2.1 then (selvedgelaw14_ExplicitIsolates.j2 kj17 l0 l3 x13_17 y185 y188 bt191.1 bt191.2.1 bt191.2.2.1 bt191.2.2.2 bt199.1 bt199.2.1 bt199.2.2.2 (bt191.2.2.2 != 0)) else (selvedgelaw14_ExplicitIsolates.j2 kj17 l0 l3 x13_17 y185 y188 bt191.1 bt191.2.1 bt191.2.2.1 bt191.2.2.2 bt199.1 bt199.2.1 bt199.2.2.2 true)) else (selvedgelaw14_ExplicitIsolates.j2 kj17 l0 l3 x13_17 y185 y188 bt191.1 bt191.2.1 bt191.2.2.1 bt191.2.2.2 bt199.1 bt199.2.1 bt199.2.2.2 true))))) else (none))) else (none))) else (none))) else (none)) = some r := by first | (rw [hy176]; with_reducible exact H) | (have H2_ := (Option.bind_some _ _).symm.trans H; rw [hy176]; with_reducible exact H2_) | (have H2_ := (Option.bind_some _ _).symm.trans H; with_reducible exact H2_) | with_reducible exact H | (rw [hy176]; exact H) | exact H
           have Ny176 := Aside0.mk hy176
           clear hy176
           by_cases c25 : y173.length < 140737488355328
           ·rw [if_pos c25] at H
            have LMc25 := Aside0.mk c25
            clear c25
            obtain ⟨y179, hy179⟩ : ∃ y_ : List Int, y_ = (y173 ++ [23]) := ⟨_, rfl⟩
            replace H : (if y176.length < 140737488355328 then ((some (y176 ++ [23] : List Int)).bind fun y182 => (if y179.length + l3.length < 140737488355328 then ((some (y179 ++ l3 : List Int)).bind fun y185 => (if y182.length + l3.length < 140737488355328 then ((some (y182 ++ l3 : List Int)).bind fun y188 => ((explicit_Levels.f y185 a5).bind fun bt191 => ((explicit_Levels.f y188 a5).bind fun bt199 => (if bt191.2.2.2 = bt199.2.2.2 then (if bt191.2.2.1 = bt199.2.2.1 then (selvedgelaw14_ExplicitIsolates.j2 kj17 l0 l3 x13_17 y185 y188 bt191.1 bt191.2.1 bt191.2.2.1 bt191.2.2.2 bt199.1 bt199.2.1 bt199.2.2.2 (bt191.2.2.2 != 0)) else (selvedgelaw14_ExplicitIsolates.j2 kj17 l0 l3 x13_17 y185 y188 bt191.1 bt191.2.1 bt191.2.2.1 bt191.2.2.2 bt199.1 bt199.2.1 bt199.2.2.2 true)) else (selvedgelaw14_ExplicitIsolates.j2 kj17 l0 l3 x13_17 y185 y188 bt191.1 bt191.2.1 bt191.2.2.1 bt191.2.2.2 bt199.1 bt199.2.1 bt199.2.2.2 true))))) else (none))) else (none))) else (none)) = some r := by first | (rw [hy179]; with_reducible exact H) | (have H2_ := (Option.bind_some _ _).symm.trans H; rw [hy179]; with_reducible exact H2_) | (have H2_ := (Option.bind_some _ _).symm.trans H; with_reducible exact H2_) | with_reducible exact H | (rw [hy179]; exact H) | exact H
            have Ny179 := Aside0.mk hy179
            clear hy179
            by_cases c26 : y176.length < 140737488355328
            ·rw [if_pos c26] at H
             have LMc26 := Aside0.mk c26
             clear c26
             obtain ⟨y182, hy182⟩ : ∃ y_ : List Int, y_ = (y176 ++ [23]) := ⟨_, rfl⟩
             replace H : (if y179.length + l3.length < 140737488355328 then ((some (y179 ++ l3 : List Int)).bind fun y185 => (if y182.length + l3.length < 140737488355328 then ((some (y182 ++ l3 : List Int)).bind fun y188 => ((explicit_Levels.f y185 a5).bind fun bt191 => ((explicit_Levels.f y188 a5).bind fun bt199 => (if bt191.2.2.2 = bt199.2.2.2 then (if bt191.2.2.1 = bt199.2.2.1 then (selvedgelaw14_ExplicitIsolates.j2 kj17 l0 l3 x13_17 y185 y188 bt191.1 bt191.2.1 bt191.2.2.1 bt191.2.2.2 bt199.1 bt199.2.1 bt199.2.2.2 (bt191.2.2.2 != 0)) else (selvedgelaw14_ExplicitIsolates.j2 kj17 l0 l3 x13_17 y185 y188 bt191.1 bt191.2.1 bt191.2.2.1 bt191.2.2.2 bt199.1 bt199.2.1 bt199.2.2.2 true)) else (selvedgelaw14_ExplicitIsolates.j2 kj17 l0 l3 x13_17 y185 y188 bt191.1 bt191.2.1 bt191.2.2.1 bt191.2.2.2 bt199.1 bt199.2.1 bt199.2.2.2 true))))) else (none))) else (none)) = some r := by first | (rw [hy182]; with_reducible exact H) | (have H2_ := (Option.bind_some _ _).symm.trans H; rw [hy182]; with_reducible exact H2_) | (have H2_ := (Option.bind_some _ _).symm.trans H; with_reducible exact H2_) | with_reducible exact H | (rw [hy182]; exact H) | exact H
             have Ny182 := Aside0.mk hy182
             clear hy182
             by_cases c27 : y179.length + l3.length < 140737488355328
             ·rw [if_pos c27] at H
              have LMc27 := Aside0.mk c27
              clear c27
              obtain ⟨y185, hy185⟩ : ∃ y_ : List Int, y_ = (y179 ++ l3) := ⟨_, rfl⟩
              replace H : (if y182.length + l3.length < 140737488355328 then ((some (y182 ++ l3 : List Int)).bind fun y188 => ((explicit_Levels.f y185 a5).bind fun bt191 => ((explicit_Levels.f y188 a5).bind fun bt199 => (if bt191.2.2.2 = bt199.2.2.2 then (if bt191.2.2.1 = bt199.2.2.1 then (selvedgelaw14_ExplicitIsolates.j2 kj17 l0 l3 x13_17 y185 y188 bt191.1 bt191.2.1 bt191.2.2.1 bt191.2.2.2 bt199.1 bt199.2.1 bt199.2.2.2 (bt191.2.2.2 != 0)) else (selvedgelaw14_ExplicitIsolates.j2 kj17 l0 l3 x13_17 y185 y188 bt191.1 bt191.2.1 bt191.2.2.1 bt191.2.2.2 bt199.1 bt199.2.1 bt199.2.2.2 true)) else (selvedgelaw14_ExplicitIsolates.j2 kj17 l0 l3 x13_17 y185 y188 bt191.1 bt191.2.1 bt191.2.2.1 bt191.2.2.2 bt199.1 bt199.2.1 bt199.2.2.2 true))))) else (none)) = some r := by first | (rw [hy185]; with_reducible exact H) | (have H2_ := (Option.bind_some _ _).symm.trans H; rw [hy185]; with_reducible exact H2_) | (have H2_ := (Option.bind_some _ _).symm.trans H; with_reducible exact H2_) | with_reducible exact H | (rw [hy185]; exact H) | exact H
              have Ny185 := Aside0.mk hy185
              clear hy185
              by_cases c28 : y182.length + l3.length < 140737488355328
              ·rw [if_pos c28] at H
               have LMc28 := Aside0.mk c28
               clear c28
               obtain ⟨y188, hy188⟩ : ∃ y_ : List Int, y_ = (y182 ++ l3) := ⟨_, rfl⟩
               replace H : ((explicit_Levels.f y185 a5).bind fun bt191 => ((explicit_Levels.f y188 a5).bind fun bt199 => (if bt191.2.2.2 = bt199.2.2.2 then (if bt191.2.2.1 = bt199.2.2.1 then (selvedgelaw14_ExplicitIsolates.j2 kj17 l0 l3 x13_17 y185 y188 bt191.1 bt191.2.1 bt191.2.2.1 bt191.2.2.2 bt199.1 bt199.2.1 bt199.2.2.2 (bt191.2.2.2 != 0)) else (selvedgelaw14_ExplicitIsolates.j2 kj17 l0 l3 x13_17 y185 y188 bt191.1 bt191.2.1 bt191.2.2.1 bt191.2.2.2 bt199.1 bt199.2.1 bt199.2.2.2 true)) else (selvedgelaw14_ExplicitIsolates.j2 kj17 l0 l3 x13_17 y185 y188 bt191.1 bt191.2.1 bt191.2.2.1 bt191.2.2.2 bt199.1 bt199.2.1 bt199.2.2.2 true)))) = some r := by first | (rw [hy188]; with_reducible exact H) | (have H2_ := (Option.bind_some _ _).symm.trans H; rw [hy188]; with_reducible exact H2_) | (have H2_ := (Option.bind_some _ _).symm.trans H; with_reducible exact H2_) | with_reducible exact H | (rw [hy188]; exact H) | exact H
               have Ny188 := Aside0.mk hy188
               clear hy188
               replace H := Option.bind_eq_some_iff.mp H
               obtain ⟨⟨t191, t192, t193, t194⟩, A290, H⟩ := H
               replace H : ((explicit_Levels.f y188 a5).bind fun bt199 => (if t194 = bt199.2.2.2 then (if t193 = bt199.2.2.1 then (selvedgelaw14_ExplicitIsolates.j2 kj17 l0 l3 x13_17 y185 y188 t191 t192 t193 t194 bt199.1 bt199.2.1 bt199.2.2.2 (t194 != 0)) else (selvedgelaw14_ExplicitIsolates.j2 kj17 l0 l3 x13_17 y185 y188 t191 t192 t193 t194 bt199.1 bt199.2.1 bt199.2.2.2 true)) else (selvedgelaw14_ExplicitIsolates.j2 kj17 l0 l3 x13_17 y185 y188 t191 t192 t193 t194 bt199.1 bt199.2.1 bt199.2.2.2 true))) = some r := H
               have A29 := Aside0.mk A290
               clear A290
               replace H := Option.bind_eq_some_iff.mp H
               obtain ⟨⟨t199, t200, t201, t202⟩, A300, H⟩ := H
               replace H : (if t194 = t202 then (if t193 = t201 then (selvedgelaw14_ExplicitIsolates.j2 kj17 l0 l3 x13_17 y185 y188 t191 t192 t193 t194 t199 t200 t202 (t194 != 0)) else (selvedgelaw14_ExplicitIsolates.j2 kj17 l0 l3 x13_17 y185 y188 t191 t192 t193 t194 t199 t200 t202 true)) else (selvedgelaw14_ExplicitIsolates.j2 kj17 l0 l3 x13_17 y185 y188 t191 t192 t193 t194 t199 t200 t202 true)) = some r := H
               have A30 := Aside0.mk A300
               clear A300
               have HC31 := Aside0.mk H
               clear H
               go_upto_region 18 with (first | ((with_reducible refine gate_builtin (b := .append) (xs := #[.tmp 64, .tmp 65]) rfl ?_); (try (refine gate_guard (by rfl) ?_; dsimp only)); at_builtin; refine Kd.R_append_rows (Kd.int .u8) (w0 := w) w.heap.size rfl (.tmp 64) (.tmp 65) 22 26 (.int .u8 0) 1 rfl Try.underlying22 info26 rfl (by decide) (by omega) (.slice none 0 0) ([] : List Int) l0 _ _ _ (fun _ => True) (fun _ => False) rfl rfl ?aO ?aR (fun _ _ h => h) (fun _ h => h.elim) ?aF ?aB ?aS ?aL ?_; (case aR => repeat (first | exact (Kd.C_below HR0.out HB.out) | (with_reducible refine Kd.C_alloc ?_ _) | (with_reducible refine Kd.C_drewN ?_ _) | (with_reducible refine Kd.C_drew ?_))); (case aB => exact (mvB HB)); (case aF => exact (fun _ _ => trivial)); (case aO => exact ((Kd.R_nil _ _ _ _ (fun _ => True)))); (case aS => exact (below_size (mvB HB))); (case aL => have := LMc20.out; omega); intro v165 w32 ho hb hg hat; rw [← Ny164.out] at ho; have n0_ := Aside0.mk (hb); have n1_ := Aside0.mk (ho); clear HB; have HB := n0_; have HO166 := n1_; clear n0_ n1_; clear ho hb hg hat) | ((with_reducible refine gate_builtin (b := .append) (xs := #[.tmp 67, .tmp 69]) rfl ?_); (try (refine gate_guard (by rfl) ?_; dsimp only)); at_builtin; refine Kd.R_append (Kd.int .u8) (w0 := w) w.heap.size rfl (.tmp 67) (.tmp 69) 22 26 (.int .u8 0) 1 rfl Try.underlying22 info26 rfl (by decide) (by omega) v165 y164 x13_17 [.int .u8 x13_17] (fun _ => True) (fun _ => False) rfl rfl ?aP (fun _ hk => hk.elim) ?aF ?aO ?aB ?aS ?aL ?_; (case aP => exact rfl); (case aB => exact (mvB HB)); (case aF => exact (fun _ _ => trivial)); (case aO => exact (mvR HO166)); (case aS => exact (below_size (mvB HB))); (case aL => have := LMc21.out; omega); intro v168 w33 ho hb hg hat; rw [← Ny167.out] at ho; have n0_ := Aside0.mk (hb); have n1_ := Aside0.mk (ho); clear HB; clear HO166; have HB := n0_; have HO169 := n1_; clear n0_ n1_; clear ho hb hg hat; obtain ⟨Ao35, co35, eo35⟩ := Kd.R_slice HO169.out; subst eo35) | ((with_reducible refine gate_builtin (b := .append) (xs := #[.tmp 71, .tmp 72]) rfl ?_); (try (refine gate_guard (by rfl) ?_; dsimp only)); at_builtin; refine Kd.R_append_rows (Kd.int .u8) (w0 := w) w.heap.size rfl (.tmp 71) (.tmp 72) 22 26 (.int .u8 0) 1 rfl Try.underlying22 info26 rfl (by decide) (by omega) (.slice none 0 0) ([] : List Int) y167 _ _ _ (fun k_ => some k_ ≠ (.slice Ao35 y167.length co35 : Value).ownBlock) (fun _ => False) rfl rfl ?aO ?aR (fun _ _ h => h) (fun _ h => h.elim) ?aF ?aB ?aS ?aL ?_; (case aR => repeat (first | exact (Kd.R_reads' HO169.out).2.2 | (with_reducible refine Kd.C_alloc ?_ _) | (with_reducible refine Kd.C_drewN ?_ _) | (with_reducible refine Kd.C_drew ?_))); (case aB => exact (mvB HB)); (case aF => exact (fun k_ hk => Kd.fresh' (Kd.R_lt (mvR HO169)) k_ hk)); (case aO => exact ((Kd.R_nil _ _ _ _ (fun k_ => some k_ ≠ (.slice Ao35 y167.length co35 : Value).ownBlock)))); (case aS => exact (below_size (mvB HB))); (case aL => have := LMc22.out; omega); intro v171 w34 ho hb hg hat; rw [← Ny170.out] at ho; have n0_ := Aside0.mk (Kd.R_after (Kd.R_apart_nil (mvR HO169)) hg hat); have n1_ := Aside0.mk (hb); have n2_ := Aside0.mk (ho); clear HO169; clear HB; have HO169 := n0_; have HB := n1_; have HO172 := n2_; clear n0_ n1_ n2_; clear ho hb hg hat) | ((with_reducible refine gate_builtin (b := .append) (xs := #[.tmp 74, .tmp 75]) rfl ?_); (try (refine gate_guard (by rfl) ?_; dsimp only)); at_builtin; refine Kd.R_append_rows (Kd.int .u8) (w0 := w) w.heap.size rfl (.tmp 74) (.tmp 75) 22 26 (.int .u8 0) 1 rfl Try.underlying22 info26 rfl (by decide) (by omega) (.slice Ao35 y167.length co35) y167 l1 _ _ _ (fun k_ => some k_ ≠ (v171 : Value).ownBlock) (fun _ => False) rfl rfl ?aO ?aR (fun _ _ h => h) (fun _ h => h.elim) ?aF ?aB ?aS ?aL ?_; (case aR => repeat (first | exact (Kd.C_below HR1.out HB.out) | (with_reducible refine Kd.C_alloc ?_ _) | (with_reducible refine Kd.C_drewN ?_ _) | (with_reducible refine Kd.C_drew ?_))); (case aB => exact (mvB HB)); (case aF => exact (fun k_ hk => Kd.fresh' (Kd.R_lt (mvR HO172)) k_ hk)); (case aO => exact (by (with_reducible repeat (first | apply Kd.R_alloc | apply Kd.R_drewN | apply Kd.R_drew)); exact Kd.R_mono HO169.out (fun _ hk => hk.2))); (case aS => exact (below_size (mvB HB))); (case aL => have := LMc23.out; omega); intro v174 w36 ho hb hg hat; rw [← Ny173.out] at ho; have n0_ := Aside0.mk (Kd.R_after (ok := (fun _ => True)) (by (with_reducible repeat (first | apply Kd.R_alloc | apply Kd.R_drewN | apply Kd.R_drew)); exact Kd.R_mono HO172.out (fun _ hk => ⟨trivial, hk⟩)) hg hat); have n1_ := Aside0.mk (hb); have n2_ := Aside0.mk (ho); clear HO172; clear HB; clear HO169; have HO172 := n0_; have HB := n1_; have HO175 := n2_; clear n0_ n1_ n2_; clear ho hb hg hat) | ((with_reducible refine gate_builtin (b := .append) (xs := #[.tmp 77, .tmp 78]) rfl ?_); (try (refine gate_guard (by rfl) ?_; dsimp only)); at_builtin; refine Kd.R_append_rows (Kd.int .u8) (w0 := w) w.heap.size rfl (.tmp 77) (.tmp 78) 22 26 (.int .u8 0) 1 rfl Try.underlying22 info26 rfl (by decide) (by omega) v171 y170 l2 _ _ _ (fun k_ => some k_ ≠ (v174 : Value).ownBlock) (fun _ => False) rfl rfl ?aO ?aR (fun _ _ h => h) (fun _ h => h.elim) ?aF ?aB ?aS ?aL ?_; (case aR => repeat (first | exact (Kd.C_below HR2.out HB.out) | (with_reducible refine Kd.C_alloc ?_ _) | (with_reducible refine Kd.C_drewN ?_ _) | (with_reducible refine Kd.C_drew ?_))); (case aB => exact (mvB HB)); (case aF => exact (fun k_ hk => Kd.fresh' (Kd.R_lt (mvR HO175)) k_ hk)); (case aO => exact (by (with_reducible repeat (first | apply Kd.R_alloc | apply Kd.R_drewN | apply Kd.R_drew)); exact Kd.R_mono HO172.out (fun _ hk => hk.2))); (case aS => exact (below_size (mvB HB))); (case aL => have := LMc24.out; omega); intro v177 w37 ho hb hg hat; rw [← Ny176.out] at ho; have n0_ := Aside0.mk (Kd.R_after (ok := (fun _ => True)) (by (with_reducible repeat (first | apply Kd.R_alloc | apply Kd.R_drewN | apply Kd.R_drew)); exact Kd.R_mono HO175.out (fun _ hk => ⟨trivial, hk⟩)) hg hat); have n1_ := Aside0.mk (hb); have n2_ := Aside0.mk (ho); clear HO175; clear HB; clear HO172; have HO175 := n0_; have HB := n1_; have HO178 := n2_; clear n0_ n1_ n2_; clear ho hb hg hat) | ((with_reducible refine gate_builtin (b := .append) (xs := #[.tmp 80, .tmp 81]) rfl ?_); (try (refine gate_guard (by rfl) ?_; dsimp only)); at_builtin; refine Kd.R_append (Kd.int .u8) (w0 := w) w.heap.size rfl (.tmp 80) (.tmp 81) 22 26 (.int .u8 0) 1 rfl Try.underlying22 info26 rfl (by decide) (by omega) v174 y173 23 [.int .u8 23] (fun k_ => some k_ ≠ (v177 : Value).ownBlock) (fun _ => False) rfl rfl ?aP (fun _ hk => hk.elim) ?aF ?aO ?aB ?aS ?aL ?_; (case aP => exact rfl); (case aB => exact (mvB HB)); (case aF => exact (fun k_ hk => Kd.fresh' (Kd.R_lt (mvR HO178)) k_ hk)); (case aO => exact (by (with_reducible repeat (first | apply Kd.R_alloc | apply Kd.R_drewN | apply Kd.R_drew)); exact Kd.R_mono HO175.out (fun _ hk => hk.2))); (case aS => exact (below_size (mvB HB))); (case aL => have := LMc25.out; omega); intro v180 w38 ho hb hg hat; rw [← Ny179.out] at ho; have n0_ := Aside0.mk (Kd.R_after (ok := (fun _ => True)) (by (with_reducible repeat (first | apply Kd.R_alloc | apply Kd.R_drewN | apply Kd.R_drew)); exact Kd.R_mono HO178.out (fun _ hk => ⟨trivial, hk⟩)) hg hat); have n1_ := Aside0.mk (hb); have n2_ := Aside0.mk (ho); clear HO178; clear HB; clear HO175; have HO178 := n0_; have HB := n1_; have HO181 := n2_; clear n0_ n1_ n2_; clear ho hb hg hat) | ((with_reducible refine gate_builtin (b := .append) (xs := #[.tmp 83, .tmp 84]) rfl ?_); (try (refine gate_guard (by rfl) ?_; dsimp only)); at_builtin; refine Kd.R_append (Kd.int .u8) (w0 := w) w.heap.size rfl (.tmp 83) (.tmp 84) 22 26 (.int .u8 0) 1 rfl Try.underlying22 info26 rfl (by decide) (by omega) v177 y176 23 [.int .u8 23] (fun k_ => some k_ ≠ (v180 : Value).ownBlock) (fun _ => False) rfl rfl ?aP (fun _ hk => hk.elim) ?aF ?aO ?aB ?aS ?aL ?_; (case aP => exact rfl); (case aB => exact (mvB HB)); (case aF => exact (fun k_ hk => Kd.fresh' (Kd.R_lt (mvR HO181)) k_ hk)); (case aO => exact (by (with_reducible repeat (first | apply Kd.R_alloc | apply Kd.R_drewN | apply Kd.R_drew)); exact Kd.R_mono HO178.out (fun _ hk => hk.2))); (case aS => exact (below_size (mvB HB))); (case aL => have := LMc26.out; omega); intro v183 w39 ho hb hg hat; rw [← Ny182.out] at ho; have n0_ := Aside0.mk (Kd.R_after (ok := (fun _ => True)) (by (with_reducible repeat (first | apply Kd.R_alloc | apply Kd.R_drewN | apply Kd.R_drew)); exact Kd.R_mono HO181.out (fun _ hk => ⟨trivial, hk⟩)) hg hat); have n1_ := Aside0.mk (hb); have n2_ := Aside0.mk (ho); clear HO181; clear HB; clear HO178; have HO181 := n0_; have HB := n1_; have HO184 := n2_; clear n0_ n1_ n2_; clear ho hb hg hat) | ((with_reducible refine gate_builtin (b := .append) (xs := #[.tmp 86, .tmp 87]) rfl ?_); (try (refine gate_guard (by rfl) ?_; dsimp only)); at_builtin; refine Kd.R_append_rows (Kd.int .u8) (w0 := w) w.heap.size rfl (.tmp 86) (.tmp 87) 22 26 (.int .u8 0) 1 rfl Try.underlying22 info26 rfl (by decide) (by omega) v180 y179 l3 _ _ _ (fun k_ => some k_ ≠ (v183 : Value).ownBlock) (fun _ => False) rfl rfl ?aO ?aR (fun _ _ h => h) (fun _ h => h.elim) ?aF ?aB ?aS ?aL ?_; (case aR => repeat (first | exact (Kd.C_below HR3.out HB.out) | (with_reducible refine Kd.C_alloc ?_ _) | (with_reducible refine Kd.C_drewN ?_ _) | (with_reducible refine Kd.C_drew ?_))); (case aB => exact (mvB HB)); (case aF => exact (fun k_ hk => Kd.fresh' (Kd.R_lt (mvR HO184)) k_ hk)); (case aO => exact (by (with_reducible repeat (first | apply Kd.R_alloc | apply Kd.R_drewN | apply Kd.R_drew)); exact Kd.R_mono HO181.out (fun _ hk => hk.2))); (case aS => exact (below_size (mvB HB))); (case aL => have := LMc27.out; omega); intro v186 w40 ho hb hg hat; rw [← Ny185.out] at ho; have n0_ := Aside0.mk (Kd.R_after (ok := (fun _ => True)) (by (with_reducible repeat (first | apply Kd.R_alloc | apply Kd.R_drewN | apply Kd.R_drew)); exact Kd.R_mono HO184.out (fun _ hk => ⟨trivial, hk⟩)) hg hat); have n1_ := Aside0.mk (hb); have n2_ := Aside0.mk (ho); clear HO184; clear HB; clear HO181; have HO184 := n0_; have HB := n1_; have HO187 := n2_; clear n0_ n1_ n2_; clear ho hb hg hat) | ((with_reducible refine gate_builtin (b := .append) (xs := #[.tmp 89, .tmp 90]) rfl ?_); (try (refine gate_guard (by rfl) ?_; dsimp only)); at_builtin; refine Kd.R_append_rows (Kd.int .u8) (w0 := w) w.heap.size rfl (.tmp 89) (.tmp 90) 22 26 (.int .u8 0) 1 rfl Try.underlying22 info26 rfl (by decide) (by omega) v183 y182 l3 _ _ _ (fun k_ => some k_ ≠ (v186 : Value).ownBlock) (fun _ => False) rfl rfl ?aO ?aR (fun _ _ h => h) (fun _ h => h.elim) ?aF ?aB ?aS ?aL ?_; (case aR => repeat (first | exact (Kd.C_below HR3.out HB.out) | (with_reducible refine Kd.C_alloc ?_ _) | (with_reducible refine Kd.C_drewN ?_ _) | (with_reducible refine Kd.C_drew ?_))); (case aB => exact (mvB HB)); (case aF => exact (fun k_ hk => Kd.fresh' (Kd.R_lt (mvR HO187)) k_ hk)); (case aO => exact (by (with_reducible repeat (first | apply Kd.R_alloc | apply Kd.R_drewN | apply Kd.R_drew)); exact Kd.R_mono HO184.out (fun _ hk => hk.2))); (case aS => exact (below_size (mvB HB))); (case aL => have := LMc28.out; omega); intro v189 w41 ho hb hg hat; rw [← Ny188.out] at ho; have n0_ := Aside0.mk (Kd.R_after (ok := (fun _ => True)) (by (with_reducible repeat (first | apply Kd.R_alloc | apply Kd.R_drewN | apply Kd.R_drew)); exact Kd.R_mono HO187.out (fun _ hk => ⟨trivial, hk⟩)) hg hat); have n1_ := Aside0.mk (hb); have n2_ := Aside0.mk (ho); clear HO187; clear HB; clear HO184; have HO187 := n0_; have HB := n1_; have HO190 := n2_; clear n0_ n1_ n2_; clear ho hb hg hat; obtain ⟨Ao42, co42, eo42⟩ := Kd.R_slice HO187.out; subst eo42) | (go_at_call 15; (with_reducible refine (explicit_Levels.calls _ _ y185 a5 t191 t192 t193 t194 _ ?side1 ?side2 A29.out).mono ?_); (case side1 => repeat (first | exact (Kd.R_reads' HO187.out).2.2 | (with_reducible refine Kd.C_alloc ?_ _) | (with_reducible refine Kd.C_drewN ?_ _) | (with_reducible refine Kd.C_drew ?_))); (case side2 => exact (Kd.R_reads' HO187.out).2.1); rintro e w43 ⟨v195, v197, rfl, ho0, ho1, hb⟩; have n0_ := Aside0.mk (Kd.R_elder' (mvR HO187) (Kd.R_base ho1) hb); have n1_ := Aside0.mk (Kd.R_elder' (mvR HO190) (Kd.R_base ho1) hb); have n2_ := Aside0.mk (Kd.R_lower ho0 (below_size (mvB HB))); have n3_ := Aside0.mk (Kd.R_lower (Kd.R_new' (Kd.R_new' ho1 (Kd.R_lt (mvR HO187))) (Kd.R_lt (mvR HO190))) (below_size (mvB HB))); have n4_ := Aside0.mk (below_step (mvB HB) hb); clear HO187; clear HO190; clear HB; have HO187 := n0_; have HO190 := n1_; have HO196 := n2_; have HO198 := n3_; have HB := n4_; clear n0_ n1_ n2_ n3_ n4_; (try clear hb); (try clear hb2); (try clear hk); (try clear hi); (try clear ho0); (try clear ho1); obtain ⟨Ao44, co44, eo44⟩ := Kd.R_slice HO190.out; subst eo44) | (go_at_call 15; (with_reducible refine (explicit_Levels.calls _ _ y188 a5 t199 t200 t201 t202 _ ?side1 ?side2 A30.out).mono ?_); (case side1 => repeat (first | exact (Kd.R_reads' HO190.out).2.2 | (with_reducible refine Kd.C_alloc ?_ _) | (with_reducible refine Kd.C_drewN ?_ _) | (with_reducible refine Kd.C_drew ?_))); (case side2 => exact (Kd.R_reads' HO190.out).2.1); rintro e w45 ⟨v203, v205, rfl, ho0, ho1, hb⟩; have n0_ := Aside0.mk (Kd.R_elder' (mvR HO187) (Kd.R_base ho1) hb); have n1_ := Aside0.mk (Kd.R_elder' (mvR HO190) (Kd.R_base ho1) hb); have n2_ := Aside0.mk (Kd.R_elder' (mvR HO196) (Kd.R_base ho0) hb); have n3_ := Aside0.mk (Kd.R_elder' (mvR HO198) (Kd.R_base ho1) hb); have n4_ := Aside0.mk (Kd.R_lower (Kd.R_new' ho0 (Kd.R_lt (mvR HO196))) (below_size (mvB HB))); have n5_ := Aside0.mk (Kd.R_lower (Kd.R_new' (Kd.R_new' (Kd.R_new' ho1 (Kd.R_lt (mvR HO187))) (Kd.R_lt (mvR HO190))) (Kd.R_lt (mvR HO198))) (below_size (mvB HB))); have n6_ := Aside0.mk (below_step (mvB HB) hb); clear HO187; clear HO190; clear HO196; clear HO198; clear HB; have HO187 := n0_; have HO190 := n1_; have HO196 := n2_; have HO198 := n3_; have HO204 := n4_; have HO206 := n5_; have HB := n6_; clear n0_ n1_ n2_ n3_ n4_ n5_ n6_; (try clear hb); (try clear hb2); (try clear hk); (try clear hi); (try clear ho0); (try clear ho1)))
               repeat (go_quiet (first | ((with_reducible refine gate_builtin (b := .append) (xs := #[.tmp 64, .tmp 65]) rfl ?_); (try (refine gate_guard (by rfl) ?_; dsimp only)); at_builtin; refine Kd.R_append_rows (Kd.int .u8) (w0 := w) w.heap.size rfl (.tmp 64) (.tmp 65) 22 26 (.int .u8 0) 1 rfl Try.underlying22 info26 rfl (by decide) (by omega) (.slice none 0 0) ([] : List Int) l0 _ _ _ (fun _ => True) (fun _ => False) rfl rfl ?aO ?aR (fun _ _ h => h) (fun _ h => h.elim) ?aF ?aB ?aS ?aL ?_; (case aR => repeat (first | exact (Kd.C_below HR0.out HB.out) | (with_reducible refine Kd.C_alloc ?_ _) | (with_reducible refine Kd.C_drewN ?_ _) | (with_reducible refine Kd.C_drew ?_))); (case aB => exact (mvB HB)); (case aF => exact (fun _ _ => trivial)); (case aO => exact ((Kd.R_nil _ _ _ _ (fun _ => True)))); (case aS => exact (below_size (mvB HB))); (case aL => have := LMc20.out; omega); intro v165 w32 ho hb hg hat; rw [← Ny164.out] at ho; have n0_ := Aside0.mk (hb); have n1_ := Aside0.mk (ho); clear HB; have HB := n0_; have HO166 := n1_; clear n0_ n1_; clear ho hb hg hat) | ((with_reducible refine gate_builtin (b := .append) (xs := #[.tmp 67, .tmp 69]) rfl ?_); (try (refine gate_guard (by rfl) ?_; dsimp only)); at_builtin; refine Kd.R_append (Kd.int .u8) (w0 := w) w.heap.size rfl (.tmp 67) (.tmp 69) 22 26 (.int .u8 0) 1 rfl Try.underlying22 info26 rfl (by decide) (by omega) v165 y164 x13_17 [.int .u8 x13_17] (fun _ => True) (fun _ => False) rfl rfl ?aP (fun _ hk => hk.elim) ?aF ?aO ?aB ?aS ?aL ?_; (case aP => exact rfl); (case aB => exact (mvB HB)); (case aF => exact (fun _ _ => trivial)); (case aO => exact (mvR HO166)); (case aS => exact (below_size (mvB HB))); (case aL => have := LMc21.out; omega); intro v168 w33 ho hb hg hat; rw [← Ny167.out] at ho; have n0_ := Aside0.mk (hb); have n1_ := Aside0.mk (ho); clear HB; clear HO166; have HB := n0_; have HO169 := n1_; clear n0_ n1_; clear ho hb hg hat; obtain ⟨Ao35, co35, eo35⟩ := Kd.R_slice HO169.out; subst eo35) | ((with_reducible refine gate_builtin (b := .append) (xs := #[.tmp 71, .tmp 72]) rfl ?_); (try (refine gate_guard (by rfl) ?_; dsimp only)); at_builtin; refine Kd.R_append_rows (Kd.int .u8) (w0 := w) w.heap.size rfl (.tmp 71) (.tmp 72) 22 26 (.int .u8 0) 1 rfl Try.underlying22 info26 rfl (by decide) (by omega) (.slice none 0 0) ([] : List Int) y167 _ _ _ (fun k_ => some k_ ≠ (.slice Ao35 y167.length co35 : Value).ownBlock) (fun _ => False) rfl rfl ?aO ?aR (fun _ _ h => h) (fun _ h => h.elim) ?aF ?aB ?aS ?aL ?_; (case aR => repeat (first | exact (Kd.R_reads' HO169.out).2.2 | (with_reducible refine Kd.C_alloc ?_ _) | (with_reducible refine Kd.C_drewN ?_ _) | (with_reducible refine Kd.C_drew ?_))); (case aB => exact (mvB HB)); (case aF => exact (fun k_ hk => Kd.fresh' (Kd.R_lt (mvR HO169)) k_ hk)); (case aO => exact ((Kd.R_nil _ _ _ _ (fun k_ => some k_ ≠ (.slice Ao35 y167.length co35 : Value).ownBlock)))); (case aS => exact (below_size (mvB HB))); (case aL => have := LMc22.out; omega); intro v171 w34 ho hb hg hat; rw [← Ny170.out] at ho; have n0_ := Aside0.mk (Kd.R_after (Kd.R_apart_nil (mvR HO169)) hg hat); have n1_ := Aside0.mk (hb); have n2_ := Aside0.mk (ho); clear HO169; clear HB; have HO169 := n0_; have HB := n1_; have HO172 := n2_; clear n0_ n1_ n2_; clear ho hb hg hat) | ((with_reducible refine gate_builtin (b := .append) (xs := #[.tmp 74, .tmp 75]) rfl ?_); (try (refine gate_guard (by rfl) ?_; dsimp only)); at_builtin; refine Kd.R_append_rows (Kd.int .u8) (w0 := w) w.heap.size rfl (.tmp 74) (.tmp 75) 22 26 (.int .u8 0) 1 rfl Try.underlying22 info26 rfl (by decide) (by omega) (.slice Ao35 y167.length co35) y167 l1 _ _ _ (fun k_ => some k_ ≠ (v171 : Value).ownBlock) (fun _ => False) rfl rfl ?aO ?aR (fun _ _ h => h) (fun _ h => h.elim) ?aF ?aB ?aS ?aL ?_; (case aR => repeat (first | exact (Kd.C_below HR1.out HB.out) | (with_reducible refine Kd.C_alloc ?_ _) | (with_reducible refine Kd.C_drewN ?_ _) | (with_reducible refine Kd.C_drew ?_))); (case aB => exact (mvB HB)); (case aF => exact (fun k_ hk => Kd.fresh' (Kd.R_lt (mvR HO172)) k_ hk)); (case aO => exact (by (with_reducible repeat (first | apply Kd.R_alloc | apply Kd.R_drewN | apply Kd.R_drew)); exact Kd.R_mono HO169.out (fun _ hk => hk.2))); (case aS => exact (below_size (mvB HB))); (case aL => have := LMc23.out; omega); intro v174 w36 ho hb hg hat; rw [← Ny173.out] at ho; have n0_ := Aside0.mk (Kd.R_after (ok := (fun _ => True)) (by (with_reducible repeat (first | apply Kd.R_alloc | apply Kd.R_drewN | apply Kd.R_drew)); exact Kd.R_mono HO172.out (fun _ hk => ⟨trivial, hk⟩)) hg hat); have n1_ := Aside0.mk (hb); have n2_ := Aside0.mk (ho); clear HO172; clear HB; clear HO169; have HO172 := n0_; have HB := n1_; have HO175 := n2_; clear n0_ n1_ n2_; clear ho hb hg hat) | ((with_reducible refine gate_builtin (b := .append) (xs := #[.tmp 77, .tmp 78]) rfl ?_); (try (refine gate_guard (by rfl) ?_; dsimp only)); at_builtin; refine Kd.R_append_rows (Kd.int .u8) (w0 := w) w.heap.size rfl (.tmp 77) (.tmp 78) 22 26 (.int .u8 0) 1 rfl Try.underlying22 info26 rfl (by decide) (by omega) v171 y170 l2 _ _ _ (fun k_ => some k_ ≠ (v174 : Value).ownBlock) (fun _ => False) rfl rfl ?aO ?aR (fun _ _ h => h) (fun _ h => h.elim) ?aF ?aB ?aS ?aL ?_; (case aR => repeat (first | exact (Kd.C_below HR2.out HB.out) | (with_reducible refine Kd.C_alloc ?_ _) | (with_reducible refine Kd.C_drewN ?_ _) | (with_reducible refine Kd.C_drew ?_))); (case aB => exact (mvB HB)); (case aF => exact (fun k_ hk => Kd.fresh' (Kd.R_lt (mvR HO175)) k_ hk)); (case aO => exact (by (with_reducible repeat (first | apply Kd.R_alloc | apply Kd.R_drewN | apply Kd.R_drew)); exact Kd.R_mono HO172.out (fun _ hk => hk.2))); (case aS => exact (below_size (mvB HB))); (case aL => have := LMc24.out; omega); intro v177 w37 ho hb hg hat; rw [← Ny176.out] at ho; have n0_ := Aside0.mk (Kd.R_after (ok := (fun _ => True)) (by (with_reducible repeat (first | apply Kd.R_alloc | apply Kd.R_drewN | apply Kd.R_drew)); exact Kd.R_mono HO175.out (fun _ hk => ⟨trivial, hk⟩)) hg hat); have n1_ := Aside0.mk (hb); have n2_ := Aside0.mk (ho); clear HO175; clear HB; clear HO172; have HO175 := n0_; have HB := n1_; have HO178 := n2_; clear n0_ n1_ n2_; clear ho hb hg hat) | ((with_reducible refine gate_builtin (b := .append) (xs := #[.tmp 80, .tmp 81]) rfl ?_); (try (refine gate_guard (by rfl) ?_; dsimp only)); at_builtin; refine Kd.R_append (Kd.int .u8) (w0 := w) w.heap.size rfl (.tmp 80) (.tmp 81) 22 26 (.int .u8 0) 1 rfl Try.underlying22 info26 rfl (by decide) (by omega) v174 y173 23 [.int .u8 23] (fun k_ => some k_ ≠ (v177 : Value).ownBlock) (fun _ => False) rfl rfl ?aP (fun _ hk => hk.elim) ?aF ?aO ?aB ?aS ?aL ?_; (case aP => exact rfl); (case aB => exact (mvB HB)); (case aF => exact (fun k_ hk => Kd.fresh' (Kd.R_lt (mvR HO178)) k_ hk)); (case aO => exact (by (with_reducible repeat (first | apply Kd.R_alloc | apply Kd.R_drewN | apply Kd.R_drew)); exact Kd.R_mono HO175.out (fun _ hk => hk.2))); (case aS => exact (below_size (mvB HB))); (case aL => have := LMc25.out; omega); intro v180 w38 ho hb hg hat; rw [← Ny179.out] at ho; have n0_ := Aside0.mk (Kd.R_after (ok := (fun _ => True)) (by (with_reducible repeat (first | apply Kd.R_alloc | apply Kd.R_drewN | apply Kd.R_drew)); exact Kd.R_mono HO178.out (fun _ hk => ⟨trivial, hk⟩)) hg hat); have n1_ := Aside0.mk (hb); have n2_ := Aside0.mk (ho); clear HO178; clear HB; clear HO175; have HO178 := n0_; have HB := n1_; have HO181 := n2_; clear n0_ n1_ n2_; clear ho hb hg hat) | ((with_reducible refine gate_builtin (b := .append) (xs := #[.tmp 83, .tmp 84]) rfl ?_); (try (refine gate_guard (by rfl) ?_; dsimp only)); at_builtin; refine Kd.R_append (Kd.int .u8) (w0 := w) w.heap.size rfl (.tmp 83) (.tmp 84) 22 26 (.int .u8 0) 1 rfl Try.underlying22 info26 rfl (by decide) (by omega) v177 y176 23 [.int .u8 23] (fun k_ => some k_ ≠ (v180 : Value).ownBlock) (fun _ => False) rfl rfl ?aP (fun _ hk => hk.elim) ?aF ?aO ?aB ?aS ?aL ?_; (case aP => exact rfl); (case aB => exact (mvB HB)); (case aF => exact (fun k_ hk => Kd.fresh' (Kd.R_lt (mvR HO181)) k_ hk)); (case aO => exact (by (with_reducible repeat (first | apply Kd.R_alloc | apply Kd.R_drewN | apply Kd.R_drew)); exact Kd.R_mono HO178.out (fun _ hk => hk.2))); (case aS => exact (below_size (mvB HB))); (case aL => have := LMc26.out; omega); intro v183 w39 ho hb hg hat; rw [← Ny182.out] at ho; have n0_ := Aside0.mk (Kd.R_after (ok := (fun _ => True)) (by (with_reducible repeat (first | apply Kd.R_alloc | apply Kd.R_drewN | apply Kd.R_drew)); exact Kd.R_mono HO181.out (fun _ hk => ⟨trivial, hk⟩)) hg hat); have n1_ := Aside0.mk (hb); have n2_ := Aside0.mk (ho); clear HO181; clear HB; clear HO178; have HO181 := n0_; have HB := n1_; have HO184 := n2_; clear n0_ n1_ n2_; clear ho hb hg hat) | ((with_reducible refine gate_builtin (b := .append) (xs := #[.tmp 86, .tmp 87]) rfl ?_); (try (refine gate_guard (by rfl) ?_; dsimp only)); at_builtin; refine Kd.R_append_rows (Kd.int .u8) (w0 := w) w.heap.size rfl (.tmp 86) (.tmp 87) 22 26 (.int .u8 0) 1 rfl Try.underlying22 info26 rfl (by decide) (by omega) v180 y179 l3 _ _ _ (fun k_ => some k_ ≠ (v183 : Value).ownBlock) (fun _ => False) rfl rfl ?aO ?aR (fun _ _ h => h) (fun _ h => h.elim) ?aF ?aB ?aS ?aL ?_; (case aR => repeat (first | exact (Kd.C_below HR3.out HB.out) | (with_reducible refine Kd.C_alloc ?_ _) | (with_reducible refine Kd.C_drewN ?_ _) | (with_reducible refine Kd.C_drew ?_))); (case aB => exact (mvB HB)); (case aF => exact (fun k_ hk => Kd.fresh' (Kd.R_lt (mvR HO184)) k_ hk)); (case aO => exact (by (with_reducible repeat (first | apply Kd.R_alloc | apply Kd.R_drewN | apply Kd.R_drew)); exact Kd.R_mono HO181.out (fun _ hk => hk.2))); (case aS => exact (below_size (mvB HB))); (case aL => have := LMc27.out; omega); intro v186 w40 ho hb hg hat; rw [← Ny185.out] at ho; have n0_ := Aside0.mk (Kd.R_after (ok := (fun _ => True)) (by (with_reducible repeat (first | apply Kd.R_alloc | apply Kd.R_drewN | apply Kd.R_drew)); exact Kd.R_mono HO184.out (fun _ hk => ⟨trivial, hk⟩)) hg hat); have n1_ := Aside0.mk (hb); have n2_ := Aside0.mk (ho); clear HO184; clear HB; clear HO181; have HO184 := n0_; have HB := n1_; have HO187 := n2_; clear n0_ n1_ n2_; clear ho hb hg hat) | ((with_reducible refine gate_builtin (b := .append) (xs := #[.tmp 89, .tmp 90]) rfl ?_); (try (refine gate_guard (by rfl) ?_; dsimp only)); at_builtin; refine Kd.R_append_rows (Kd.int .u8) (w0 := w) w.heap.size rfl (.tmp 89) (.tmp 90) 22 26 (.int .u8 0) 1 rfl Try.underlying22 info26 rfl (by decide) (by omega) v183 y182 l3 _ _ _ (fun k_ => some k_ ≠ (v186 : Value).ownBlock) (fun _ => False) rfl rfl ?aO ?aR (fun _ _ h => h) (fun _ h => h.elim) ?aF ?aB ?aS ?aL ?_; (case aR => repeat (first | exact (Kd.C_below HR3.out HB.out) | (with_reducible refine Kd.C_alloc ?_ _) | (with_reducible refine Kd.C_drewN ?_ _) | (with_reducible refine Kd.C_drew ?_))); (case aB => exact (mvB HB)); (case aF => exact (fun k_ hk => Kd.fresh' (Kd.R_lt (mvR HO187)) k_ hk)); (case aO => exact (by (with_reducible repeat (first | apply Kd.R_alloc | apply Kd.R_drewN | apply Kd.R_drew)); exact Kd.R_mono HO184.out (fun _ hk => hk.2))); (case aS => exact (below_size (mvB HB))); (case aL => have := LMc28.out; omega); intro v189 w41 ho hb hg hat; rw [← Ny188.out] at ho; have n0_ := Aside0.mk (Kd.R_after (ok := (fun _ => True)) (by (with_reducible repeat (first | apply Kd.R_alloc | apply Kd.R_drewN | apply Kd.R_drew)); exact Kd.R_mono HO187.out (fun _ hk => ⟨trivial, hk⟩)) hg hat); have n1_ := Aside0.mk (hb); have n2_ := Aside0.mk (ho); clear HO187; clear HB; clear HO184; have HO187 := n0_; have HB := n1_; have HO190 := n2_; clear n0_ n1_ n2_; clear ho hb hg hat; obtain ⟨Ao42, co42, eo42⟩ := Kd.R_slice HO187.out; subst eo42) | (go_at_call 15; (with_reducible refine (explicit_Levels.calls _ _ y185 a5 t191 t192 t193 t194 _ ?side1 ?side2 A29.out).mono ?_); (case side1 => repeat (first | exact (Kd.R_reads' HO187.out).2.2 | (with_reducible refine Kd.C_alloc ?_ _) | (with_reducible refine Kd.C_drewN ?_ _) | (with_reducible refine Kd.C_drew ?_))); (case side2 => exact (Kd.R_reads' HO187.out).2.1); rintro e w43 ⟨v195, v197, rfl, ho0, ho1, hb⟩; have n0_ := Aside0.mk (Kd.R_elder' (mvR HO187) (Kd.R_base ho1) hb); have n1_ := Aside0.mk (Kd.R_elder' (mvR HO190) (Kd.R_base ho1) hb); have n2_ := Aside0.mk (Kd.R_lower ho0 (below_size (mvB HB))); have n3_ := Aside0.mk (Kd.R_lower (Kd.R_new' (Kd.R_new' ho1 (Kd.R_lt (mvR HO187))) (Kd.R_lt (mvR HO190))) (below_size (mvB HB))); have n4_ := Aside0.mk (below_step (mvB HB) hb); clear HO187; clear HO190; clear HB; have HO187 := n0_; have HO190 := n1_; have HO196 := n2_; have HO198 := n3_; have HB := n4_; clear n0_ n1_ n2_ n3_ n4_; (try clear hb); (try clear hb2); (try clear hk); (try clear hi); (try clear ho0); (try clear ho1); obtain ⟨Ao44, co44, eo44⟩ := Kd.R_slice HO190.out; subst eo44) | (go_at_call 15; (with_reducible refine (explicit_Levels.calls _ _ y188 a5 t199 t200 t201 t202 _ ?side1 ?side2 A30.out).mono ?_); (case side1 => repeat (first | exact (Kd.R_reads' HO190.out).2.2 | (with_reducible refine Kd.C_alloc ?_ _) | (with_reducible refine Kd.C_drewN ?_ _) | (with_reducible refine Kd.C_drew ?_))); (case side2 => exact (Kd.R_reads' HO190.out).2.1); rintro e w45 ⟨v203, v205, rfl, ho0, ho1, hb⟩; have n0_ := Aside0.mk (Kd.R_elder' (mvR HO187) (Kd.R_base ho1) hb); have n1_ := Aside0.mk (Kd.R_elder' (mvR HO190) (Kd.R_base ho1) hb); have n2_ := Aside0.mk (Kd.R_elder' (mvR HO196) (Kd.R_base ho0) hb); have n3_ := Aside0.mk (Kd.R_elder' (mvR HO198) (Kd.R_base ho1) hb); have n4_ := Aside0.mk (Kd.R_lower (Kd.R_new' ho0 (Kd.R_lt (mvR HO196))) (below_size (mvB HB))); have n5_ := Aside0.mk (Kd.R_lower (Kd.R_new' (Kd.R_new' (Kd.R_new' ho1 (Kd.R_lt (mvR HO187))) (Kd.R_lt (mvR HO190))) (Kd.R_lt (mvR HO198))) (below_size (mvB HB))); have n6_ := Aside0.mk (below_step (mvB HB) hb); clear HO187; clear HO190; clear HO196; clear HO198; clear HB; have HO187 := n0_; have HO190 := n1_; have HO196 := n2_; have HO198 := n3_; have HO204 := n4_; have HO206 := n5_; have HB := n6_; clear n0_ n1_ n2_ n3_ n4_ n5_ n6_; (try clear hb); (try clear hb2); (try clear hk); (try clear hi); (try clear ho0); (try clear ho1))); go_upto_region 18 with (first | ((with_reducible refine gate_builtin (b := .append) (xs := #[.tmp 64, .tmp 65]) rfl ?_); (try (refine gate_guard (by rfl) ?_; dsimp only)); at_builtin; refine Kd.R_append_rows (Kd.int .u8) (w0 := w) w.heap.size rfl (.tmp 64) (.tmp 65) 22 26 (.int .u8 0) 1 rfl Try.underlying22 info26 rfl (by decide) (by omega) (.slice none 0 0) ([] : List Int) l0 _ _ _ (fun _ => True) (fun _ => False) rfl rfl ?aO ?aR (fun _ _ h => h) (fun _ h => h.elim) ?aF ?aB ?aS ?aL ?_; (case aR => repeat (first | exact (Kd.C_below HR0.out HB.out) | (with_reducible refine Kd.C_alloc ?_ _) | (with_reducible refine Kd.C_drewN ?_ _) | (with_reducible refine Kd.C_drew ?_))); (case aB => exact (mvB HB)); (case aF => exact (fun _ _ => trivial)); (case aO => exact ((Kd.R_nil _ _ _ _ (fun _ => True)))); (case aS => exact (below_size (mvB HB))); (case aL => have := LMc20.out; omega); intro v165 w32 ho hb hg hat; rw [← Ny164.out] at ho; have n0_ := Aside0.mk (hb); have n1_ := Aside0.mk (ho); clear HB; have HB := n0_; have HO166 := n1_; clear n0_ n1_; clear ho hb hg hat) | ((with_reducible refine gate_builtin (b := .append) (xs := #[.tmp 67, .tmp 69]) rfl ?_); (try (refine gate_guard (by rfl) ?_; dsimp only)); at_builtin; refine Kd.R_append (Kd.int .u8) (w0 := w) w.heap.size rfl (.tmp 67) (.tmp 69) 22 26 (.int .u8 0) 1 rfl Try.underlying22 info26 rfl (by decide) (by omega) v165 y164 x13_17 [.int .u8 x13_17] (fun _ => True) (fun _ => False) rfl rfl ?aP (fun _ hk => hk.elim) ?aF ?aO ?aB ?aS ?aL ?_; (case aP => exact rfl); (case aB => exact (mvB HB)); (case aF => exact (fun _ _ => trivial)); (case aO => exact (mvR HO166)); (case aS => exact (below_size (mvB HB))); (case aL => have := LMc21.out; omega); intro v168 w33 ho hb hg hat; rw [← Ny167.out] at ho; have n0_ := Aside0.mk (hb); have n1_ := Aside0.mk (ho); clear HB; clear HO166; have HB := n0_; have HO169 := n1_; clear n0_ n1_; clear ho hb hg hat; obtain ⟨Ao35, co35, eo35⟩ := Kd.R_slice HO169.out; subst eo35) | ((with_reducible refine gate_builtin (b := .append) (xs := #[.tmp 71, .tmp 72]) rfl ?_); (try (refine gate_guard (by rfl) ?_; dsimp only)); at_builtin; refine Kd.R_append_rows (Kd.int .u8) (w0 := w) w.heap.size rfl (.tmp 71) (.tmp 72) 22 26 (.int .u8 0) 1 rfl Try.underlying22 info26 rfl (by decide) (by omega) (.slice none 0 0) ([] : List Int) y167 _ _ _ (fun k_ => some k_ ≠ (.slice Ao35 y167.length co35 : Value).ownBlock) (fun _ => False) rfl rfl ?aO ?aR (fun _ _ h => h) (fun _ h => h.elim) ?aF ?aB ?aS ?aL ?_; (case aR => repeat (first | exact (Kd.R_reads' HO169.out).2.2 | (with_reducible refine Kd.C_alloc ?_ _) | (with_reducible refine Kd.C_drewN ?_ _) | (with_reducible refine Kd.C_drew ?_))); (case aB => exact (mvB HB)); (case aF => exact (fun k_ hk => Kd.fresh' (Kd.R_lt (mvR HO169)) k_ hk)); (case aO => exact ((Kd.R_nil _ _ _ _ (fun k_ => some k_ ≠ (.slice Ao35 y167.length co35 : Value).ownBlock)))); (case aS => exact (below_size (mvB HB))); (case aL => have := LMc22.out; omega); intro v171 w34 ho hb hg hat; rw [← Ny170.out] at ho; have n0_ := Aside0.mk (Kd.R_after (Kd.R_apart_nil (mvR HO169)) hg hat); have n1_ := Aside0.mk (hb); have n2_ := Aside0.mk (ho); clear HO169; clear HB; have HO169 := n0_; have HB := n1_; have HO172 := n2_; clear n0_ n1_ n2_; clear ho hb hg hat) | ((with_reducible refine gate_builtin (b := .append) (xs := #[.tmp 74, .tmp 75]) rfl ?_); (try (refine gate_guard (by rfl) ?_; dsimp only)); at_builtin; refine Kd.R_append_rows (Kd.int .u8) (w0 := w) w.heap.size rfl (.tmp 74) (.tmp 75) 22 26 (.int .u8 0) 1 rfl Try.underlying22 info26 rfl (by decide) (by omega) (.slice Ao35 y167.length co35) y167 l1 _ _ _ (fun k_ => some k_ ≠ (v171 : Value).ownBlock) (fun _ => False) rfl rfl ?aO ?aR (fun _ _ h => h) (fun _ h => h.elim) ?aF ?aB ?aS ?aL ?_; (case aR => repeat (first | exact (Kd.C_below HR1.out HB.out) | (with_reducible refine Kd.C_alloc ?_ _) | (with_reducible refine Kd.C_drewN ?_ _) | (with_reducible refine Kd.C_drew ?_))); (case aB => exact (mvB HB)); (case aF => exact (fun k_ hk => Kd.fresh' (Kd.R_lt (mvR HO172)) k_ hk)); (case aO => exact (by (with_reducible repeat (first | apply Kd.R_alloc | apply Kd.R_drewN | apply Kd.R_drew)); exact Kd.R_mono HO169.out (fun _ hk => hk.2))); (case aS => exact (below_size (mvB HB))); (case aL => have := LMc23.out; omega); intro v174 w36 ho hb hg hat; rw [← Ny173.out] at ho; have n0_ := Aside0.mk (Kd.R_after (ok := (fun _ => True)) (by (with_reducible repeat (first | apply Kd.R_alloc | apply Kd.R_drewN | apply Kd.R_drew)); exact Kd.R_mono HO172.out (fun _ hk => ⟨trivial, hk⟩)) hg hat); have n1_ := Aside0.mk (hb); have n2_ := Aside0.mk (ho); clear HO172; clear HB; clear HO169; have HO172 := n0_; have HB := n1_; have HO175 := n2_; clear n0_ n1_ n2_; clear ho hb hg hat) | ((with_reducible refine gate_builtin (b := .append) (xs := #[.tmp 77, .tmp 78]) rfl ?_); (try (refine gate_guard (by rfl) ?_; dsimp only)); at_builtin; refine Kd.R_append_rows (Kd.int .u8) (w0 := w) w.heap.size rfl (.tmp 77) (.tmp 78) 22 26 (.int .u8 0) 1 rfl Try.underlying22 info26 rfl (by decide) (by omega) v171 y170 l2 _ _ _ (fun k_ => some k_ ≠ (v174 : Value).ownBlock) (fun _ => False) rfl rfl ?aO ?aR (fun _ _ h => h) (fun _ h => h.elim) ?aF ?aB ?aS ?aL ?_; (case aR => repeat (first | exact (Kd.C_below HR2.out HB.out) | (with_reducible refine Kd.C_alloc ?_ _) | (with_reducible refine Kd.C_drewN ?_ _) | (with_reducible refine Kd.C_drew ?_))); (case aB => exact (mvB HB)); (case aF => exact (fun k_ hk => Kd.fresh' (Kd.R_lt (mvR HO175)) k_ hk)); (case aO => exact (by (with_reducible repeat (first | apply Kd.R_alloc | apply Kd.R_drewN | apply Kd.R_drew)); exact Kd.R_mono HO172.out (fun _ hk => hk.2))); (case aS => exact (below_size (mvB HB))); (case aL => have := LMc24.out; omega); intro v177 w37 ho hb hg hat; rw [← Ny176.out] at ho; have n0_ := Aside0.mk (Kd.R_after (ok := (fun _ => True)) (by (with_reducible repeat (first | apply Kd.R_alloc | apply Kd.R_drewN | apply Kd.R_drew)); exact Kd.R_mono HO175.out (fun _ hk => ⟨trivial, hk⟩)) hg hat); have n1_ := Aside0.mk (hb); have n2_ := Aside0.mk (ho); clear HO175; clear HB; clear HO172; have HO175 := n0_; have HB := n1_; have HO178 := n2_; clear n0_ n1_ n2_; clear ho hb hg hat) | ((with_reducible refine gate_builtin (b := .append) (xs := #[.tmp 80, .tmp 81]) rfl ?_); (try (refine gate_guard (by rfl) ?_; dsimp only)); at_builtin; refine Kd.R_append (Kd.int .u8) (w0 := w) w.heap.size rfl (.tmp 80) (.tmp 81) 22 26 (.int .u8 0) 1 rfl Try.underlying22 info26 rfl (by decide) (by omega) v174 y173 23 [.int .u8 23] (fun k_ => some k_ ≠ (v177 : Value).ownBlock) (fun _ => False) rfl rfl ?aP (fun _ hk => hk.elim) ?aF ?aO ?aB ?aS ?aL ?_; (case aP => exact rfl); (case aB => exact (mvB HB)); (case aF => exact (fun k_ hk => Kd.fresh' (Kd.R_lt (mvR HO178)) k_ hk)); (case aO => exact (by (with_reducible repeat (first | apply Kd.R_alloc | apply Kd.R_drewN | apply Kd.R_drew)); exact Kd.R_mono HO175.out (fun _ hk => hk.2))); (case aS => exact (below_size (mvB HB))); (case aL => have := LMc25.out; omega); intro v180 w38 ho hb hg hat; rw [← Ny179.out] at ho; have n0_ := Aside0.mk (Kd.R_after (ok := (fun _ => True)) (by (with_reducible repeat (first | apply Kd.R_alloc | apply Kd.R_drewN | apply Kd.R_drew)); exact Kd.R_mono HO178.out (fun _ hk => ⟨trivial, hk⟩)) hg hat); have n1_ := Aside0.mk (hb); have n2_ := Aside0.mk (ho); clear HO178; clear HB; clear HO175; have HO178 := n0_; have HB := n1_; have HO181 := n2_; clear n0_ n1_ n2_; clear ho hb hg hat) | ((with_reducible refine gate_builtin (b := .append) (xs := #[.tmp 83, .tmp 84]) rfl ?_); (try (refine gate_guard (by rfl) ?_; dsimp only)); at_builtin; refine Kd.R_append (Kd.int .u8) (w0 := w) w.heap.size rfl (.tmp 83) (.tmp 84) 22 26 (.int .u8 0) 1 rfl Try.underlying22 info26 rfl (by decide) (by omega) v177 y176 23 [.int .u8 23] (fun k_ => some k_ ≠ (v180 : Value).ownBlock) (fun _ => False) rfl rfl ?aP (fun _ hk => hk.elim) ?aF ?aO ?aB ?aS ?aL ?_; (case aP => exact rfl); (case aB => exact (mvB HB)); (case aF => exact (fun k_ hk => Kd.fresh' (Kd.R_lt (mvR HO181)) k_ hk)); (case aO => exact (by (with_reducible repeat (first | apply Kd.R_alloc | apply Kd.R_drewN | apply Kd.R_drew)); exact Kd.R_mono HO178.out (fun _ hk => hk.2))); (case aS => exact (below_size (mvB HB))); (case aL => have := LMc26.out; omega); intro v183 w39 ho hb hg hat; rw [← Ny182.out] at ho; have n0_ := Aside0.mk (Kd.R_after (ok := (fun _ => True)) (by (with_reducible repeat (first | apply Kd.R_alloc | apply Kd.R_drewN | apply Kd.R_drew)); exact Kd.R_mono HO181.out (fun _ hk => ⟨trivial, hk⟩)) hg hat); have n1_ := Aside0.mk (hb); have n2_ := Aside0.mk (ho); clear HO181; clear HB; clear HO178; have HO181 := n0_; have HB := n1_; have HO184 := n2_; clear n0_ n1_ n2_; clear ho hb hg hat) | ((with_reducible refine gate_builtin (b := .append) (xs := #[.tmp 86, .tmp 87]) rfl ?_); (try (refine gate_guard (by rfl) ?_; dsimp only)); at_builtin; refine Kd.R_append_rows (Kd.int .u8) (w0 := w) w.heap.size rfl (.tmp 86) (.tmp 87) 22 26 (.int .u8 0) 1 rfl Try.underlying22 info26 rfl (by decide) (by omega) v180 y179 l3 _ _ _ (fun k_ => some k_ ≠ (v183 : Value).ownBlock) (fun _ => False) rfl rfl ?aO ?aR (fun _ _ h => h) (fun _ h => h.elim) ?aF ?aB ?aS ?aL ?_; (case aR => repeat (first | exact (Kd.C_below HR3.out HB.out) | (with_reducible refine Kd.C_alloc ?_ _) | (with_reducible refine Kd.C_drewN ?_ _) | (with_reducible refine Kd.C_drew ?_))); (case aB => exact (mvB HB)); (case aF => exact (fun k_ hk => Kd.fresh' (Kd.R_lt (mvR HO184)) k_ hk)); (case aO => exact (by (with_reducible repeat (first | apply Kd.R_alloc | apply Kd.R_drewN | apply Kd.R_drew)); exact Kd.R_mono HO181.out (fun _ hk => hk.2))); (case aS => exact (below_size (mvB HB))); (case aL => have := LMc27.out; omega); intro v186 w40 ho hb hg hat; rw [← Ny185.out] at ho; have n0_ := Aside0.mk (Kd.R_after (ok := (fun _ => True)) (by (with_reducible repeat (first | apply Kd.R_alloc | apply Kd.R_drewN | apply Kd.R_drew)); exact Kd.R_mono HO184.out (fun _ hk => ⟨trivial, hk⟩)) hg hat); have n1_ := Aside0.mk (hb); have n2_ := Aside0.mk (ho); clear HO184; clear HB; clear HO181; have HO184 := n0_; have HB := n1_; have HO187 := n2_; clear n0_ n1_ n2_; clear ho hb hg hat) | ((with_reducible refine gate_builtin (b := .append) (xs := #[.tmp 89, .tmp 90]) rfl ?_); (try (refine gate_guard (by rfl) ?_; dsimp only)); at_builtin; refine Kd.R_append_rows (Kd.int .u8) (w0 := w) w.heap.size rfl (.tmp 89) (.tmp 90) 22 26 (.int .u8 0) 1 rfl Try.underlying22 info26 rfl (by decide) (by omega) v183 y182 l3 _ _ _ (fun k_ => some k_ ≠ (v186 : Value).ownBlock) (fun _ => False) rfl rfl ?aO ?aR (fun _ _ h => h) (fun _ h => h.elim) ?aF ?aB ?aS ?aL ?_; (case aR => repeat (first | exact (Kd.C_below HR3.out HB.out) | (with_reducible refine Kd.C_alloc ?_ _) | (with_reducible refine Kd.C_drewN ?_ _) | (with_reducible refine Kd.C_drew ?_))); (case aB => exact (mvB HB)); (case aF => exact (fun k_ hk => Kd.fresh' (Kd.R_lt (mvR HO187)) k_ hk)); (case aO => exact (by (with_reducible repeat (first | apply Kd.R_alloc | apply Kd.R_drewN | apply Kd.R_drew)); exact Kd.R_mono HO184.out (fun _ hk => hk.2))); (case aS => exact (below_size (mvB HB))); (case aL => have := LMc28.out; omega); intro v189 w41 ho hb hg hat; rw [← Ny188.out] at ho; have n0_ := Aside0.mk (Kd.R_after (ok := (fun _ => True)) (by (with_reducible repeat (first | apply Kd.R_alloc | apply Kd.R_drewN | apply Kd.R_drew)); exact Kd.R_mono HO187.out (fun _ hk => ⟨trivial, hk⟩)) hg hat); have n1_ := Aside0.mk (hb); have n2_ := Aside0.mk (ho); clear HO187; clear HB; clear HO184; have HO187 := n0_; have HB := n1_; have HO190 := n2_; clear n0_ n1_ n2_; clear ho hb hg hat; obtain ⟨Ao42, co42, eo42⟩ := Kd.R_slice HO187.out; subst eo42) | (go_at_call 15; (with_reducible refine (explicit_Levels.calls _ _ y185 a5 t191 t192 t193 t194 _ ?side1 ?side2 A29.out).mono ?_); (case side1 => repeat (first | exact (Kd.R_reads' HO187.out).2.2 | (with_reducible refine Kd.C_alloc ?_ _) | (with_reducible refine Kd.C_drewN ?_ _) | (with_reducible refine Kd.C_drew ?_))); (case side2 => exact (Kd.R_reads' HO187.out).2.1); rintro e w43 ⟨v195, v197, rfl, ho0, ho1, hb⟩; have n0_ := Aside0.mk (Kd.R_elder' (mvR HO187) (Kd.R_base ho1) hb); have n1_ := Aside0.mk (Kd.R_elder' (mvR HO190) (Kd.R_base ho1) hb); have n2_ := Aside0.mk (Kd.R_lower ho0 (below_size (mvB HB))); have n3_ := Aside0.mk (Kd.R_lower (Kd.R_new' (Kd.R_new' ho1 (Kd.R_lt (mvR HO187))) (Kd.R_lt (mvR HO190))) (below_size (mvB HB))); have n4_ := Aside0.mk (below_step (mvB HB) hb); clear HO187; clear HO190; clear HB; have HO187 := n0_; have HO190 := n1_; have HO196 := n2_; have HO198 := n3_; have HB := n4_; clear n0_ n1_ n2_ n3_ n4_; (try clear hb); (try clear hb2); (try clear hk); (try clear hi); (try clear ho0); (try clear ho1); obtain ⟨Ao44, co44, eo44⟩ := Kd.R_slice HO190.out; subst eo44) | (go_at_call 15; (with_reducible refine (explicit_Levels.calls _ _ y188 a5 t199 t200 t201 t202 _ ?side1 ?side2 A30.out).mono ?_); (case side1 => repeat (first | exact (Kd.R_reads' HO190.out).2.2 | (with_reducible refine Kd.C_alloc ?_ _) | (with_reducible refine Kd.C_drewN ?_ _) | (with_reducible refine Kd.C_drew ?_))); (case side2 => exact (Kd.R_reads' HO190.out).2.1); rintro e w45 ⟨v203, v205, rfl, ho0, ho1, hb⟩; have n0_ := Aside0.mk (Kd.R_elder' (mvR HO187) (Kd.R_base ho1) hb); have n1_ := Aside0.mk (Kd.R_elder' (mvR HO190) (Kd.R_base ho1) hb); have n2_ := Aside0.mk (Kd.R_elder' (mvR HO196) (Kd.R_base ho0) hb); have n3_ := Aside0.mk (Kd.R_elder' (mvR HO198) (Kd.R_base ho1) hb); have n4_ := Aside0.mk (Kd.R_lower (Kd.R_new' ho0 (Kd.R_lt (mvR HO196))) (below_size (mvB HB))); have n5_ := Aside0.mk (Kd.R_lower (Kd.R_new' (Kd.R_new' (Kd.R_new' ho1 (Kd.R_lt (mvR HO187))) (Kd.R_lt (mvR HO190))) (Kd.R_lt (mvR HO198))) (below_size (mvB HB))); have n6_ := Aside0.mk (below_step (mvB HB) hb); clear HO187; clear HO190; clear HO196; clear HO198; clear HB; have HO187 := n0_; have HO190 := n1_; have HO196 := n2_; have HO198 := n3_; have HO204 := n4_; have HO206 := n5_; have HB := n6_; clear n0_ n1_ n2_ n3_ n4_ n5_ n6_; (try clear hb); (try clear hb2); (try clear hk); (try clear hi); (try clear ho0); (try clear ho1))))
               (try simp only [Act.put, List.setIfInBounds_toArray, List.set_cons_zero, List.set_cons_succ])
               go_cut [119] (fun v119 wc => ∃ (kq : Nat) (x119_30 : Bool), v119 = .bool x119_30 ∧ Aside0 (selvedgelaw14_ExplicitIsolates.j2 kq l0 l3 x13_17 y185 y188 t191 t192 t193 t194 t199 t200 t202 x119_30 = some r) ∧ Aside0 (kq ≤ kj17) ∧ Aside0 (Kd.R (Kd.int .u8) 26 wc w.heap.size (fun k_ => some k_ ≠ ((.slice Ao44 y188.length co44) : Value).ownBlock ∧ some k_ ≠ (v197 : Value).ownBlock ∧ some k_ ≠ (v205 : Value).ownBlock) (.slice Ao42 y185.length co42) y185) ∧ Aside0 (Kd.R (Kd.int .u8) 26 wc w.heap.size (fun k_ => some k_ ≠ ((.slice Ao42 y185.length co42) : Value).ownBlock ∧ some k_ ≠ (v197 : Value).ownBlock ∧ some k_ ≠ (v205 : Value).ownBlock) (.slice Ao44 y188.length co44) y188) ∧ Aside0 (Kd.R (Kd.int .u8) 5 wc w.heap.size (fun k_ => some k_ ≠ (v203 : Value).ownBlock) v195 t191) ∧ Aside0 (Kd.R (Kd.int .u8) 26 wc w.heap.size (fun k_ => some k_ ≠ ((.slice Ao42 y185.length co42) : Value).ownBlock ∧ some k_ ≠ ((.slice Ao44 y188.length co44) : Value).ownBlock ∧ some k_ ≠ (v205 : Value).ownBlock) v197 t192) ∧ Aside0 (Kd.R (Kd.int .u8) 5 wc w.heap.size (fun k_ => some k_ ≠ (v195 : Value).ownBlock) v203 t199) ∧ Aside0 (Kd.R (Kd.int .u8) 26 wc w.heap.size (fun k_ => some k_ ≠ ((.slice Ao42 y185.length co42) : Value).ownBlock ∧ some k_ ≠ ((.slice Ao44 y188.length co44) : Value).ownBlock ∧ some k_ ≠ (v197 : Value).ownBlock) v205 t200) ∧ Aside0 (Below w.heap.size w wc))
               case first =>
                as_aux_lemma =>
                have H := HC31.out
                clear HC31
                by_cases c46 : t194 = t202
                ·rw [if_pos c46] at H
                 have c46b0 : (t194 == t202) = true := beq_iff_eq.mpr c46
                 have c46b1 : (t194 != t202) = false := bne_eq_false_iff_eq.mpr c46
                 clear c46
                 (first | rw [c46b0] | (simp only [i64_w, i32_w]; rw [c46b0]) | skip)
                 by_cases c47 : t193 = t201
                 ·rw [if_pos c47] at H
                  have c47b0 : (t193 == t201) = true := beq_iff_eq.mpr c47
                  have c47b1 : (t193 != t201) = false := bne_eq_false_iff_eq.mpr c47
                  clear c47
                  have H' := Aside0.mk H
                  clear H
                  go_wp2
                  repeat (go_quiet (fail); try go_wp2)
                  go_meet
                  case rel => exact ⟨_, ((t194 != 0)), (by first | rfl | (simp; done) | (simp [*]; done)), H', ⟨by have := HJ6.out; have := HJ17.out; first | omega | exact Nat.le_refl _⟩, ⟨by (with_reducible repeat (first | apply Kd.R_alloc | apply Kd.R_drewN | apply Kd.R_drew)); exact Kd.R_mono HO187.out (fun _ hk => ⟨hk.1.1.2, ⟨hk.1.2, hk.2⟩⟩)⟩, ⟨by (with_reducible repeat (first | apply Kd.R_alloc | apply Kd.R_drewN | apply Kd.R_drew)); exact Kd.R_mono HO190.out (fun _ hk => ⟨hk.1.1, ⟨hk.1.2, hk.2⟩⟩)⟩, ⟨by (with_reducible repeat (first | apply Kd.R_alloc | apply Kd.R_drewN | apply Kd.R_drew)); exact Kd.R_mono HO196.out (fun _ hk => hk.2)⟩, ⟨by (with_reducible repeat (first | apply Kd.R_alloc | apply Kd.R_drewN | apply Kd.R_drew)); exact Kd.R_mono HO198.out (fun _ hk => ⟨hk.1.1.2, ⟨hk.1.2, hk.2⟩⟩)⟩, ⟨by (with_reducible repeat (first | apply Kd.R_alloc | apply Kd.R_drewN | apply Kd.R_drew)); exact Kd.R_mono HO204.out (fun _ hk => hk.2)⟩, ⟨by (with_reducible repeat (first | apply Kd.R_alloc | apply Kd.R_drewN | apply Kd.R_drew)); exact Kd.R_mono HO206.out (fun _ hk => ⟨hk.1.1.2, ⟨hk.1.2, hk.2⟩⟩)⟩, ⟨mvB HB⟩⟩
                 ·rw [if_neg c47] at H
                  have c47b0 : (t193 == t201) = false := beq_eq_false_iff_ne.mpr c47
                  have c47b1 : (t193 != t201) = true := bne_iff_ne.mpr c47
                  have H' := Aside0.mk H
                  clear H
                  go_wp2
                  repeat (go_quiet (fail); try go_wp2)
                  go_meet
                  case rel => exact ⟨_, (true), (by first | rfl | (simp; done) | (simp [*]; done)), H', ⟨by have := HJ6.out; have := HJ17.out; first | omega | exact Nat.le_refl _⟩, ⟨by (with_reducible repeat (first | apply Kd.R_alloc | apply Kd.R_drewN | apply Kd.R_drew)); exact Kd.R_mono HO187.out (fun _ hk => ⟨hk.1.1.2, ⟨hk.1.2, hk.2⟩⟩)⟩, ⟨by (with_reducible repeat (first | apply Kd.R_alloc | apply Kd.R_drewN | apply Kd.R_drew)); exact Kd.R_mono HO190.out (fun _ hk => ⟨hk.1.1, ⟨hk.1.2, hk.2⟩⟩)⟩, ⟨by (with_reducible repeat (first | apply Kd.R_alloc | apply Kd.R_drewN | apply Kd.R_drew)); exact Kd.R_mono HO196.out (fun _ hk => hk.2)⟩, ⟨by (with_reducible repeat (first | apply Kd.R_alloc | apply Kd.R_drewN | apply Kd.R_drew)); exact Kd.R_mono HO198.out (fun _ hk => ⟨hk.1.1.2, ⟨hk.1.2, hk.2⟩⟩)⟩, ⟨by (with_reducible repeat (first | apply Kd.R_alloc | apply Kd.R_drewN | apply Kd.R_drew)); exact Kd.R_mono HO204.out (fun _ hk => hk.2)⟩, ⟨by (with_reducible repeat (first | apply Kd.R_alloc | apply Kd.R_drewN | apply Kd.R_drew)); exact Kd.R_mono HO206.out (fun _ hk => ⟨hk.1.1.2, ⟨hk.1.2, hk.2⟩⟩)⟩, ⟨mvB HB⟩⟩
                ·rw [if_neg c46] at H
                 have c46b0 : (t194 == t202) = false := beq_eq_false_iff_ne.mpr c46
                 have c46b1 : (t194 != t202) = true := bne_iff_ne.mpr c46
                 (first | rw [c46b0] | (simp only [i64_w, i32_w]; rw [c46b0]) | skip)
                 have H' := Aside0.mk H
                 clear H
                 go_wp2
                 repeat (go_quiet (fail); try go_wp2)
                 go_meet
                 case rel => exact ⟨_, (true), (by first | rfl | (simp; done) | (simp [*]; done)), H', ⟨by have := HJ6.out; have := HJ17.out; first | omega | exact Nat.le_refl _⟩, ⟨by (with_reducible repeat (first | apply Kd.R_alloc | apply Kd.R_drewN | apply Kd.R_drew)); exact Kd.R_mono HO187.out (fun _ hk => ⟨hk.1.1.2, ⟨hk.1.2, hk.2⟩⟩)⟩, ⟨by (with_reducible repeat (first | apply Kd.R_alloc | apply Kd.R_drewN | apply Kd.R_drew)); exact Kd.R_mono HO190.out (fun _ hk => ⟨hk.1.1, ⟨hk.1.2, hk.2⟩⟩)⟩, ⟨by (with_reducible repeat (first | apply Kd.R_alloc | apply Kd.R_drewN | apply Kd.R_drew)); exact Kd.R_mono HO196.out (fun _ hk => hk.2)⟩, ⟨by (with_reducible repeat (first | apply Kd.R_alloc | apply Kd.R_drewN | apply Kd.R_drew)); exact Kd.R_mono HO198.out (fun _ hk => ⟨hk.1.1.2, ⟨hk.1.2, hk.2⟩⟩)⟩, ⟨by (with_reducible repeat (first | apply Kd.R_alloc | apply Kd.R_drewN | apply Kd.R_drew)); exact Kd.R_mono HO204.out (fun _ hk => hk.2)⟩, ⟨by (with_reducible repeat (first | apply Kd.R_alloc | apply Kd.R_drewN | apply Kd.R_drew)); exact Kd.R_mono HO206.out (fun _ hk => ⟨hk.1.1.2, ⟨hk.1.2, hk.2⟩⟩)⟩, ⟨mvB HB⟩⟩
               case rest =>
                as_aux_lemma =>
                clear HC31
                try clear c1
                try clear c2
                try clear p2
                try clear c3
                try clear c4
                try clear c5
                try clear c8
                try clear c8b0
                try clear c8b1
                try clear c9
                try clear c9b0
                try clear c9b1
                try clear c10
                try clear c10b0
                try clear c10b1
                try clear c11
                try clear c11b0
                try clear c11b1
                try clear c13
                try clear c15
                try clear c19
                try clear c20
                try clear c21
                try clear c22
                try clear c23
                try clear c24
                try clear c25
                try clear c26
                try clear c27
                try clear c28
                try clear c46
                try clear c46b0
                try clear c46b1
                try clear c47
                try clear c47b0
                try clear c47b1
                try clear p2
                obtain ⟨kq, x119_30, rfl, HA, HJ30, HO_14, HO_15, HO_16, HO_17, HO_20, HO_21, HB⟩ := hcut
                cases kq with
                | zero => exact absurd HA.out (by simp [selvedgelaw14_ExplicitIsolates.j2])
                | succ kj30 =>
                 have H := HA.out
                 clear HA
                 simp only [selvedgelaw14_ExplicitIsolates.j2] at H
                 by_cases c48 : x119_30 = true
                 ·subst c48
                  have H1 : (if t194 = t202 then ((selvedgelaw14_works.f kj30).bind fun t207 => (some t207)) else (some false)) = some r := by rw [if_pos rfl] at H; exact H
                  clear H
                  have H := H1
                  clear H1
                  by_cases c49 : t194 = t202
                  ·rw [if_pos c49] at H
                   have c49b0 : (t194 == t202) = true := beq_iff_eq.mpr c49
                   have c49b1 : (t194 != t202) = false := bne_eq_false_iff_eq.mpr c49
                   clear c49
                   replace H := Option.bind_eq_some_iff.mp H
                   obtain ⟨t207, A500, H⟩ := H
                   replace H : (some t207) = some r := H
                   have A50 := Aside0.mk A500
                   clear A500
                   obtain rfl := Option.some.inj H
                   go_wp2_with (first | (go_at_call 10; (with_reducible refine (selvedgelaw14_works.calls kj30  t207 _ A50.out).mono ?_); rintro e w51 ⟨rfl, hb⟩; have n0_ := Aside0.mk (Kd.R_below (mvR HO_14) hb); have n1_ := Aside0.mk (Kd.R_below (mvR HO_15) hb); have n2_ := Aside0.mk (Kd.R_below (mvR HO_16) hb); have n3_ := Aside0.mk (Kd.R_below (mvR HO_17) hb); have n4_ := Aside0.mk (Kd.R_below (mvR HO_20) hb); have n5_ := Aside0.mk (Kd.R_below (mvR HO_21) hb); have n6_ := Aside0.mk (below_step (mvB HB) hb); clear HO_14; clear HO_15; clear HO_16; clear HO_17; clear HO_20; clear HO_21; clear HB; have HO_14 := n0_; have HO_15 := n1_; have HO_16 := n2_; have HO_17 := n3_; have HO_20 := n4_; have HO_21 := n5_; have HB := n6_; clear n0_ n1_ n2_ n3_ n4_ n5_ n6_; (try clear hb); (try clear hb2); (try clear hk); (try clear hi)))
                   repeat (go_quiet (first | (go_at_call 10; (with_reducible refine (selvedgelaw14_works.calls kj30  t207 _ A50.out).mono ?_); rintro e w51 ⟨rfl, hb⟩; have n0_ := Aside0.mk (Kd.R_below (mvR HO_14) hb); have n1_ := Aside0.mk (Kd.R_below (mvR HO_15) hb); have n2_ := Aside0.mk (Kd.R_below (mvR HO_16) hb); have n3_ := Aside0.mk (Kd.R_below (mvR HO_17) hb); have n4_ := Aside0.mk (Kd.R_below (mvR HO_20) hb); have n5_ := Aside0.mk (Kd.R_below (mvR HO_21) hb); have n6_ := Aside0.mk (below_step (mvB HB) hb); clear HO_14; clear HO_15; clear HO_16; clear HO_17; clear HO_20; clear HO_21; clear HB; have HO_14 := n0_; have HO_15 := n1_; have HO_16 := n2_; have HO_17 := n3_; have HO_20 := n4_; have HO_21 := n5_; have HB := n6_; clear n0_ n1_ n2_ n3_ n4_ n5_ n6_; (try clear hb); (try clear hb2); (try clear hk); (try clear hi))); try go_wp2_with (first | (go_at_call 10; (with_reducible refine (selvedgelaw14_works.calls kj30  t207 _ A50.out).mono ?_); rintro e w51 ⟨rfl, hb⟩; have n0_ := Aside0.mk (Kd.R_below (mvR HO_14) hb); have n1_ := Aside0.mk (Kd.R_below (mvR HO_15) hb); have n2_ := Aside0.mk (Kd.R_below (mvR HO_16) hb); have n3_ := Aside0.mk (Kd.R_below (mvR HO_17) hb); have n4_ := Aside0.mk (Kd.R_below (mvR HO_20) hb); have n5_ := Aside0.mk (Kd.R_below (mvR HO_21) hb); have n6_ := Aside0.mk (below_step (mvB HB) hb); clear HO_14; clear HO_15; clear HO_16; clear HO_17; clear HO_20; clear HO_21; clear HB; have HO_14 := n0_; have HO_15 := n1_; have HO_16 := n2_; have HO_17 := n3_; have HO_20 := n4_; have HO_21 := n5_; have HB := n6_; clear n0_ n1_ n2_ n3_ n4_ n5_ n6_; (try clear hb); (try clear hb2); (try clear hk); (try clear hi))))
                   go_ret
                   exact ⟨by first | rfl | (simp [errW_none, errW_some] <;> rfl) | (simp [*, errW_none, errW_some] <;> rfl), mvB HB⟩
                  ·rw [if_neg c49] at H
                   have c49b0 : (t194 == t202) = false := beq_eq_false_iff_ne.mpr c49
                   have c49b1 : (t194 != t202) = true := bne_iff_ne.mpr c49
                   obtain rfl := Option.some.inj H
                   go_wp2
                   repeat (go_quiet (fail); try go_wp2)
                   go_ret
                   exact ⟨by first | rfl | (simp [errW_none, errW_some] <;> rfl) | (simp [*, errW_none, errW_some] <;> rfl), mvB HB⟩
                 ·replace c48 := Bool.eq_false_iff.mpr c48
                  subst c48
                  have H1 : (if ([] : List Int).length + l0.length < 140737488355328 then ((some (([] : List Int) ++ l0 : List Int)).bind fun y208 => ((some (([x13_17, 14, 23] : List Int) : List Int)).bind fun y211 => (if y208.length + y211.length < 140737488355328 then ((some (y208 ++ y211 : List Int)).bind fun y214 => (if y214.length + l3.length < 140737488355328 then ((some (y214 ++ l3 : List Int)).bind fun y217 => ((explicit_Levels.f y217 t193).bind fun bt220 => (if (bt220.1.length : Int) = (y217.length : Int) then (if 0 ≤ (wrap64 ((l0.length : Int) + 1)) then (if (wrap64 ((l0.length : Int) + 1)) < (bt220.1.length : Int) then (if 0 ≤ (l0.length : Int) then (if (l0.length : Int) < (bt220.1.length : Int) then (selvedgelaw14_ExplicitIsolates.j3 kj30 l0 l3 y185 y188 t191 t192 t199 t200 ((rd bt220.1 (wrap64 ((l0.length : Int) + 1))) == (rd bt220.1 (l0.length : Int)))) else (none)) else (none)) else (none)) else (none)) else (selvedgelaw14_ExplicitIsolates.j3 kj30 l0 l3 y185 y188 t191 t192 t199 t200 true)))) else (none))) else (none)))) else (none)) = some r := by rw [if_neg (show ¬ (false = true) by decide)] at H; exact H
                  clear H
                  have H := H1
                  clear H1
                  by_cases c52 : ([] : List Int).length + l0.length < 140737488355328
                  ·rw [if_pos c52] at H
                   have LMc52 := Aside0.mk c52
                   clear c52
                   obtain ⟨y208, hy208⟩ : ∃ y_ : List Int, y_ = (([] : List Int) ++ l0) := ⟨_, rfl⟩
                   replace H : ((some (([x13_17, 14, 23] : List Int) : List Int)).bind fun y211 => (if y208.length + y211.length < 140737488355328 then ((some (y208 ++ y211 : List Int)).bind fun y214 => (if y214.length + l3.length < 140737488355328 then ((some (y214 ++ l3 : List Int)).bind fun y217 => ((explicit_Levels.f y217 t193).bind fun bt220 => (if (bt220.1.length : Int) = (y217.length : Int) then (if 0 ≤ (wrap64 ((l0.length : Int) + 1)) then (if (wrap64 ((l0.length : Int) + 1)) < (bt220.1.length : Int) then (if 0 ≤ (l0.length : Int) then (if (l0.length : Int) < (bt220.1.length : Int) then (selvedgelaw14_ExplicitIsolates.j3 kj30 l0 l3 y185 y188 t191 t192 t199 t200 ((rd bt220.1 (wrap64 ((l0.length : Int) + 1))) == (rd bt220.1 (l0.length : Int)))) else (none)) else (none)) else (none)) else (none)) else (selvedgelaw14_ExplicitIsolates.j3 kj30 l0 l3 y185 y188 t191 t192 t199 t200 true)))) else (none))) else (none))) = some r := by first | (rw [hy208]; with_reducible exact H) | (have H2_ := (Option.bind_some _ _).symm.trans H; rw [hy208]; with_reducible exact H2_) | (have H2_ := (Option.bind_some _ _).symm.trans H; with_reducible exact H2_) | with_reducible exact H | (rw [hy208]; exact H) | exact H
                   have Ny208 := Aside0.mk hy208
                   clear hy208
                   obtain ⟨y211, hy211⟩ : ∃ y_ : List Int, y_ = (([x13_17, 14, 23] : List Int)) := ⟨_, rfl⟩
                   replace H : (if y208.length + y211.length < 140737488355328 then ((some (y208 ++ y211 : List Int)).bind fun y214 => (if y214.length + l3.length < 140737488355328 then ((some (y214 ++ l3 : List Int)).bind fun y217 => ((explicit_Levels.f y217 t193).bind fun bt220 => (if (bt220.1.length : Int) = (y217.length : Int) then (if 0 ≤ (wrap64 ((l0.length : Int) + 1)) then (if (wrap64 ((l0.length : Int) + 1)) < (bt220.1.length : Int) then (if 0 ≤ (l0.length : Int) then (if (l0.length : Int) < (bt220.1.length : Int) then (selvedgelaw14_ExplicitIsolates.j3 kj30 l0 l3 y185 y188 t191 t192 t199 t200 ((rd bt220.1 (wrap64 ((l0.length : Int) + 1))) == (rd bt220.1 (l0.length : Int)))) else (none)) else (none)) else (none)) else (none)) else (selvedgelaw14_ExplicitIsolates.j3 kj30 l0 l3 y185 y188 t191 t192 t199 t200 true)))) else (none))) else (none)) = some r := by first | (rw [hy211]; with_reducible exact H) | (have H2_ := (Option.bind_some _ _).symm.trans H; rw [hy211]; with_reducible exact H2_) | (have H2_ := (Option.bind_some _ _).symm.trans H; with_reducible exact H2_) | with_reducible exact H | (rw [hy211]; exact H) | exact H
                   have Ny211 := Aside0.mk hy211
                   clear hy211
                   by_cases c53 : y208.length + y211.length < 140737488355328
                   ·rw [if_pos c53] at H
                    have LMc53 := Aside0.mk c53
                    clear c53
                    obtain ⟨y214, hy214⟩ : ∃ y_ : List Int, y_ = (y208 ++ y211) := ⟨_, rfl⟩
                    replace H : (if y214.length + l3.length < 140737488355328 then ((some (y214 ++ l3 : List Int)).bind fun y217 => ((explicit_Levels.f y217 t193).bind fun bt220 => (if (bt220.1.length : Int) = (y217.length : Int) then (if 0 ≤ (wrap64 ((l0.length : Int) + 1)) then (if (wrap64 ((l0.length : Int) + 1)) < (bt220.1.length : Int) then (if 0 ≤ (l0.length : Int) then (if (l0.length : Int) < (bt220.1.length : Int) then (selvedgelaw14_ExplicitIsolates.j3 kj30 l0 l3 y185 y188 t191 t192 t199 t200 ((rd bt220.1 (wrap64 ((l0.length : Int) + 1))) == (rd bt220.1 (l0.length : Int)))) else (none)) else (none)) else (none)) else (none)) else (selvedgelaw14_ExplicitIsolates.j3 kj30 l0 l3 y185 y188 t191 t192 t199 t200 true)))) else (none)) = some r := by first | (rw [hy214]; with_reducible exact H) | (have H2_ := (Option.bind_some _ _).symm.trans H; rw [hy214]; with_reducible exact H2_) | (have H2_ := (Option.bind_some _ _).symm.trans H; with_reducible exact H2_) | with_reducible exact H | (rw [hy214]; exact H) | exact H
                    have Ny214 := Aside0.mk hy214
                    clear hy214
                    by_cases c54 : y214.length + l3.length < 140737488355328
                    ·rw [if_pos c54] at H
                     have LMc54 := Aside0.mk c54
                     clear c54
                     obtain ⟨y217, hy217⟩ : ∃ y_ : List Int, y_ = (y214 ++ l3) := ⟨_, rfl⟩
                     replace H : ((explicit_Levels.f y217 t193).bind fun bt220 => (if (bt220.1.length : Int) = (y217.length : Int) then (if 0 ≤ (wrap64 ((l0.length : Int) + 1)) then (if (wrap64 ((l0.length : Int) + 1)) < (bt220.1.length : Int) then (if 0 ≤ (l0.length : Int) then (if (l0.length : Int) < (bt220.1.length : Int) then (selvedgelaw14_ExplicitIsolates.j3 kj30 l0 l3 y185 y188 t191 t192 t199 t200 ((rd bt220.1 (wrap64 ((l0.length : Int) + 1))) == (rd bt220.1 (l0.length : Int)))) else (none)) else (none)) else (none)) else (none)) else (selvedgelaw14_ExplicitIsolates.j3 kj30 l0 l3 y185 y188 t191 t192 t199 t200 true))) = some r := by first | (rw [hy217]; with_reducible exact H) | (have H2_ := (Option.bind_some _ _).symm.trans H; rw [hy217]; with_reducible exact H2_) | (have H2_ := (Option.bind_some _ _).symm.trans H; with_reducible exact H2_) | with_reducible exact H | (rw [hy217]; exact H) | exact H
                     have Ny217 := Aside0.mk hy217
                     clear hy217
                     replace H := Option.bind_eq_some_iff.mp H
                     obtain ⟨⟨t220, t221, t222, t223⟩, A550, H⟩ := H
                     replace H : (if (t220.length : Int) = (y217.length : Int) then (if 0 ≤ (wrap64 ((l0.length : Int) + 1)) then (if (wrap64 ((l0.length : Int) + 1)) < (t220.length : Int) then (if 0 ≤ (l0.length : Int) then (if (l0.length : Int) < (t220.length : Int) then (selvedgelaw14_ExplicitIsolates.j3 kj30 l0 l3 y185 y188 t191 t192 t199 t200 ((rd t220 (wrap64 ((l0.length : Int) + 1))) == (rd t220 (l0.length : Int)))) else (none)) else (none)) else (none)) else (none)) else (selvedgelaw14_ExplicitIsolates.j3 kj30 l0 l3 y185 y188 t191 t192 t199 t200 true)) = some r := H
                     have A55 := Aside0.mk A550
                     clear A550
                     have HC56 := Aside0.mk H
                     clear H
                     go_upto_region 26 with (first | ((with_reducible refine gate_builtin (b := .append) (xs := #[.tmp 126, .tmp 127]) rfl ?_); (try (refine gate_guard (by rfl) ?_; dsimp only)); at_builtin; refine Kd.R_append_rows (Kd.int .u8) (w0 := w) w.heap.size rfl (.tmp 126) (.tmp 127) 22 26 (.int .u8 0) 1 rfl Try.underlying22 info26 rfl (by decide) (by omega) (.slice none 0 0) ([] : List Int) l0 _ _ _ (fun k_ => some k_ ≠ (.slice Ao42 y185.length co42 : Value).ownBlock ∧ some k_ ≠ (.slice Ao44 y188.length co44 : Value).ownBlock ∧ some k_ ≠ (v197 : Value).ownBlock ∧ some k_ ≠ (v205 : Value).ownBlock) (fun _ => False) rfl rfl ?aO ?aR (fun _ _ h => h) (fun _ h => h.elim) ?aF ?aB ?aS ?aL ?_; (case aR => repeat (first | exact (Kd.C_below HR0.out HB.out) | (with_reducible refine Kd.C_alloc ?_ _) | (with_reducible refine Kd.C_drewN ?_ _) | (with_reducible refine Kd.C_drew ?_))); (case aB => exact (mvB HB)); (case aF => exact (fun k_ hk => ⟨Kd.fresh' (Kd.R_lt (mvR HO_14)) k_ hk, Kd.fresh' (Kd.R_lt (mvR HO_15)) k_ hk, Kd.fresh' (Kd.R_lt (mvR HO_17)) k_ hk, Kd.fresh' (Kd.R_lt (mvR HO_21)) k_ hk⟩)); (case aO => exact ((Kd.R_nil _ _ _ _ (fun k_ => some k_ ≠ (.slice Ao42 y185.length co42 : Value).ownBlock ∧ some k_ ≠ (.slice Ao44 y188.length co44 : Value).ownBlock ∧ some k_ ≠ (v197 : Value).ownBlock ∧ some k_ ≠ (v205 : Value).ownBlock)))); (case aS => exact (below_size (mvB HB))); (case aL => have := LMc52.out; omega); intro v209 w57 ho hb hg hat; rw [← Ny208.out] at ho; have n0_ := Aside0.mk (Kd.R_after (Kd.R_apart_nil (mvR HO_14)) hg hat); have n1_ := Aside0.mk (Kd.R_after (Kd.R_apart_nil (mvR HO_15)) hg hat); have n2_ := Aside0.mk (Kd.R_grown (mvR HO_16) hg (fun _ _ => by simp [Value.ownBlock])); have n3_ := Aside0.mk (Kd.R_after (Kd.R_apart_nil (mvR HO_17)) hg hat); have n4_ := Aside0.mk (Kd.R_grown (mvR HO_20) hg (fun _ _ => by simp [Value.ownBlock])); have n5_ := Aside0.mk (Kd.R_after (Kd.R_apart_nil (mvR HO_21)) hg hat); have n6_ := Aside0.mk (hb); have n7_ := Aside0.mk (ho); clear HO_14; clear HO_15; clear HO_16; clear HO_17; clear HO_20; clear HO_21; clear HB; have HO_14 := n0_; have HO_15 := n1_; have HO_16 := n2_; have HO_17 := n3_; have HO_20 := n4_; have HO_21 := n5_; have HB := n6_; have HO210 := n7_; clear n0_ n1_ n2_ n3_ n4_ n5_ n6_ n7_; clear ho hb hg hat) | ((with_reducible refine gate_dst (N := 131) rfl ?_); (try (refine gate_guard (by rfl) ?_; dsimp only)); refine Kd.R_lit (Kd.int .u8) _ 26 ?hg (N := 131) ?hd (xs := ([x13_17, 14, 23] : List Int)) (inner := [.int .u8 x13_17, .int .u8 14, .int .u8 23]) (ok := fun _ => True) (okp := fun _ => True) ?hr ?hp (fun _ hk => hk) trivial (Below.refl _ _) (Nat.le_refl _) (by simp) ?_; (case hd => rfl); (case hg => rfl); (case hr => first | (go_simp; done) | (go_simp; rfl)); (case hp => exact (Reps.one (show Kd.M (Kd.int .u8) _ _ _ x13_17 [.int .u8 x13_17] from rfl) (Reps.one (show Kd.M (Kd.int .u8) _ _ _ 14 [.int .u8 14] from rfl) (Reps.one (show Kd.M (Kd.int .u8) _ _ _ 23 [.int .u8 23] from rfl) (Reps.none _ _))))); intro v212 w58 ho59 hb hg_ hnew_; clear hg_ hnew_; (first | rw [← Ny211.out] at ho59 | (simp only [Int.reduceToNat] at ho59; rw [← Ny211.out] at ho59)); have n0_ := Aside0.mk (Kd.R_elder' (mvR HO_14) (Kd.R_base ho59) hb); have n1_ := Aside0.mk (Kd.R_elder' (mvR HO_15) (Kd.R_base ho59) hb); have n2_ := Aside0.mk (Kd.R_below (mvR HO_16) hb); have n3_ := Aside0.mk (Kd.R_elder' (mvR HO_17) (Kd.R_base ho59) hb); have n4_ := Aside0.mk (Kd.R_below (mvR HO_20) hb); have n5_ := Aside0.mk (Kd.R_elder' (mvR HO_21) (Kd.R_base ho59) hb); have n6_ := Aside0.mk (Kd.R_elder' (mvR HO210) (Kd.R_base ho59) hb); have n7_ := Aside0.mk (Kd.R_lower (Kd.R_new' (Kd.R_new' (Kd.R_new' (Kd.R_new' (Kd.R_new' ho59 (Kd.R_lt (mvR HO_14))) (Kd.R_lt (mvR HO_15))) (Kd.R_lt (mvR HO_17))) (Kd.R_lt (mvR HO_21))) (Kd.R_lt (mvR HO210))) (below_size (mvB HB))); have n8_ := Aside0.mk (below_step (mvB HB) hb); clear HO_14; clear HO_15; clear HO_16; clear HO_17; clear HO_20; clear HO_21; clear HO210; clear HB; have HO_14 := n0_; have HO_15 := n1_; have HO_16 := n2_; have HO_17 := n3_; have HO_20 := n4_; have HO_21 := n5_; have HO210 := n6_; have HO213 := n7_; have HB := n8_; clear n0_ n1_ n2_ n3_ n4_ n5_ n6_ n7_ n8_; clear hb ho59; obtain ⟨Ao61, co61, eo61⟩ := Kd.R_slice HO213.out; subst eo61) | ((with_reducible refine gate_builtin (b := .append) (xs := #[.tmp 129, .tmp 131]) rfl ?_); (try (refine gate_guard (by rfl) ?_; dsimp only)); at_builtin; refine Kd.R_append_rows (Kd.int .u8) (w0 := w) w.heap.size rfl (.tmp 129) (.tmp 131) 22 26 (.int .u8 0) 1 rfl Try.underlying22 info26 rfl (by decide) (by omega) v209 y208 y211 _ _ _ (fun k_ => some k_ ≠ (.slice Ao42 y185.length co42 : Value).ownBlock ∧ some k_ ≠ (.slice Ao44 y188.length co44 : Value).ownBlock ∧ some k_ ≠ (v197 : Value).ownBlock ∧ some k_ ≠ (v205 : Value).ownBlock ∧ some k_ ≠ (.slice Ao61 y211.length co61 : Value).ownBlock) (fun _ => False) rfl rfl ?aO ?aR (fun _ _ h => h) (fun _ h => h.elim) ?aF ?aB ?aS ?aL ?_; (case aR => repeat (first | exact (Kd.R_reads' HO213.out).2.2 | (with_reducible refine Kd.C_alloc ?_ _) | (with_reducible refine Kd.C_drewN ?_ _) | (with_reducible refine Kd.C_drew ?_))); (case aB => exact (mvB HB)); (case aF => exact (fun k_ hk => ⟨Kd.fresh' (Kd.R_lt (mvR HO_14)) k_ hk, Kd.fresh' (Kd.R_lt (mvR HO_15)) k_ hk, Kd.fresh' (Kd.R_lt (mvR HO_17)) k_ hk, Kd.fresh' (Kd.R_lt (mvR HO_21)) k_ hk, Kd.fresh' (Kd.R_lt (mvR HO213)) k_ hk⟩)); (case aO => exact (by (with_reducible repeat (first | apply Kd.R_alloc | apply Kd.R_drewN | apply Kd.R_drew)); exact Kd.R_mono HO210.out (fun _ hk => ⟨hk.1.1, ⟨hk.1.2.1, ⟨hk.1.2.2.1, ⟨hk.1.2.2.2, hk.2⟩⟩⟩⟩))); (case aS => exact (below_size (mvB HB))); (case aL => have := LMc53.out; omega); intro v215 w60 ho hb hg hat; rw [← Ny214.out] at ho; have n0_ := Aside0.mk (Kd.R_after (ok := (fun k_ => some k_ ≠ (.slice Ao44 y188.length co44 : Value).ownBlock ∧ some k_ ≠ (v197 : Value).ownBlock ∧ some k_ ≠ (v205 : Value).ownBlock ∧ some k_ ≠ (.slice Ao61 y211.length co61 : Value).ownBlock)) (by (with_reducible repeat (first | apply Kd.R_alloc | apply Kd.R_drewN | apply Kd.R_drew)); exact Kd.R_mono HO_14.out (fun _ hk => ⟨⟨hk.1.1.1, ⟨hk.1.1.2.1, ⟨hk.1.1.2.2, hk.2⟩⟩⟩, hk.1.2⟩)) hg hat); have n1_ := Aside0.mk (Kd.R_after (ok := (fun k_ => some k_ ≠ (.slice Ao42 y185.length co42 : Value).ownBlock ∧ some k_ ≠ (v197 : Value).ownBlock ∧ some k_ ≠ (v205 : Value).ownBlock ∧ some k_ ≠ (.slice Ao61 y211.length co61 : Value).ownBlock)) (by (with_reducible repeat (first | apply Kd.R_alloc | apply Kd.R_drewN | apply Kd.R_drew)); exact Kd.R_mono HO_15.out (fun _ hk => ⟨⟨hk.1.1.1, ⟨hk.1.1.2.1, ⟨hk.1.1.2.2, hk.2⟩⟩⟩, hk.1.2⟩)) hg hat); have n2_ := Aside0.mk (Kd.R_over' (mvR HO_16) (Kd.R_typed (mvR HO210)) (by decide) hg); have n3_ := Aside0.mk (Kd.R_after (ok := (fun k_ => some k_ ≠ (.slice Ao42 y185.length co42 : Value).ownBlock ∧ some k_ ≠ (.slice Ao44 y188.length co44 : Value).ownBlock ∧ some k_ ≠ (v205 : Value).ownBlock ∧ some k_ ≠ (.slice Ao61 y211.length co61 : Value).ownBlock)) (by (with_reducible repeat (first | apply Kd.R_alloc | apply Kd.R_drewN | apply Kd.R_drew)); exact Kd.R_mono HO_17.out (fun _ hk => ⟨⟨hk.1.1.1, ⟨hk.1.1.2.1, ⟨hk.1.1.2.2, hk.2⟩⟩⟩, hk.1.2⟩)) hg hat); have n4_ := Aside0.mk (Kd.R_over' (mvR HO_20) (Kd.R_typed (mvR HO210)) (by decide) hg); have n5_ := Aside0.mk (Kd.R_after (ok := (fun k_ => some k_ ≠ (.slice Ao42 y185.length co42 : Value).ownBlock ∧ some k_ ≠ (.slice Ao44 y188.length co44 : Value).ownBlock ∧ some k_ ≠ (v197 : Value).ownBlock ∧ some k_ ≠ (.slice Ao61 y211.length co61 : Value).ownBlock)) (by (with_reducible repeat (first | apply Kd.R_alloc | apply Kd.R_drewN | apply Kd.R_drew)); exact Kd.R_mono HO_21.out (fun _ hk => ⟨⟨hk.1.1.1, ⟨hk.1.1.2.1, ⟨hk.1.1.2.2, hk.2⟩⟩⟩, hk.1.2⟩)) hg hat); have n6_ := Aside0.mk (Kd.R_after (ok := (fun k_ => some k_ ≠ (.slice Ao42 y185.length co42 : Value).ownBlock ∧ some k_ ≠ (.slice Ao44 y188.length co44 : Value).ownBlock ∧ some k_ ≠ (v197 : Value).ownBlock ∧ some k_ ≠ (v205 : Value).ownBlock)) (by (with_reducible repeat (first | apply Kd.R_alloc | apply Kd.R_drewN | apply Kd.R_drew)); exact Kd.R_mono HO213.out (fun _ hk => ⟨⟨hk.1.1.1.1.2, ⟨hk.1.1.1.2, ⟨hk.1.1.2, hk.1.2⟩⟩⟩, hk.2⟩)) hg hat); have n7_ := Aside0.mk (hb); have n8_ := Aside0.mk (ho); clear HO_14; clear HO_15; clear HO_16; clear HO_17; clear HO_20; clear HO_21; clear HO213; clear HB; clear HO210; have HO_14 := n0_; have HO_15 := n1_; have HO_16 := n2_; have HO_17 := n3_; have HO_20 := n4_; have HO_21 := n5_; have HO213 := n6_; have HB := n7_; have HO216 := n8_; clear n0_ n1_ n2_ n3_ n4_ n5_ n6_ n7_ n8_; clear ho hb hg hat) | ((with_reducible refine gate_builtin (b := .append) (xs := #[.tmp 133, .tmp 134]) rfl ?_); (try (refine gate_guard (by rfl) ?_; dsimp only)); at_builtin; refine Kd.R_append_rows (Kd.int .u8) (w0 := w) w.heap.size rfl (.tmp 133) (.tmp 134) 22 26 (.int .u8 0) 1 rfl Try.underlying22 info26 rfl (by decide) (by omega) v215 y214 l3 _ _ _ (fun k_ => some k_ ≠ (.slice Ao42 y185.length co42 : Value).ownBlock ∧ some k_ ≠ (.slice Ao44 y188.length co44 : Value).ownBlock ∧ some k_ ≠ (v197 : Value).ownBlock ∧ some k_ ≠ (v205 : Value).ownBlock ∧ some k_ ≠ (.slice Ao61 y211.length co61 : Value).ownBlock) (fun _ => False) rfl rfl ?aO ?aR (fun _ _ h => h) (fun _ h => h.elim) ?aF ?aB ?aS ?aL ?_; (case aR => repeat (first | exact (Kd.C_below HR3.out HB.out) | (with_reducible refine Kd.C_alloc ?_ _) | (with_reducible refine Kd.C_drewN ?_ _) | (with_reducible refine Kd.C_drew ?_))); (case aB => exact (mvB HB)); (case aF => exact (fun k_ hk => ⟨Kd.fresh' (Kd.R_lt (mvR HO_14)) k_ hk, Kd.fresh' (Kd.R_lt (mvR HO_15)) k_ hk, Kd.fresh' (Kd.R_lt (mvR HO_17)) k_ hk, Kd.fresh' (Kd.R_lt (mvR HO_21)) k_ hk, Kd.fresh' (Kd.R_lt (mvR HO213)) k_ hk⟩)); (case aO => exact (mvR HO216)); (case aS => exact (below_size (mvB HB))); (case aL => have := LMc54.out; omega); intro v218 w62 ho hb hg hat; rw [← Ny217.out] at ho; have n0_ := Aside0.mk (Kd.R_after (ok := (fun k_ => some k_ ≠ (.slice Ao44 y188.length co44 : Value).ownBlock ∧ some k_ ≠ (v197 : Value).ownBlock ∧ some k_ ≠ (v205 : Value).ownBlock ∧ some k_ ≠ (.slice Ao61 y211.length co61 : Value).ownBlock)) (mvR HO_14) hg hat); have n1_ := Aside0.mk (Kd.R_after (ok := (fun k_ => some k_ ≠ (.slice Ao42 y185.length co42 : Value).ownBlock ∧ some k_ ≠ (v197 : Value).ownBlock ∧ some k_ ≠ (v205 : Value).ownBlock ∧ some k_ ≠ (.slice Ao61 y211.length co61 : Value).ownBlock)) (mvR HO_15) hg hat); have n2_ := Aside0.mk (Kd.R_over' (mvR HO_16) (Kd.R_typed (mvR HO216)) (by decide) hg); have n3_ := Aside0.mk (Kd.R_after (ok := (fun k_ => some k_ ≠ (.slice Ao42 y185.length co42 : Value).ownBlock ∧ some k_ ≠ (.slice Ao44 y188.length co44 : Value).ownBlock ∧ some k_ ≠ (v205 : Value).ownBlock ∧ some k_ ≠ (.slice Ao61 y211.length co61 : Value).ownBlock)) (mvR HO_17) hg hat); have n4_ := Aside0.mk (Kd.R_over' (mvR HO_20) (Kd.R_typed (mvR HO216)) (by decide) hg); have n5_ := Aside0.mk (Kd.R_after (ok := (fun k_ => some k_ ≠ (.slice Ao42 y185.length co42 : Value).ownBlock ∧ some k_ ≠ (.slice Ao44 y188.length co44 : Value).ownBlock ∧ some k_ ≠ (v197 : Value).ownBlock ∧ some k_ ≠ (.slice Ao61 y211.length co61 : Value).ownBlock)) (mvR HO_21) hg hat); have n6_ := Aside0.mk (Kd.R_after (ok := (fun k_ => some k_ ≠ (.slice Ao42 y185.length co42 : Value).ownBlock ∧ some k_ ≠ (.slice Ao44 y188.length co44 : Value).ownBlock ∧ some k_ ≠ (v197 : Value).ownBlock ∧ some k_ ≠ (v205 : Value).ownBlock)) (mvR HO213) hg hat); have n7_ := Aside0.mk (hb); have n8_ := Aside0.mk (ho); clear HO_14; clear HO_15; clear HO_16; clear HO_17; clear HO_20; clear HO_21; clear HO213; clear HB; clear HO216; have HO_14 := n0_; have HO_15 := n1_; have HO_16 := n2_; have HO_17 := n3_; have HO_20 := n4_; have HO_21 := n5_; have HO213 := n6_; have HB := n7_; have HO219 := n8_; clear n0_ n1_ n2_ n3_ n4_ n5_ n6_ n7_ n8_; clear ho hb hg hat; obtain ⟨Ao63, co63, eo63⟩ := Kd.R_slice HO219.out; subst eo63) | (go_at_call 15; (with_reducible refine (explicit_Levels.calls _ _ y217 t193 t220 t221 t222 t223 _ ?side1 ?side2 A55.out).mono ?_); (case side1 => repeat (first | exact (Kd.R_reads' HO219.out).2.2 | (with_reducible refine Kd.C_alloc ?_ _) | (with_reducible refine Kd.C_drewN ?_ _) | (with_reducible refine Kd.C_drew ?_))); (case side2 => exact (Kd.R_reads' HO219.out).2.1); rintro e w64 ⟨v224, v226, rfl, ho0, ho1, hb⟩; have n0_ := Aside0.mk (Kd.R_elder' (mvR HO_14) (Kd.R_base ho1) hb); have n1_ := Aside0.mk (Kd.R_elder' (mvR HO_15) (Kd.R_base ho1) hb); have n2_ := Aside0.mk (Kd.R_elder' (mvR HO_16) (Kd.R_base ho0) hb); have n3_ := Aside0.mk (Kd.R_elder' (mvR HO_17) (Kd.R_base ho1) hb); have n4_ := Aside0.mk (Kd.R_elder' (mvR HO_20) (Kd.R_base ho0) hb); have n5_ := Aside0.mk (Kd.R_elder' (mvR HO_21) (Kd.R_base ho1) hb); have n6_ := Aside0.mk (Kd.R_elder' (mvR HO213) (Kd.R_base ho1) hb); have n7_ := Aside0.mk (Kd.R_elder' (mvR HO219) (Kd.R_base ho1) hb); have n8_ := Aside0.mk (Kd.R_lower (Kd.R_new' (Kd.R_new' ho0 (Kd.R_lt (mvR HO_16))) (Kd.R_lt (mvR HO_20))) (below_size (mvB HB))); have n9_ := Aside0.mk (Kd.R_lower (Kd.R_new' (Kd.R_new' (Kd.R_new' (Kd.R_new' (Kd.R_new' (Kd.R_new' ho1 (Kd.R_lt (mvR HO_14))) (Kd.R_lt (mvR HO_15))) (Kd.R_lt (mvR HO_17))) (Kd.R_lt (mvR HO_21))) (Kd.R_lt (mvR HO213))) (Kd.R_lt (mvR HO219))) (below_size (mvB HB))); have n10_ := Aside0.mk (below_step (mvB HB) hb); clear HO_14; clear HO_15; clear HO_16; clear HO_17; clear HO_20; clear HO_21; clear HO213; clear HO219; clear HB; have HO_14 := n0_; have HO_15 := n1_; have HO_16 := n2_; have HO_17 := n3_; have HO_20 := n4_; have HO_21 := n5_; have HO213 := n6_; have HO219 := n7_; have HO225 := n8_; have HO227 := n9_; have HB := n10_; clear n0_ n1_ n2_ n3_ n4_ n5_ n6_ n7_ n8_ n9_ n10_; (try clear hb); (try clear hb2); (try clear hk); (try clear hi); (try clear ho0); (try clear ho1)))
                     repeat (go_quiet (first | ((with_reducible refine gate_builtin (b := .append) (xs := #[.tmp 126, .tmp 127]) rfl ?_); (try (refine gate_guard (by rfl) ?_; dsimp only)); at_builtin; refine Kd.R_append_rows (Kd.int .u8) (w0 := w) w.heap.size rfl (.tmp 126) (.tmp 127) 22 26 (.int .u8 0) 1 rfl Try.underlying22 info26 rfl (by decide) (by omega) (.slice none 0 0) ([] : List Int) l0 _ _ _ (fun k_ => some k_ ≠ (.slice Ao42 y185.length co42 : Value).ownBlock ∧ some k_ ≠ (.slice Ao44 y188.length co44 : Value).ownBlock ∧ some k_ ≠ (v197 : Value).ownBlock ∧ some k_ ≠ (v205 : Value).ownBlock) (fun _ => False) rfl rfl ?aO ?aR (fun _ _ h => h) (fun _ h => h.elim) ?aF ?aB ?aS ?aL ?_; (case aR => repeat (first | exact (Kd.C_below HR0.out HB.out) | (with_reducible refine Kd.C_alloc ?_ _) | (with_reducible refine Kd.C_drewN ?_ _) | (with_reducible refine Kd.C_drew ?_))); (case aB => exact (mvB HB)); (case aF => exact (fun k_ hk => ⟨Kd.fresh' (Kd.R_lt (mvR HO_14)) k_ hk, Kd.fresh' (Kd.R_lt (mvR HO_15)) k_ hk, Kd.fresh' (Kd.R_lt (mvR HO_17)) k_ hk, Kd.fresh' (Kd.R_lt (mvR HO_21)) k_ hk⟩)); (case aO => exact ((Kd.R_nil _ _ _ _ (fun k_ => some k_ ≠ (.slice Ao42 y185.length co42 : Value).ownBlock ∧ some k_ ≠ (.slice Ao44 y188.length co44 : Value).ownBlock ∧ some k_ ≠ (v197 : Value).ownBlock ∧ some k_ ≠ (v205 : Value).ownBlock)))); (case aS => exact (below_size (mvB HB))); (case aL => have := LMc52.out; omega); intro v209 w57 ho hb hg hat; rw [← Ny208.out] at ho; have n0_ := Aside0.mk (Kd.R_after (Kd.R_apart_nil (mvR HO_14)) hg hat); have n1_ := Aside0.mk (Kd.R_after (Kd.R_apart_nil (mvR HO_15)) hg hat); have n2_ := Aside0.mk (Kd.R_grown (mvR HO_16) hg (fun _ _ => by simp [Value.ownBlock])); have n3_ := Aside0.mk (Kd.R_after (Kd.R_apart_nil (mvR HO_17)) hg hat); have n4_ := Aside0.mk (Kd.R_grown (mvR HO_20) hg (fun _ _ => by simp [Value.ownBlock])); have n5_ := Aside0.mk (Kd.R_after (Kd.R_apart_nil (mvR HO_21)) hg hat); have n6_ := Aside0.mk (hb); have n7_ := Aside0.mk (ho); clear HO_14; clear HO_15; clear HO_16; clear HO_17; clear HO_20; clear HO_21; clear HB; have HO_14 := n0_; have HO_15 := n1_; have HO_16 := n2_; have HO_17 := n3_; have HO_20 := n4_; have HO_21 := n5_; have HB := n6_; have HO210 := n7_; clear n0_ n1_ n2_ n3_ n4_ n5_ n6_ n7_; clear ho hb hg hat) | ((with_reducible refine gate_dst (N := 131) rfl ?_); (try (refine gate_guard (by rfl) ?_; dsimp only)); refine Kd.R_lit (Kd.int .u8) _ 26 ?hg (N := 131) ?hd (xs := ([x13_17, 14, 23] : List Int)) (inner := [.int .u8 x13_17, .int .u8 14, .int .u8 23]) (ok := fun _ => True) (okp := fun _ => True) ?hr ?hp (fun _ hk => hk) trivial (Below.refl _ _) (Nat.le_refl _) (by simp) ?_; (case hd => rfl); (case hg => rfl); (case hr => first | (go_simp; done) | (go_simp; rfl)); (case hp => exact (Reps.one (show Kd.M (Kd.int .u8) _ _ _ x13_17 [.int .u8 x13_17] from rfl) (Reps.one (show Kd.M (Kd.int .u8) _ _ _ 14 [.int .u8 14] from rfl) (Reps.one (show Kd.M (Kd.int .u8) _ _ _ 23 [.int .u8 23] from rfl) (Reps.none _ _))))); intro v212 w58 ho59 hb hg_ hnew_; clear hg_ hnew_; (first | rw [← Ny211.out] at ho59 | (simp only [Int.reduceToNat] at ho59; rw [← Ny211.out] at ho59)); have n0_ := Aside0.mk (Kd.R_elder' (mvR HO_14) (Kd.R_base ho59) hb); have n1_ := Aside0.mk (Kd.R_elder' (mvR HO_15) (Kd.R_base ho59) hb); have n2_ := Aside0.mk (Kd.R_below (mvR HO_16) hb); have n3_ := Aside0.mk (Kd.R_elder' (mvR HO_17) (Kd.R_base ho59) hb); have n4_ := Aside0.mk (Kd.R_below (mvR HO_20) hb); have n5_ := Aside0.mk (Kd.R_elder' (mvR HO_21) (Kd.R_base ho59) hb); have n6_ := Aside0.mk (Kd.R_elder' (mvR HO210) (Kd.R_base ho59) hb); have n7_ := Aside0.mk (Kd.R_lower (Kd.R_new' (Kd.R_new' (Kd.R_new' (Kd.R_new' (Kd.R_new' ho59 (Kd.R_lt (mvR HO_14))) (Kd.R_lt (mvR HO_15))) (Kd.R_lt (mvR HO_17))) (Kd.R_lt (mvR HO_21))) (Kd.R_lt (mvR HO210))) (below_size (mvB HB))); have n8_ := Aside0.mk (below_step (mvB HB) hb); clear HO_14; clear HO_15; clear HO_16; clear HO_17; clear HO_20; clear HO_21; clear HO210; clear HB; have HO_14 := n0_; have HO_15 := n1_; have HO_16 := n2_; have HO_17 := n3_; have HO_20 := n4_; have HO_21 := n5_; have HO210 := n6_; have HO213 := n7_; have HB := n8_; clear n0_ n1_ n2_ n3_ n4_ n5_ n6_ n7_ n8_; clear hb ho59; obtain ⟨Ao61, co61, eo61⟩ := Kd.R_slice HO213.out; subst eo61) | ((with_reducible refine gate_builtin (b := .append) (xs := #[.tmp 129, .tmp 131]) rfl ?_); (try (refine gate_guard (by rfl) ?_; dsimp only)); at_builtin; refine Kd.R_append_rows (Kd.int .u8) (w0 := w) w.heap.size rfl (.tmp 129) (.tmp 131) 22 26 (.int .u8 0) 1 rfl Try.underlying22 info26 rfl (by decide) (by omega) v209 y208 y211 _ _ _ (fun k_ => some k_ ≠ (.slice Ao42 y185.length co42 : Value).ownBlock ∧ some k_ ≠ (.slice Ao44 y188.length co44 : Value).ownBlock ∧ some k_ ≠ (v197 : Value).ownBlock ∧ some k_ ≠ (v205 : Value).ownBlock ∧ some k_ ≠ (.slice Ao61 y211.length co61 : Value).ownBlock) (fun _ => False) rfl rfl ?aO ?aR (fun _ _ h => h) (fun _ h => h.elim) ?aF ?aB ?aS ?aL ?_; (case aR => repeat (first | exact (Kd.R_reads' HO213.out).2.2 | (with_reducible refine Kd.C_alloc ?_ _) | (with_reducible refine Kd.C_drewN ?_ _) | (with_reducible refine Kd.C_drew ?_))); (case aB => exact (mvB HB)); (case aF => exact (fun k_ hk => ⟨Kd.fresh' (Kd.R_lt (mvR HO_14)) k_ hk, Kd.fresh' (Kd.R_lt (mvR HO_15)) k_ hk, Kd.fresh' (Kd.R_lt (mvR HO_17)) k_ hk, Kd.fresh' (Kd.R_lt (mvR HO_21)) k_ hk, Kd.fresh' (Kd.R_lt (mvR HO213)) k_ hk⟩)); (case aO => exact (by (with_reducible repeat (first | apply Kd.R_alloc | apply Kd.R_drewN | apply Kd.R_drew)); exact Kd.R_mono HO210.out (fun _ hk => ⟨hk.1.1, ⟨hk.1.2.1, ⟨hk.1.2.2.1, ⟨hk.1.2.2.2, hk.2⟩⟩⟩⟩))); (case aS => exact (below_size (mvB HB))); (case aL => have := LMc53.out; omega); intro v215 w60 ho hb hg hat; rw [← Ny214.out] at ho; have n0_ := Aside0.mk (Kd.R_after (ok := (fun k_ => some k_ ≠ (.slice Ao44 y188.length co44 : Value).ownBlock ∧ some k_ ≠ (v197 : Value).ownBlock ∧ some k_ ≠ (v205 : Value).ownBlock ∧ some k_ ≠ (.slice Ao61 y211.length co61 : Value).ownBlock)) (by (with_reducible repeat (first | apply Kd.R_alloc | apply Kd.R_drewN | apply Kd.R_drew)); exact Kd.R_mono HO_14.out (fun _ hk => ⟨⟨hk.1.1.1, ⟨hk.1.1.2.1, ⟨hk.1.1.2.2, hk.2⟩⟩⟩, hk.1.2⟩)) hg hat); have n1_ := Aside0.mk (Kd.R_after (ok := (fun k_ => some k_ ≠ (.slice Ao42 y185.length co42 : Value).ownBlock ∧ some k_ ≠ (v197 : Value).ownBlock ∧ some k_ ≠ (v205 : Value).ownBlock ∧ some k_ ≠ (.slice Ao61 y211.length co61 : Value).ownBlock)) (by (with_reducible repeat (first | apply Kd.R_alloc | apply Kd.R_drewN | apply Kd.R_drew)); exact Kd.R_mono HO_15.out (fun _ hk => ⟨⟨hk.1.1.1, ⟨hk.1.1.2.1, ⟨hk.1.1.2.2, hk.2⟩⟩⟩, hk.1.2⟩)) hg hat); have n2_ := Aside0.mk (Kd.R_over' (mvR HO_16) (Kd.R_typed (mvR HO210)) (by decide) hg); have n3_ := Aside0.mk (Kd.R_after (ok := (fun k_ => some k_ ≠ (.slice Ao42 y185.length co42 : Value).ownBlock ∧ some k_ ≠ (.slice Ao44 y188.length co44 : Value).ownBlock ∧ some k_ ≠ (v205 : Value).ownBlock ∧ some k_ ≠ (.slice Ao61 y211.length co61 : Value).ownBlock)) (by (with_reducible repeat (first | apply Kd.R_alloc | apply Kd.R_drewN | apply Kd.R_drew)); exact Kd.R_mono HO_17.out (fun _ hk => ⟨⟨hk.1.1.1, ⟨hk.1.1.2.1, ⟨hk.1.1.2.2, hk.2⟩⟩⟩, hk.1.2⟩)) hg hat); have n4_ := Aside0.mk (Kd.R_over' (mvR HO_20) (Kd.R_typed (mvR HO210)) (by decide) hg); have n5_ := Aside0.mk (Kd.R_after (ok := (fun k_ => some k_ ≠ (.slice Ao42 y185.length co42 : Value).ownBlock ∧ some k_ ≠ (.slice Ao44 y188.length co44 : Value).ownBlock ∧ some k_ ≠ (v197 : Value).ownBlock ∧ some k_ ≠ (.slice Ao61 y211.length co61 : Value).ownBlock)) (by (with_reducible repeat (first | apply Kd.R_alloc | apply Kd.R_drewN | apply Kd.R_drew)); exact Kd.R_mono HO_21.out (fun _ hk => ⟨⟨hk.1.1.1, ⟨hk.1.1.2.1, ⟨hk.1.1.2.2, hk.2⟩⟩⟩, hk.1.2⟩)) hg hat); have n6_ := Aside0.mk (Kd.R_after (ok := (fun k_ => some k_ ≠ (.slice Ao42 y185.length co42 : Value).ownBlock ∧ some k_ ≠ (.slice Ao44 y188.length co44 : Value).ownBlock ∧ some k_ ≠ (v197 : Value).ownBlock ∧ some k_ ≠ (v205 : Value).ownBlock)) (by (with_reducible repeat (first | apply Kd.R_alloc | apply Kd.R_drewN | apply Kd.R_drew)); exact Kd.R_mono HO213.out (fun _ hk => ⟨⟨hk.1.1.1.1.2, ⟨hk.1.1.1.2, ⟨hk.1.1.2, hk.1.2⟩⟩⟩, hk.2⟩)) hg hat); have n7_ := Aside0.mk (hb); have n8_ := Aside0.mk (ho); clear HO_14; clear HO_15; clear HO_16; clear HO_17; clear HO_20; clear HO_21; clear HO213; clear HB; clear HO210; have HO_14 := n0_; have HO_15 := n1_; have HO_16 := n2_; have HO_17 := n3_; have HO_20 := n4_; have HO_21 := n5_; have HO213 := n6_; have HB := n7_; have HO216 := n8_; clear n0_ n1_ n2_ n3_ n4_ n5_ n6_ n7_ n8_; clear ho hb hg hat) | ((with_reducible refine gate_builtin (b := .append) (xs := #[.tmp 133, .tmp 134]) rfl ?_); (try (refine gate_guard (by rfl) ?_; dsimp only)); at_builtin; refine Kd.R_append_rows (Kd.int .u8) (w0 := w) w.heap.size rfl (.tmp 133) (.tmp 134) 22 26 (.int .u8 0) 1 rfl Try.underlying22 info26 rfl (by decide) (by omega) v215 y214 l3 _ _ _ (fun k_ => some k_ ≠ (.slice Ao42 y185.length co42 : Value).ownBlock ∧ some k_ ≠ (.slice Ao44 y188.length co44 : Value).ownBlock ∧ some k_ ≠ (v197 : Value).ownBlock ∧ some k_ ≠ (v205 : Value).ownBlock ∧ some k_ ≠ (.slice Ao61 y211.length co61 : Value).ownBlock) (fun _ => False) rfl rfl ?aO ?aR (fun _ _ h => h) (fun _ h => h.elim) ?aF ?aB ?aS ?aL ?_; (case aR => repeat (first | exact (Kd.C_below HR3.out HB.out) | (with_reducible refine Kd.C_alloc ?_ _) | (with_reducible refine Kd.C_drewN ?_ _) | (with_reducible refine Kd.C_drew ?_))); (case aB => exact (mvB HB)); (case aF => exact (fun k_ hk => ⟨Kd.fresh' (Kd.R_lt (mvR HO_14)) k_ hk, Kd.fresh' (Kd.R_lt (mvR HO_15)) k_ hk, Kd.fresh' (Kd.R_lt (mvR HO_17)) k_ hk, Kd.fresh' (Kd.R_lt (mvR HO_21)) k_ hk, Kd.fresh' (Kd.R_lt (mvR HO213)) k_ hk⟩)); (case aO => exact (mvR HO216)); (case aS => exact (below_size (mvB HB))); (case aL => have := LMc54.out; omega); intro v218 w62 ho hb hg hat; rw [← Ny217.out] at ho; have n0_ := Aside0.mk (Kd.R_after (ok := (fun k_ => some k_ ≠ (.slice Ao44 y188.length co44 : Value).ownBlock ∧ some k_ ≠ (v197 : Value).ownBlock ∧ some k_ ≠ (v205 : Value).ownBlock ∧ some k_ ≠ (.slice Ao61 y211.length co61 : Value).ownBlock)) (mvR HO_14) hg hat); have n1_ := Aside0.mk (Kd.R_after (ok := (fun k_ => some k_ ≠ (.slice Ao42 y185.length co42 : Value).ownBlock ∧ some k_ ≠ (v197 : Value).ownBlock ∧ some k_ ≠ (v205 : Value).ownBlock ∧ some k_ ≠ (.slice Ao61 y211.length co61 : Value).ownBlock)) (mvR HO_15) hg hat); have n2_ := Aside0.mk (Kd.R_over' (mvR HO_16) (Kd.R_typed (mvR HO216)) (by decide) hg); have n3_ := Aside0.mk (Kd.R_after (ok := (fun k_ => some k_ ≠ (.slice Ao42 y185.length co42 : Value).ownBlock ∧ some k_ ≠ (.slice Ao44 y188.length co44 : Value).ownBlock ∧ some k_ ≠ (v205 : Value).ownBlock ∧ some k_ ≠ (.slice Ao61 y211.length co61 : Value).ownBlock)) (mvR HO_17) hg hat); have n4_ := Aside0.mk (Kd.R_over' (mvR HO_20) (Kd.R_typed (mvR HO216)) (by decide) hg); have n5_ := Aside0.mk (Kd.R_after (ok := (fun k_ => some k_ ≠ (.slice Ao42 y185.length co42 : Value).ownBlock ∧ some k_ ≠ (.slice Ao44 y188.length co44 : Value).ownBlock ∧ some k_ ≠ (v197 : Value).ownBlock ∧ some k_ ≠ (.slice Ao61 y211.length co61 : Value).ownBlock)) (mvR HO_21) hg hat); have n6_ := Aside0.mk (Kd.R_after (ok := (fun k_ => some k_ ≠ (.slice Ao42 y185.length co42 : Value).ownBlock ∧ some k_ ≠ (.slice Ao44 y188.length co44 : Value).ownBlock ∧ some k_ ≠ (v197 : Value).ownBlock ∧ some k_ ≠ (v205 : Value).ownBlock)) (mvR HO213) hg hat); have n7_ := Aside0.mk (hb); have n8_ := Aside0.mk (ho); clear HO_14; clear HO_15; clear HO_16; clear HO_17; clear HO_20; clear HO_21; clear HO213; clear HB; clear HO216; have HO_14 := n0_; have HO_15 := n1_; have HO_16 := n2_; have HO_17 := n3_; have HO_20 := n4_; have HO_21 := n5_; have HO213 := n6_; have HB := n7_; have HO219 := n8_; clear n0_ n1_ n2_ n3_ n4_ n5_ n6_ n7_ n8_; clear ho hb hg hat; obtain ⟨Ao63, co63, eo63⟩ := Kd.R_slice HO219.out; subst eo63) | (go_at_call 15; (with_reducible refine (explicit_Levels.calls _ _ y217 t193 t220 t221 t222 t223 _ ?side1 ?side2 A55.out).mono ?_); (case side1 => repeat (first | exact (Kd.R_reads' HO219.out).2.2 | (with_reducible refine Kd.C_alloc ?_ _) | (with_reducible refine Kd.C_drewN ?_ _) | (with_reducible refine Kd.C_drew ?_))); (case side2 => exact (Kd.R_reads' HO219.out).2.1); rintro e w64 ⟨v224, v226, rfl, ho0, ho1, hb⟩; have n0_ := Aside0.mk (Kd.R_elder' (mvR HO_14) (Kd.R_base ho1) hb); have n1_ := Aside0.mk (Kd.R_elder' (mvR HO_15) (Kd.R_base ho1) hb); have n2_ := Aside0.mk (Kd.R_elder' (mvR HO_16) (Kd.R_base ho0) hb); have n3_ := Aside0.mk (Kd.R_elder' (mvR HO_17) (Kd.R_base ho1) hb); have n4_ := Aside0.mk (Kd.R_elder' (mvR HO_20) (Kd.R_base ho0) hb); have n5_ := Aside0.mk (Kd.R_elder' (mvR HO_21) (Kd.R_base ho1) hb); have n6_ := Aside0.mk (Kd.R_elder' (mvR HO213) (Kd.R_base ho1) hb); have n7_ := Aside0.mk (Kd.R_elder' (mvR HO219) (Kd.R_base ho1) hb); have n8_ := Aside0.mk (Kd.R_lower (Kd.R_new' (Kd.R_new' ho0 (Kd.R_lt (mvR HO_16))) (Kd.R_lt (mvR HO_20))) (below_size (mvB HB))); have n9_ := Aside0.mk (Kd.R_lower (Kd.R_new' (Kd.R_new' (Kd.R_new' (Kd.R_new' (Kd.R_new' (Kd.R_new' ho1 (Kd.R_lt (mvR HO_14))) (Kd.R_lt (mvR HO_15))) (Kd.R_lt (mvR HO_17))) (Kd.R_lt (mvR HO_21))) (Kd.R_lt (mvR HO213))) (Kd.R_lt (mvR HO219))) (below_size (mvB HB))); have n10_ := Aside0.mk (below_step (mvB HB) hb); clear HO_14; clear HO_15; clear HO_16; clear HO_17; clear HO_20; clear HO_21; clear HO213; clear HO219; clear HB; have HO_14 := n0_; have HO_15 := n1_; have HO_16 := n2_; have HO_17 := n3_; have HO_20 := n4_; have HO_21 := n5_; have HO213 := n6_; have HO219 := n7_; have HO225 := n8_; have HO227 := n9_; have HB := n10_; clear n0_ n1_ n2_ n3_ n4_ n5_ n6_ n7_ n8_ n9_ n10_; (try clear hb); (try clear hb2); (try clear hk); (try clear hi); (try clear ho0); (try clear ho1))); go_upto_region 26 with (first | ((with_reducible refine gate_builtin (b := .append) (xs := #[.tmp 126, .tmp 127]) rfl ?_); (try (refine gate_guard (by rfl) ?_; dsimp only)); at_builtin; refine Kd.R_append_rows (Kd.int .u8) (w0 := w) w.heap.size rfl (.tmp 126) (.tmp 127) 22 26 (.int .u8 0) 1 rfl Try.underlying22 info26 rfl (by decide) (by omega) (.slice none 0 0) ([] : List Int) l0 _ _ _ (fun k_ => some k_ ≠ (.slice Ao42 y185.length co42 : Value).ownBlock ∧ some k_ ≠ (.slice Ao44 y188.length co44 : Value).ownBlock ∧ some k_ ≠ (v197 : Value).ownBlock ∧ some k_ ≠ (v205 : Value).ownBlock) (fun _ => False) rfl rfl ?aO ?aR (fun _ _ h => h) (fun _ h => h.elim) ?aF ?aB ?aS ?aL ?_; (case aR => repeat (first | exact (Kd.C_below HR0.out HB.out) | (with_reducible refine Kd.C_alloc ?_ _) | (with_reducible refine Kd.C_drewN ?_ _) | (with_reducible refine Kd.C_drew ?_))); (case aB => exact (mvB HB)); (case aF => exact (fun k_ hk => ⟨Kd.fresh' (Kd.R_lt (mvR HO_14)) k_ hk, Kd.fresh' (Kd.R_lt (mvR HO_15)) k_ hk, Kd.fresh' (Kd.R_lt (mvR HO_17)) k_ hk, Kd.fresh' (Kd.R_lt (mvR HO_21)) k_ hk⟩)); (case aO => exact ((Kd.R_nil _ _ _ _ (fun k_ => some k_ ≠ (.slice Ao42 y185.length co42 : Value).ownBlock ∧ some k_ ≠ (.slice Ao44 y188.length co44 : Value).ownBlock ∧ some k_ ≠ (v197 : Value).ownBlock ∧ some k_ ≠ (v205 : Value).ownBlock)))); (case aS => exact (below_size (mvB HB))); (case aL => have := LMc52.out; omega); intro v209 w57 ho hb hg hat; rw [← Ny208.out] at ho; have n0_ := Aside0.mk (Kd.R_after (Kd.R_apart_nil (mvR HO_14)) hg hat); have n1_ := Aside0.mk (Kd.R_after (Kd.R_apart_nil (mvR HO_15)) hg hat); have n2_ := Aside0.mk (Kd.R_grown (mvR HO_16) hg (fun _ _ => by simp [Value.ownBlock])); have n3_ := Aside0.mk (Kd.R_after (Kd.R_apart_nil (mvR HO_17)) hg hat); have n4_ := Aside0.mk (Kd.R_grown (mvR HO_20) hg (fun _ _ => by simp [Value.ownBlock])); have n5_ := Aside0.mk (Kd.R_after (Kd.R_apart_nil (mvR HO_21)) hg hat); have n6_ := Aside0.mk (hb); have n7_ := Aside0.mk (ho); clear HO_14; clear HO_15; clear HO_16; clear HO_17; clear HO_20; clear HO_21; clear HB; have HO_14 := n0_; have HO_15 := n1_; have HO_16 := n2_; have HO_17 := n3_; have HO_20 := n4_; have HO_21 := n5_; have HB := n6_; have HO210 := n7_; clear n0_ n1_ n2_ n3_ n4_ n5_ n6_ n7_; clear ho hb hg hat) | ((with_reducible refine gate_dst (N := 131) rfl ?_); (try (refine gate_guard (by rfl) ?_; dsimp only)); refine Kd.R_lit (Kd.int .u8) _ 26 ?hg (N := 131) ?hd (xs := ([x13_17, 14, 23] : List Int)) (inner := [.int .u8 x13_17, .int .u8 14, .int .u8 23]) (ok := fun _ => True) (okp := fun _ => True) ?hr ?hp (fun _ hk => hk) trivial (Below.refl _ _) (Nat.le_refl _) (by simp) ?_; (case hd => rfl); (case hg => rfl); (case hr => first | (go_simp; done) | (go_simp; rfl)); (case hp => exact (Reps.one (show Kd.M (Kd.int .u8) _ _ _ x13_17 [.int .u8 x13_17] from rfl) (Reps.one (show Kd.M (Kd.int .u8) _ _ _ 14 [.int .u8 14] from rfl) (Reps.one (show Kd.M (Kd.int .u8) _ _ _ 23 [.int .u8 23] from rfl) (Reps.none _ _))))); intro v212 w58 ho59 hb hg_ hnew_; clear hg_ hnew_; (first | rw [← Ny211.out] at ho59 | (simp only [Int.reduceToNat] at ho59; rw [← Ny211.out] at ho59)); have n0_ := Aside0.mk (Kd.R_elder' (mvR HO_14) (Kd.R_base ho59) hb); have n1_ := Aside0.mk (Kd.R_elder' (mvR HO_15) (Kd.R_base ho59) hb); have n2_ := Aside0.mk (Kd.R_below (mvR HO_16) hb); have n3_ := Aside0.mk (Kd.R_elder' (mvR HO_17) (Kd.R_base ho59) hb); have n4_ := Aside0.mk (Kd.R_below (mvR HO_20) hb); have n5_ := Aside0.mk (Kd.R_elder' (mvR HO_21) (Kd.R_base ho59) hb); have n6_ := Aside0.mk (Kd.R_elder' (mvR HO210) (Kd.R_base ho59) hb); have n7_ := Aside0.mk (Kd.R_lower (Kd.R_new' (Kd.R_new' (Kd.R_new' (Kd.R_new' (Kd.R_new' ho59 (Kd.R_lt (mvR HO_14))) (Kd.R_lt (mvR HO_15))) (Kd.R_lt (mvR HO_17))) (Kd.R_lt (mvR HO_21))) (Kd.R_lt (mvR HO210))) (below_size (mvB HB))); have n8_ := Aside0.mk (below_step (mvB HB) hb); clear HO_14; clear HO_15; clear HO_16; clear HO_17; clear HO_20; clear HO_21; clear HO210; clear HB; have HO_14 := n0_; have HO_15 := n1_; have HO_16 := n2_; have HO_17 := n3_; have HO_20 := n4_; have HO_21 := n5_; have HO210 := n6_; have HO213 := n7_; have HB := n8_; clear n0_ n1_ n2_ n3_ n4_ n5_ n6_ n7_ n8_; clear hb ho59; obtain ⟨Ao61, co61, eo61⟩ := Kd.R_slice HO213.out; subst eo61) | ((with_reducible refine gate_builtin (b := .append) (xs := #[.tmp 129, .tmp 131]) rfl ?_); (try (refine gate_guard (by rfl) ?_; dsimp only)); at_builtin; refine Kd.R_append_rows (Kd.int .u8) (w0 := w) w.heap.size rfl (.tmp 129) (.tmp 131) 22 26 (.int .u8 0) 1 rfl Try.underlying22 info26 rfl (by decide) (by omega) v209 y208 y211 _ _ _ (fun k_ => some k_ ≠ (.slice Ao42 y185.length co42 : Value).ownBlock ∧ some k_ ≠ (.slice Ao44 y188.length co44 : Value).ownBlock ∧ some k_ ≠ (v197 : Value).ownBlock ∧ some k_ ≠ (v205 : Value).ownBlock ∧ some k_ ≠ (.slice Ao61 y211.length co61 : Value).ownBlock) (fun _ => False) rfl rfl ?aO ?aR (fun _ _ h => h) (fun _ h => h.elim) ?aF ?aB ?aS ?aL ?_; (case aR => repeat (first | exact (Kd.R_reads' HO213.out).2.2 | (with_reducible refine Kd.C_alloc ?_ _) | (with_reducible refine Kd.C_drewN ?_ _) | (with_reducible refine Kd.C_drew ?_))); (case aB => exact (mvB HB)); (case aF => exact (fun k_ hk => ⟨Kd.fresh' (Kd.R_lt (mvR HO_14)) k_ hk, Kd.fresh' (Kd.R_lt (mvR HO_15)) k_ hk, Kd.fresh' (Kd.R_lt (mvR HO_17)) k_ hk, Kd.fresh' (Kd.R_lt (mvR HO_21)) k_ hk, Kd.fresh' (Kd.R_lt (mvR HO213)) k_ hk⟩)); (case aO => exact (by (with_reducible repeat (first | apply Kd.R_alloc | apply Kd.R_drewN | apply Kd.R_drew)); exact Kd.R_mono HO210.out (fun _ hk => ⟨hk.1.1, ⟨hk.1.2.1, ⟨hk.1.2.2.1, ⟨hk.1.2.2.2, hk.2⟩⟩⟩⟩))); (case aS => exact (below_size (mvB HB))); (case aL => have := LMc53.out; omega); intro v215 w60 ho hb hg hat; rw [← Ny214.out] at ho; have n0_ := Aside0.mk (Kd.R_after (ok := (fun k_ => some k_ ≠ (.slice Ao44 y188.length co44 : Value).ownBlock ∧ some k_ ≠ (v197 : Value).ownBlock ∧ some k_ ≠ (v205 : Value).ownBlock ∧ some k_ ≠ (.slice Ao61 y211.length co61 : Value).ownBlock)) (by (with_reducible repeat (first | apply Kd.R_alloc | apply Kd.R_drewN | apply Kd.R_drew)); exact Kd.R_mono HO_14.out (fun _ hk => ⟨⟨hk.1.1.1, ⟨hk.1.1.2.1, ⟨hk.1.1.2.2, hk.2⟩⟩⟩, hk.1.2⟩)) hg hat); have n1_ := Aside0.mk (Kd.R_after (ok := (fun k_ => some k_ ≠ (.slice Ao42 y185.length co42 : Value).ownBlock ∧ some k_ ≠ (v197 : Value).ownBlock ∧ some k_ ≠ (v205 : Value).ownBlock ∧ some k_ ≠ (.slice Ao61 y211.length co61 : Value).ownBlock)) (by (with_reducible repeat (first | apply Kd.R_alloc | apply Kd.R_drewN | apply Kd.R_drew)); exact Kd.R_mono HO_15.out (fun _ hk => ⟨⟨hk.1.1.1, ⟨hk.1.1.2.1, ⟨hk.1.1.2.2, hk.2⟩⟩⟩, hk.1.2⟩)) hg hat); have n2_ := Aside0.mk (Kd.R_over' (mvR HO_16) (Kd.R_typed (mvR HO210)) (by decide) hg); have n3_ := Aside0.mk (Kd.R_after (ok := (fun k_ => some k_ ≠ (.slice Ao42 y185.length co42 : Value).ownBlock ∧ some k_ ≠ (.slice Ao44 y188.length co44 : Value).ownBlock ∧ some k_ ≠ (v205 : Value).ownBlock ∧ some k_ ≠ (.slice Ao61 y211.length co61 : Value).ownBlock)) (by (with_reducible repeat (first | apply Kd.R_alloc | apply Kd.R_drewN | apply Kd.R_drew)); exact Kd.R_mono HO_17.out (fun _ hk => ⟨⟨hk.1.1.1, ⟨hk.1.1.2.1, ⟨hk.1.1.2.2, hk.2⟩⟩⟩, hk.1.2⟩)) hg hat); have n4_ := Aside0.mk (Kd.R_over' (mvR HO_20) (Kd.R_typed (mvR HO210)) (by decide) hg); have n5_ := Aside0.mk (Kd.R_after (ok := (fun k_ => some k_ ≠ (.slice Ao42 y185.length co42 : Value).ownBlock ∧ some k_ ≠ (.slice Ao44 y188.length co44 : Value).ownBlock ∧ some k_ ≠ (v197 : Value).ownBlock ∧ some k_ ≠ (.slice Ao61 y211.length co61 : Value).ownBlock)) (by (with_reducible repeat (first | apply Kd.R_alloc | apply Kd.R_drewN | apply Kd.R_drew)); exact Kd.R_mono HO_21.out (fun _ hk => ⟨⟨hk.1.1.1, ⟨hk.1.1.2.1, ⟨hk.1.1.2.2, hk.2⟩⟩⟩, hk.1.2⟩)) hg hat); have n6_ := Aside0.mk (Kd.R_after (ok := (fun k_ => some k_ ≠ (.slice Ao42 y185.length co42 : Value).ownBlock ∧ some k_ ≠ (.slice Ao44 y188.length co44 : Value).ownBlock ∧ some k_ ≠ (v197 : Value).ownBlock ∧ some k_ ≠ (v205 : Value).ownBlock)) (by (with_reducible repeat (first | apply Kd.R_alloc | apply Kd.R_drewN | apply Kd.R_drew)); exact Kd.R_mono HO213.out (fun _ hk => ⟨⟨hk.1.1.1.1.2, ⟨hk.1.1.1.2, ⟨hk.1.1.2, hk.1.2⟩⟩⟩, hk.2⟩)) hg hat); have n7_ := Aside0.mk (hb); have n8_ := Aside0.mk (ho); clear HO_14; clear HO_15; clear HO_16; clear HO_17; clear HO_20; clear HO_21; clear HO213; clear HB; clear HO210; have HO_14 := n0_; have HO_15 := n1_; have HO_16 := n2_; have HO_17 := n3_; have HO_20 := n4_; have HO_21 := n5_; have HO213 := n6_; have HB := n7_; have HO216 := n8_; clear n0_ n1_ n2_ n3_ n4_ n5_ n6_ n7_ n8_; clear ho hb hg hat) | ((with_reducible refine gate_builtin (b := .append) (xs := #[.tmp 133, .tmp 134]) rfl ?_); (try (refine gate_guard (by rfl) ?_; dsimp only)); at_builtin; refine Kd.R_append_rows (Kd.int .u8) (w0 := w) w.heap.size rfl (.tmp 133) (.tmp 134) 22 26 (.int .u8 0) 1 rfl Try.underlying22 info26 rfl (by decide) (by omega) v215 y214 l3 _ _ _ (fun k_ => some k_ ≠ (.slice Ao42 y185.length co42 : Value).ownBlock ∧ some k_ ≠ (.slice Ao44 y188.length co44 : Value).ownBlock ∧ some k_ ≠ (v197 : Value).ownBlock ∧ some k_ ≠ (v205 : Value).ownBlock ∧ some k_ ≠ (.slice Ao61 y211.length co61 : Value).ownBlock) (fun _ => False) rfl rfl ?aO ?aR (fun _ _ h => h) (fun _ h => h.elim) ?aF ?aB ?aS ?aL ?_; (case aR => repeat (first | exact (Kd.C_below HR3.out HB.out) | (with_reducible refine Kd.C_alloc ?_ _) | (with_reducible refine Kd.C_drewN ?_ _) | (with_reducible refine Kd.C_drew ?_))); (case aB => exact (mvB HB)); (case aF => exact (fun k_ hk => ⟨Kd.fresh' (Kd.R_lt (mvR HO_14)) k_ hk, Kd.fresh' (Kd.R_lt (mvR HO_15)) k_ hk, Kd.fresh' (Kd.R_lt (mvR HO_17)) k_ hk, Kd.fresh' (Kd.R_lt (mvR HO_21)) k_ hk, Kd.fresh' (Kd.R_lt (mvR HO213)) k_ hk⟩)); (case aO => exact (mvR HO216)); (case aS => exact (below_size (mvB HB))); (case aL => have := LMc54.out; omega); intro v218 w62 ho hb hg hat; rw [← Ny217.out] at ho; have n0_ := Aside0.mk (Kd.R_after (ok := (fun k_ => some k_ ≠ (.slice Ao44 y188.length co44 : Value).ownBlock ∧ some k_ ≠ (v197 : Value).ownBlock ∧ some k_ ≠ (v205 : Value).ownBlock ∧ some k_ ≠ (.slice Ao61 y211.length co61 : Value).ownBlock)) (mvR HO_14) hg hat); have n1_ := Aside0.mk (Kd.R_after (ok := (fun k_ => some k_ ≠ (.slice Ao42 y185.length co42 : Value).ownBlock ∧ some k_ ≠ (v197 : Value).ownBlock ∧ some k_ ≠ (v205 : Value).ownBlock ∧ some k_ ≠ (.slice Ao61 y211.length co61 : Value).ownBlock)) (mvR HO_15) hg hat); have n2_ := Aside0.mk (Kd.R_over' (mvR HO_16) (Kd.R_typed (mvR HO216)) (by decide) hg); have n3_ := Aside0.mk (Kd.R_after (ok := (fun k_ => some k_ ≠ (.slice Ao42 y185.length co42 : Value).ownBlock ∧ some k_ ≠ (.slice Ao44 y188.length co44 : Value).ownBlock ∧ some k_ ≠ (v205 : Value).ownBlock ∧ some k_ ≠ (.slice Ao61 y211.length co61 : Value).ownBlock)) (mvR HO_17) hg hat); have n4_ := Aside0.mk (Kd.R_over' (mvR HO_20) (Kd.R_typed (mvR HO216)) (by decide) hg); have n5_ := Aside0.mk (Kd.R_after (ok := (fun k_ => some k_ ≠ (.slice Ao42 y185.length co42 : Value).ownBlock ∧ some k_ ≠ (.slice Ao44 y188.length co44 : Value).ownBlock ∧ some k_ ≠ (v197 : Value).ownBlock ∧ some k_ ≠ (.slice Ao61 y211.length co61 : Value).ownBlock)) (mvR HO_21) hg hat); have n6_ := Aside0.mk (Kd.R_after (ok := (fun k_ => some k_ ≠ (.slice Ao42 y185.length co42 : Value).ownBlock ∧ some k_ ≠ (.slice Ao44 y188.length co44 : Value).ownBlock ∧ some k_ ≠ (v197 : Value).ownBlock ∧ some k_ ≠ (v205 : Value).ownBlock)) (mvR HO213) hg hat); have n7_ := Aside0.mk (hb); have n8_ := Aside0.mk (ho); clear HO_14; clear HO_15; clear HO_16; clear HO_17; clear HO_20; clear HO_21; clear HO213; clear HB; clear HO216; have HO_14 := n0_; have HO_15 := n1_; have HO_16 := n2_; have HO_17 := n3_; have HO_20 := n4_; have HO_21 := n5_; have HO213 := n6_; have HB := n7_; have HO219 := n8_; clear n0_ n1_ n2_ n3_ n4_ n5_ n6_ n7_ n8_; clear ho hb hg hat; obtain ⟨Ao63, co63, eo63⟩ := Kd.R_slice HO219.out; subst eo63) | (go_at_call 15; (with_reducible refine (explicit_Levels.calls _ _ y217 t193 t220 t221 t222 t223 _ ?side1 ?side2 A55.out).mono ?_); (case side1 => repeat (first | exact (Kd.R_reads' HO219.out).2.2 | (with_reducible refine Kd.C_alloc ?_ _) | (with_reducible refine Kd.C_drewN ?_ _) | (with_reducible refine Kd.C_drew ?_))); (case side2 => exact (Kd.R_reads' HO219.out).2.1); rintro e w64 ⟨v224, v226, rfl, ho0, ho1, hb⟩; have n0_ := Aside0.mk (Kd.R_elder' (mvR HO_14) (Kd.R_base ho1) hb); have n1_ := Aside0.mk (Kd.R_elder' (mvR HO_15) (Kd.R_base ho1) hb); have n2_ := Aside0.mk (Kd.R_elder' (mvR HO_16) (Kd.R_base ho0) hb); have n3_ := Aside0.mk (Kd.R_elder' (mvR HO_17) (Kd.R_base ho1) hb); have n4_ := Aside0.mk (Kd.R_elder' (mvR HO_20) (Kd.R_base ho0) hb); have n5_ := Aside0.mk (Kd.R_elder' (mvR HO_21) (Kd.R_base ho1) hb); have n6_ := Aside0.mk (Kd.R_elder' (mvR HO213) (Kd.R_base ho1) hb); have n7_ := Aside0.mk (Kd.R_elder' (mvR HO219) (Kd.R_base ho1) hb); have n8_ := Aside0.mk (Kd.R_lower (Kd.R_new' (Kd.R_new' ho0 (Kd.R_lt (mvR HO_16))) (Kd.R_lt (mvR HO_20))) (below_size (mvB HB))); have n9_ := Aside0.mk (Kd.R_lower (Kd.R_new' (Kd.R_new' (Kd.R_new' (Kd.R_new' (Kd.R_new' (Kd.R_new' ho1 (Kd.R_lt (mvR HO_14))) (Kd.R_lt (mvR HO_15))) (Kd.R_lt (mvR HO_17))) (Kd.R_lt (mvR HO_21))) (Kd.R_lt (mvR HO213))) (Kd.R_lt (mvR HO219))) (below_size (mvB HB))); have n10_ := Aside0.mk (below_step (mvB HB) hb); clear HO_14; clear HO_15; clear HO_16; clear HO_17; clear HO_20; clear HO_21; clear HO213; clear HO219; clear HB; have HO_14 := n0_; have HO_15 := n1_; have HO_16 := n2_; have HO_17 := n3_; have HO_20 := n4_; have HO_21 := n5_; have HO213 := n6_; have HO219 := n7_; have HO225 := n8_; have HO227 := n9_; have HB := n10_; clear n0_ n1_ n2_ n3_ n4_ n5_ n6_ n7_ n8_ n9_ n10_; (try clear hb); (try clear hb2); (try clear hk); (try clear hi); (try clear ho0); (try clear ho1))))
                     (try simp only [Act.put, List.setIfInBounds_toArray, List.set_cons_zero, List.set_cons_succ])
                     go_cut [162] (fun v162 wc => ∃ (kq : Nat) (x162_55 : Bool), v162 = .bool x162_55 ∧ Aside0 (selvedgelaw14_ExplicitIsolates.j3 kq l0 l3 y185 y188 t191 t192 t199 t200 x162_55 = some r) ∧ Aside0 (kq ≤ kj30) ∧ Aside0 (Kd.R (Kd.int .u8) 26 wc w.heap.size (fun k_ => some k_ ≠ ((.slice Ao44 y188.length co44) : Value).ownBlock ∧ some k_ ≠ (v197 : Value).ownBlock ∧ some k_ ≠ (v205 : Value).ownBlock) (.slice Ao42 y185.length co42) y185) ∧ Aside0 (Kd.R (Kd.int .u8) 26 wc w.heap.size (fun k_ => some k_ ≠ ((.slice Ao42 y185.length co42) : Value).ownBlock ∧ some k_ ≠ (v197 : Value).ownBlock ∧ some k_ ≠ (v205 : Value).ownBlock) (.slice Ao44 y188.length co44) y188) ∧ Aside0 (Kd.R (Kd.int .u8) 5 wc w.heap.size (fun k_ => some k_ ≠ (v203 : Value).ownBlock) v195 t191) ∧ Aside0 (Kd.R (Kd.int .u8) 26 wc w.heap.size (fun k_ => some k_ ≠ ((.slice Ao42 y185.length co42) : Value).ownBlock ∧ some k_ ≠ ((.slice Ao44 y188.length co44) : Value).ownBlock ∧ some k_ ≠ (v205 : Value).ownBlock) v197 t192) ∧ Aside0 (Kd.R (Kd.int .u8) 5 wc w.heap.size (fun k_ => some k_ ≠ (v195 : Value).ownBlock) v203 t199) ∧ Aside0 (Kd.R (Kd.int .u8) 26 wc w.heap.size (fun k_ => some k_ ≠ ((.slice Ao42 y185.length co42) : Value).ownBlock ∧ some k_ ≠ ((.slice Ao44 y188.length co44) : Value).ownBlock ∧ some k_ ≠ (v197 : Value).ownBlock) v205 t200) ∧ Aside0 (Below w.heap.size w wc))
                     case first =>
                      as_aux_lemma =>
                      have H := HC56.out
                      clear HC56
                      by_cases c65 : (t220.length : Int) = (y217.length : Int)
                      ·rw [if_pos c65] at H
                       have c65b0 : ((t220.length : Int) == (y217.length : Int)) = true := beq_iff_eq.mpr c65
                       have c65b1 : ((t220.length : Int) != (y217.length : Int)) = false := bne_eq_false_iff_eq.mpr c65
                       have c65b2 : (t220.length == y217.length) = true := by first | simpa using c65 | (simp at c65 ⊢; omega)
                       clear c65
                       (first | rw [c65b0] | (simp only [i64_w, i32_w]; rw [c65b0]) | skip)
                       obtain ⟨ji66, hji66⟩ : ∃ j_ : Int, (wrap64 ((l0.length : Int) + 1)) = j_ := ⟨_, rfl⟩
                       replace H : (if 0 ≤ (ji66) then (if (ji66) < (t220.length : Int) then (if 0 ≤ (l0.length : Int) then (if (l0.length : Int) < (t220.length : Int) then (selvedgelaw14_ExplicitIsolates.j3 kj30 l0 l3 y185 y188 t191 t192 t199 t200 ((rd t220 (ji66)) == (rd t220 (l0.length : Int)))) else (none)) else (none)) else (none)) else (none)) = some r := by first | (rw [hji66] at H; exact H) | (simp only [hji66] at H ⊢; exact H)
                       have hji66w : (IntKind.i64.wrap ((l0.length : Int) + 1)) = ji66 := (i64_w _).trans hji66
                       by_cases c67 : 0 ≤ (ji66)
                       ·rw [if_pos c67] at H
                        have c67b0 : decide (0 ≤ (ji66)) = true := decide_eq_true c67
                        clear c67
                        by_cases c68 : (ji66) < (t220.length : Int)
                        ·rw [if_pos c68] at H
                         have c68b0 : decide ((ji66) < (t220.length : Int)) = true := decide_eq_true c68
                         clear c68
                         by_cases c69 : 0 ≤ (l0.length : Int)
                         ·rw [if_pos c69] at H
                          have c69b0 : decide (0 ≤ (l0.length : Int)) = true := decide_eq_true c69
                          have c69b1 : decide (0 ≤ l0.length) = true := decide_eq_true (by omega)
                          clear c69
                          by_cases c70 : (l0.length : Int) < (t220.length : Int)
                          ·rw [if_pos c70] at H
                           have c70b0 : decide ((l0.length : Int) < (t220.length : Int)) = true := decide_eq_true c70
                           have c70b1 : decide (l0.length < t220.length) = true := decide_eq_true (Int.ofNat_lt.mp c70)
                           clear c70
                           have H' := Aside0.mk H
                           clear H
                           obtain ⟨Ao71, co71, eo71⟩ := Kd.R_slice HO225.out
                           subst eo71
                           obtain ⟨ad228, e228, hx228_0, p228, q228⟩ := atI (Kd.R_reads' HO225.out).2.2 (ji66)
                           cases e228
                           have p229 : 0 ≤ ((l0.length : Int) : Int) := of_decide_eq_true (by first | (with_reducible assumption) | assumption)
                           have q229 : (l0.length : Int) < (t220.length : Int) := of_decide_eq_true (by first | (with_reducible assumption) | assumption)
                           obtain ⟨ad229, e229, hx229_0⟩ := Kd.at_int (Kd.R_reads' HO225.out).2.2 (l0.length : Int) p229 q229
                           obtain rfl : ad228 = ad229 := (by injection e229)
                           (try simp only [Go.IntWalk.toNatUp] at hx229_0)
                           replace p229 := eq_true p229
                           replace q229 := eq_true q229
                           go_wp2
                           repeat (go_quiet (fail); try go_wp2)
                           go_meet
                           case rel => exact ⟨_, (((rd t220 (ji66)) == (rd t220 (l0.length : Int)))), (by first | rfl | (simp; done) | (simp only [← hji66] <;> (first | rfl | simp)) | (simp [*]; done)), H', ⟨by have := HJ6.out; have := HJ17.out; have := HJ30.out; first | omega | exact Nat.le_refl _⟩, ⟨by (with_reducible repeat (first | apply Kd.R_alloc | apply Kd.R_drewN | apply Kd.R_drew)); exact Kd.R_mono HO_14.out (fun _ hk => ⟨hk.1.1.1, ⟨hk.1.1.2.1, hk.1.1.2.2.1⟩⟩)⟩, ⟨by (with_reducible repeat (first | apply Kd.R_alloc | apply Kd.R_drewN | apply Kd.R_drew)); exact Kd.R_mono HO_15.out (fun _ hk => ⟨hk.1.1.1, ⟨hk.1.1.2.1, hk.1.1.2.2.1⟩⟩)⟩, ⟨by (with_reducible repeat (first | apply Kd.R_alloc | apply Kd.R_drewN | apply Kd.R_drew)); exact Kd.R_mono HO_16.out (fun _ hk => hk.1)⟩, ⟨by (with_reducible repeat (first | apply Kd.R_alloc | apply Kd.R_drewN | apply Kd.R_drew)); exact Kd.R_mono HO_17.out (fun _ hk => ⟨hk.1.1.1, ⟨hk.1.1.2.1, hk.1.1.2.2.1⟩⟩)⟩, ⟨by (with_reducible repeat (first | apply Kd.R_alloc | apply Kd.R_drewN | apply Kd.R_drew)); exact Kd.R_mono HO_20.out (fun _ hk => hk.1)⟩, ⟨by (with_reducible repeat (first | apply Kd.R_alloc | apply Kd.R_drewN | apply Kd.R_drew)); exact Kd.R_mono HO_21.out (fun _ hk => ⟨hk.1.1.1, ⟨hk.1.1.2.1, hk.1.1.2.2.1⟩⟩)⟩, ⟨mvB HB⟩⟩
                          ·rw [if_neg c70] at H
                           exact absurd H (by simp)
                         ·rw [if_neg c69] at H
                          exact absurd H (by simp)
                        ·rw [if_neg c68] at H
                         exact absurd H (by simp)
                       ·rw [if_neg c67] at H
                        exact absurd H (by simp)
                      ·rw [if_neg c65] at H
                       have c65b0 : ((t220.length : Int) == (y217.length : Int)) = false := beq_eq_false_iff_ne.mpr c65
                       have c65b1 : ((t220.length : Int) != (y217.length : Int)) = true := bne_iff_ne.mpr c65
                       have c65b2 : (t220.length == y217.length) = false := by first | simpa using c65 | (simp at c65 ⊢; omega)
                       (first | rw [c65b0] | (simp only [i64_w, i32_w]; rw [c65b0]) | skip)
                       have H' := Aside0.mk H
                       clear H
                       obtain ⟨Ao72, co72, eo72⟩ := Kd.R_slice HO225.out
                       subst eo72
                       go_wp2
                       repeat (go_quiet (fail); try go_wp2)
                       go_meet
                       case rel => exact ⟨_, (true), (by first | rfl | (simp; done) | (simp [*]; done)), H', ⟨by have := HJ6.out; have := HJ17.out; have := HJ30.out; first | omega | exact Nat.le_refl _⟩, ⟨by (with_reducible repeat (first | apply Kd.R_alloc | apply Kd.R_drewN | apply Kd.R_drew)); exact Kd.R_mono HO_14.out (fun _ hk => ⟨hk.1.1.1, ⟨hk.1.1.2.1, hk.1.1.2.2.1⟩⟩)⟩, ⟨by (with_reducible repeat (first | apply Kd.R_alloc | apply Kd.R_drewN | apply Kd.R_drew)); exact Kd.R_mono HO_15.out (fun _ hk => ⟨hk.1.1.1, ⟨hk.1.1.2.1, hk.1.1.2.2.1⟩⟩)⟩, ⟨by (with_reducible repeat (first | apply Kd.R_alloc | apply Kd.R_drewN | apply Kd.R_drew)); exact Kd.R_mono HO_16.out (fun _ hk => hk.1)⟩, ⟨by (with_reducible repeat (first | apply Kd.R_alloc | apply Kd.R_drewN | apply Kd.R_drew)); exact Kd.R_mono HO_17.out (fun _ hk => ⟨hk.1.1.1, ⟨hk.1.1.2.1, hk.1.1.2.2.1⟩⟩)⟩, ⟨by (with_reducible repeat (first | apply Kd.R_alloc | apply Kd.R_drewN | apply Kd.R_drew)); exact Kd.R_mono HO_20.out (fun _ hk => hk.1)⟩, ⟨by (with_reducible repeat (first | apply Kd.R_alloc | apply Kd.R_drewN | apply Kd.R_drew)); exact Kd.R_mono HO_21.out (fun _ hk => ⟨hk.1.1.1, ⟨hk.1.1.2.1, hk.1.1.2.2.1⟩⟩)⟩, ⟨mvB HB⟩⟩
                     case rest =>
                      as_aux_lemma =>
                      clear HC56
                      try clear c1
                      try clear c2
                      try clear p2
                      try clear q2
                      try clear hx2
                      try clear c3
                      try clear c4
                      try clear c5
                      try clear c6
                      try clear p6
                      try clear c7
                      try clear c8
                      try clear c8b0
                      try clear c8b1
                      try clear c9
                      try clear c9b0
                      try clear c9b1
                      try clear c10
                      try clear c10b0
                      try clear c10b1
                      try clear c11
                      try clear c11b0
                      try clear c11b1
                      try clear c13
                      try clear c15
                      try clear c19
                      try clear c20
                      try clear c21
                      try clear c22
                      try clear p22
                      try clear q22
                      try clear hx22
                      try clear c23
                      try clear c24
                      try clear c25
                      try clear c26
                      try clear c27
                      try clear c28
                      try clear c46
                      try clear c46b0
                      try clear c46b1
                      try clear c47
                      try clear c47b0
                      try clear c47b1
                      try clear c48
                      try clear c49
                      try clear c49b0
                      try clear c49b1
                      try clear c52
                      try clear c53
                      try clear c54
                      try clear p64
                      try clear c65
                      try clear c65b0
                      try clear c65b1
                      try clear c65b2
                      try clear c67
                      try clear c67b0
                      try clear c68
                      try clear c68b0
                      try clear c69
                      try clear c69b0
                      try clear c69b1
                      try clear c70
                      try clear c70b0
                      try clear c70b1
                      try clear hx228_0
                      try clear hx229_0
                      try clear p2
                      try clear p228
                      try clear p229
                      try clear q228
                      try clear q229
                      obtain ⟨kq, x162_55, rfl, HA, HJ55, HO_14, HO_15, HO_16, HO_17, HO_20, HO_21, HB⟩ := hcut
                      cases kq with
                      | zero => exact absurd HA.out (by simp [selvedgelaw14_ExplicitIsolates.j3])
                      | succ kj55 =>
                       have H := HA.out
                       clear HA
                       simp only [selvedgelaw14_ExplicitIsolates.j3] at H
                       by_cases c73 : x162_55 = true
                       ·subst c73
                        have H1 : ((selvedgelaw14_works.f kj55).bind fun t230 => (some t230)) = some r := by rw [if_pos rfl] at H; exact H
                        clear H
                        have H := H1
                        clear H1
                        replace H := Option.bind_eq_some_iff.mp H
                        obtain ⟨t230, A740, H⟩ := H
                        replace H : (some t230) = some r := H
                        have A74 := Aside0.mk A740
                        clear A740
                        obtain rfl := Option.some.inj H
                        go_wp2_with (first | (go_at_call 10; (with_reducible refine (selvedgelaw14_works.calls kj55  t230 _ A74.out).mono ?_); rintro e w75 ⟨rfl, hb⟩; have n0_ := Aside0.mk (Kd.R_below (mvR HO_14) hb); have n1_ := Aside0.mk (Kd.R_below (mvR HO_15) hb); have n2_ := Aside0.mk (Kd.R_below (mvR HO_16) hb); have n3_ := Aside0.mk (Kd.R_below (mvR HO_17) hb); have n4_ := Aside0.mk (Kd.R_below (mvR HO_20) hb); have n5_ := Aside0.mk (Kd.R_below (mvR HO_21) hb); have n6_ := Aside0.mk (below_step (mvB HB) hb); clear HO_14; clear HO_15; clear HO_16; clear HO_17; clear HO_20; clear HO_21; clear HB; have HO_14 := n0_; have HO_15 := n1_; have HO_16 := n2_; have HO_17 := n3_; have HO_20 := n4_; have HO_21 := n5_; have HB := n6_; clear n0_ n1_ n2_ n3_ n4_ n5_ n6_; (try clear hb); (try clear hb2); (try clear hk); (try clear hi)))
                        repeat (go_quiet (first | (go_at_call 10; (with_reducible refine (selvedgelaw14_works.calls kj55  t230 _ A74.out).mono ?_); rintro e w75 ⟨rfl, hb⟩; have n0_ := Aside0.mk (Kd.R_below (mvR HO_14) hb); have n1_ := Aside0.mk (Kd.R_below (mvR HO_15) hb); have n2_ := Aside0.mk (Kd.R_below (mvR HO_16) hb); have n3_ := Aside0.mk (Kd.R_below (mvR HO_17) hb); have n4_ := Aside0.mk (Kd.R_below (mvR HO_20) hb); have n5_ := Aside0.mk (Kd.R_below (mvR HO_21) hb); have n6_ := Aside0.mk (below_step (mvB HB) hb); clear HO_14; clear HO_15; clear HO_16; clear HO_17; clear HO_20; clear HO_21; clear HB; have HO_14 := n0_; have HO_15 := n1_; have HO_16 := n2_; have HO_17 := n3_; have HO_20 := n4_; have HO_21 := n5_; have HB := n6_; clear n0_ n1_ n2_ n3_ n4_ n5_ n6_; (try clear hb); (try clear hb2); (try clear hk); (try clear hi))); try go_wp2_with (first | (go_at_call 10; (with_reducible refine (selvedgelaw14_works.calls kj55  t230 _ A74.out).mono ?_); rintro e w75 ⟨rfl, hb⟩; have n0_ := Aside0.mk (Kd.R_below (mvR HO_14) hb); have n1_ := Aside0.mk (Kd.R_below (mvR HO_15) hb); have n2_ := Aside0.mk (Kd.R_below (mvR HO_16) hb); have n3_ := Aside0.mk (Kd.R_below (mvR HO_17) hb); have n4_ := Aside0.mk (Kd.R_below (mvR HO_20) hb); have n5_ := Aside0.mk (Kd.R_below (mvR HO_21) hb); have n6_ := Aside0.mk (below_step (mvB HB) hb); clear HO_14; clear HO_15; clear HO_16; clear HO_17; clear HO_20; clear HO_21; clear HB; have HO_14 := n0_; have HO_15 := n1_; have HO_16 := n2_; have HO_17 := n3_; have HO_20 := n4_; have HO_21 := n5_; have HB := n6_; clear n0_ n1_ n2_ n3_ n4_ n5_ n6_; (try clear hb); (try clear hb2); (try clear hk); (try clear hi))))
                        go_ret
                        exact ⟨by first | rfl | (simp [errW_none, errW_some] <;> rfl) | (simp [*, errW_none, errW_some] <;> rfl), mvB HB⟩
                       ·replace c73 := Bool.eq_false_iff.mpr c73
                        subst c73
                        have H1 : (selvedgelaw14_ExplicitIsolates.l0 kj55 l0 l3 y185 y188 t191 t192 t199 t200 0) = some r := by rw [if_neg (show ¬ (false = true) by decide)] at H; exact H
                        clear H
                        have H := H1
                        clear H1
                        have H' := Aside0.mk H
                        clear H
                        go_wp2
                        repeat (go_quiet (fail); try go_wp2)
                        go_loopg [30] kj55 (fun kq v30 w' => ∃ (x30_5 : Int), v30 = .int .i64 x30_5 ∧ Aside0 (selvedgelaw14_ExplicitIsolates.l0 kq l0 l3 y185 y188 t191 t192 t199 t200 x30_5 = some r) ∧ Aside0 (kq ≤ kj55) ∧ Aside0 (Kd.R (Kd.int .u8) 26 w' w.heap.size (fun k_ => some k_ ≠ ((.slice Ao44 y188.length co44) : Value).ownBlock ∧ some k_ ≠ (v197 : Value).ownBlock ∧ some k_ ≠ (v205 : Value).ownBlock) (.slice Ao42 y185.length co42) y185) ∧ Aside0 (Kd.R (Kd.int .u8) 26 w' w.heap.size (fun k_ => some k_ ≠ ((.slice Ao42 y185.length co42) : Value).ownBlock ∧ some k_ ≠ (v197 : Value).ownBlock ∧ some k_ ≠ (v205 : Value).ownBlock) (.slice Ao44 y188.length co44) y188) ∧ Aside0 (Kd.R (Kd.int .u8) 5 w' w.heap.size (fun k_ => some k_ ≠ (v203 : Value).ownBlock) v195 t191) ∧ Aside0 (Kd.R (Kd.int .u8) 26 w' w.heap.size (fun k_ => some k_ ≠ ((.slice Ao42 y185.length co42) : Value).ownBlock ∧ some k_ ≠ ((.slice Ao44 y188.length co44) : Value).ownBlock ∧ some k_ ≠ (v205 : Value).ownBlock) v197 t192) ∧ Aside0 (Kd.R (Kd.int .u8) 5 w' w.heap.size (fun k_ => some k_ ≠ (v195 : Value).ownBlock) v203 t199) ∧ Aside0 (Kd.R (Kd.int .u8) 26 w' w.heap.size (fun k_ => some k_ ≠ ((.slice Ao42 y185.length co42) : Value).ownBlock ∧ some k_ ≠ ((.slice Ao44 y188.length co44) : Value).ownBlock ∧ some k_ ≠ (v197 : Value).ownBlock) v205 t200) ∧ Aside0 (Below w.heap.size w w'))
                        case atStart => exact ⟨(0), (by first | rfl | (simp; done) | (simp [*]; done)), H', ⟨Nat.le_refl _⟩, ⟨mvR HO_14⟩, ⟨mvR HO_15⟩, ⟨mvR HO_16⟩, ⟨mvR HO_17⟩, ⟨mvR HO_20⟩, ⟨mvR HO_21⟩, ⟨mvB HB⟩⟩
                        case round =>
                         as_aux_lemma =>
                         clear H'
                         try clear c1
                         try clear c2
                         try clear p2
                         try clear q2
                         try clear hx2
                         try clear c3
                         try clear c4
                         try clear c5
                         try clear c6
                         try clear p6
                         try clear c7
                         try clear c8
                         try clear c8b0
                         try clear c8b1
                         try clear c9
                         try clear c9b0
                         try clear c9b1
                         try clear c10
                         try clear c10b0
                         try clear c10b1
                         try clear c11
                         try clear c11b0
                         try clear c11b1
                         try clear c13
                         try clear c15
                         try clear c19
                         try clear c20
                         try clear c21
                         try clear c22
                         try clear p22
                         try clear q22
                         try clear hx22
                         try clear c23
                         try clear c24
                         try clear c25
                         try clear c26
                         try clear c27
                         try clear c28
                         try clear c46
                         try clear c46b0
                         try clear c46b1
                         try clear c47
                         try clear c47b0
                         try clear c47b1
                         try clear c48
                         try clear c49
                         try clear c49b0
                         try clear c49b1
                         try clear c52
                         try clear c53
                         try clear c54
                         try clear p64
                         try clear c65
                         try clear c65b0
                         try clear c65b1
                         try clear c65b2
                         try clear c67
                         try clear c67b0
                         try clear c68
                         try clear c68b0
                         try clear c69
                         try clear c69b0
                         try clear c69b1
                         try clear c70
                         try clear c70b0
                         try clear c70b1
                         try clear c73
                         try clear hx228_0
                         try clear hx229_0
                         try clear p2
                         try clear p22
                         try clear p228
                         try clear p229
                         try clear p6
                         try clear p64
                         try clear q2
                         try clear q22
                         try clear q228
                         try clear q229
                         obtain ⟨x30_5, rfl, HA, HK5, HO_14, HO_15, HO_16, HO_17, HO_20, HO_21, HB⟩ := hrel
                         cases gk with
                         | zero => exact absurd HA.out (by simp [selvedgelaw14_ExplicitIsolates.l0])
                         | succ k5 =>
                          have H := HA.out
                          clear HA
                          simp only [selvedgelaw14_ExplicitIsolates.l0] at H
                          by_cases c76 : x30_5 ≤ (l0.length : Int)
                          ·rw [if_pos c76] at H
                           have c76b0 : decide (x30_5 ≤ (l0.length : Int)) = true := decide_eq_true c76
                           clear c76
                           by_cases c77 : 0 ≤ x30_5
                           ·rw [if_pos c77] at H
                            have c77b0 : decide (0 ≤ x30_5) = true := decide_eq_true c77
                            clear c77
                            by_cases c78 : x30_5 < (t191.length : Int)
                            ·rw [if_pos c78] at H
                             have c78b0 : decide (x30_5 < (t191.length : Int)) = true := decide_eq_true c78
                             clear c78
                             by_cases c79 : x30_5 < (t199.length : Int)
                             ·rw [if_pos c79] at H
                              have c79b0 : decide (x30_5 < (t199.length : Int)) = true := decide_eq_true c79
                              clear c79
                              by_cases c80 : (rd t191 x30_5) = (rd t199 x30_5)
                              ·rw [if_pos c80] at H
                               have c80b0 : ((rd t191 x30_5) == (rd t199 x30_5)) = true := beq_iff_eq.mpr c80
                               have c80b1 : ((rd t191 x30_5) != (rd t199 x30_5)) = false := bne_eq_false_iff_eq.mpr c80
                               clear c80
                               by_cases c81 : x30_5 < (t192.length : Int)
                               ·rw [if_pos c81] at H
                                have c81b0 : decide (x30_5 < (t192.length : Int)) = true := decide_eq_true c81
                                clear c81
                                by_cases c82 : x30_5 < (t200.length : Int)
                                ·rw [if_pos c82] at H
                                 have c82b0 : decide (x30_5 < (t200.length : Int)) = true := decide_eq_true c82
                                 clear c82
                                 by_cases c83 : (rd t192 x30_5) = (rd t200 x30_5)
                                 ·rw [if_pos c83] at H
                                  have c83b0 : ((rd t192 x30_5) == (rd t200 x30_5)) = true := beq_iff_eq.mpr c83
                                  have c83b1 : ((rd t192 x30_5) != (rd t200 x30_5)) = false := bne_eq_false_iff_eq.mpr c83
                                  clear c83
                                  have H' := Aside0.mk H
                                  clear H
                                  obtain ⟨Ao84, co84, eo84⟩ := Kd.R_slice HO_16.out
                                  subst eo84
                                  obtain ⟨ad231, e231, hx231_0, p231, q231⟩ := atI (Kd.R_reads' HO_16.out).2.2 x30_5
                                  cases e231
                                  obtain ⟨Ao85, co85, eo85⟩ := Kd.R_slice HO_20.out
                                  subst eo85
                                  obtain ⟨ad232, e232, hx232_0, p232, q232⟩ := atI (Kd.R_reads' HO_20.out).2.2 x30_5
                                  cases e232
                                  obtain ⟨Ao86, co86, eo86⟩ := Kd.R_slice HO_17.out
                                  subst eo86
                                  obtain ⟨ad233, e233, hx233_0, p233, q233⟩ := atI (Kd.R_reads' HO_17.out).2.2 x30_5
                                  cases e233
                                  obtain ⟨Ao87, co87, eo87⟩ := Kd.R_slice HO_21.out
                                  subst eo87
                                  obtain ⟨ad234, e234, hx234_0, p234, q234⟩ := atI (Kd.R_reads' HO_21.out).2.2 x30_5
                                  cases e234
                                  go_wp2
                                  repeat (go_quiet (fail); try go_wp2)
                                  go_roundg k5
                                  case measure => have := HJ6.out; have := HJ17.out; have := HJ30.out; have := HJ55.out; have := HK5.out; omega
                                  case rel => exact ⟨(wrap64 (x30_5 + 1)), (by first | rfl | (simp; done) | (simp [*]; done)), H', ⟨by have := HJ6.out; have := HJ17.out; have := HJ30.out; have := HJ55.out; have := HK5.out; omega⟩, ⟨mvR HO_14⟩, ⟨mvR HO_15⟩, ⟨mvR HO_16⟩, ⟨mvR HO_17⟩, ⟨mvR HO_20⟩, ⟨mvR HO_21⟩, ⟨mvB HB⟩⟩
                                 ·rw [if_neg c83] at H
                                  have c83b0 : ((rd t192 x30_5) == (rd t200 x30_5)) = false := beq_eq_false_iff_ne.mpr c83
                                  have c83b1 : ((rd t192 x30_5) != (rd t200 x30_5)) = true := bne_iff_ne.mpr c83
                                  obtain rfl := Option.some.inj H
                                  obtain ⟨Ao88, co88, eo88⟩ := Kd.R_slice HO_16.out
                                  subst eo88
                                  obtain ⟨ad231, e231, hx231_0, p231, q231⟩ := atI (Kd.R_reads' HO_16.out).2.2 x30_5
                                  cases e231
                                  obtain ⟨Ao89, co89, eo89⟩ := Kd.R_slice HO_20.out
                                  subst eo89
                                  obtain ⟨ad232, e232, hx232_0, p232, q232⟩ := atI (Kd.R_reads' HO_20.out).2.2 x30_5
                                  cases e232
                                  obtain ⟨Ao90, co90, eo90⟩ := Kd.R_slice HO_17.out
                                  subst eo90
                                  obtain ⟨ad233, e233, hx233_0, p233, q233⟩ := atI (Kd.R_reads' HO_17.out).2.2 x30_5
                                  cases e233
                                  obtain ⟨Ao91, co91, eo91⟩ := Kd.R_slice HO_21.out
                                  subst eo91
                                  obtain ⟨ad234, e234, hx234_0, p234, q234⟩ := atI (Kd.R_reads' HO_21.out).2.2 x30_5
                                  cases e234
                                  go_wp2
                                  repeat (go_quiet (fail); try go_wp2)
                                  go_ret
                                  exact ⟨by first | rfl | (simp [errW_none, errW_some] <;> rfl) | (simp [*, errW_none, errW_some] <;> rfl), mvB HB⟩
                                ·rw [if_neg c82] at H
                                 exact absurd H (by simp)
                               ·rw [if_neg c81] at H
                                exact absurd H (by simp)
                              ·rw [if_neg c80] at H
                               have c80b0 : ((rd t191 x30_5) == (rd t199 x30_5)) = false := beq_eq_false_iff_ne.mpr c80
                               have c80b1 : ((rd t191 x30_5) != (rd t199 x30_5)) = true := bne_iff_ne.mpr c80
                               obtain rfl := Option.some.inj H
                               obtain ⟨Ao92, co92, eo92⟩ := Kd.R_slice HO_16.out
                               subst eo92
                               obtain ⟨ad231, e231, hx231_0, p231, q231⟩ := atI (Kd.R_reads' HO_16.out).2.2 x30_5
                               cases e231
                               obtain ⟨Ao93, co93, eo93⟩ := Kd.R_slice HO_20.out
                               subst eo93
                               obtain ⟨ad232, e232, hx232_0, p232, q232⟩ := atI (Kd.R_reads' HO_20.out).2.2 x30_5
                               cases e232
                               go_wp2
                               repeat (go_quiet (fail); try go_wp2)
                               go_ret
                               exact ⟨by first | rfl | (simp [errW_none, errW_some] <;> rfl) | (simp [*, errW_none, errW_some] <;> rfl), mvB HB⟩
                             ·rw [if_neg c79] at H
                              exact absurd H (by simp)
                            ·rw [if_neg c78] at H
                             exact absurd H (by simp)
                           ·rw [if_neg c77] at H
                            exact absurd H (by simp)
                          ·rw [if_neg c76] at H
                           have c76b0 : decide (x30_5 ≤ (l0.length : Int)) = false := decide_eq_false c76
                           clear c76
                           have H' := Aside0.mk H
                           clear H
                           go_wp2
                           repeat (go_quiet (fail); try go_wp2)
                           go_loopg [31] k5 (fun kq v31 w' => ∃ (x31_6 : Int), v31 = .int .i64 x31_6 ∧ Aside0 (selvedgelaw14_ExplicitIsolates.l1 kq l3 y185 y188 t191 t192 t199 t200 x31_6 = some r) ∧ Aside0 (kq ≤ k5) ∧ Aside0 (Kd.R (Kd.int .u8) 26 w' w.heap.size (fun k_ => some k_ ≠ ((.slice Ao44 y188.length co44) : Value).ownBlock ∧ some k_ ≠ (v197 : Value).ownBlock ∧ some k_ ≠ (v205 : Value).ownBlock) (.slice Ao42 y185.length co42) y185) ∧ Aside0 (Kd.R (Kd.int .u8) 26 w' w.heap.size (fun k_ => some k_ ≠ ((.slice Ao42 y185.length co42) : Value).ownBlock ∧ some k_ ≠ (v197 : Value).ownBlock ∧ some k_ ≠ (v205 : Value).ownBlock) (.slice Ao44 y188.length co44) y188) ∧ Aside0 (Kd.R (Kd.int .u8) 5 w' w.heap.size (fun k_ => some k_ ≠ (v203 : Value).ownBlock) v195 t191) ∧ Aside0 (Kd.R (Kd.int .u8) 26 w' w.heap.size (fun k_ => some k_ ≠ ((.slice Ao42 y185.length co42) : Value).ownBlock ∧ some k_ ≠ ((.slice Ao44 y188.length co44) : Value).ownBlock ∧ some k_ ≠ (v205 : Value).ownBlock) v197 t192) ∧ Aside0 (Kd.R (Kd.int .u8) 5 w' w.heap.size (fun k_ => some k_ ≠ (v195 : Value).ownBlock) v203 t199) ∧ Aside0 (Kd.R (Kd.int .u8) 26 w' w.heap.size (fun k_ => some k_ ≠ ((.slice Ao42 y185.length co42) : Value).ownBlock ∧ some k_ ≠ ((.slice Ao44 y188.length co44) : Value).ownBlock ∧ some k_ ≠ (v197 : Value).ownBlock) v205 t200) ∧ Aside0 (Below w.heap.size w w'))
                           case atStart => exact ⟨(0), (by first | rfl | (simp; done) | (simp [*]; done)), H', ⟨Nat.le_refl _⟩, ⟨mvR HO_14⟩, ⟨mvR HO_15⟩, ⟨mvR HO_16⟩, ⟨mvR HO_17⟩, ⟨mvR HO_20⟩, ⟨mvR HO_21⟩, ⟨mvB HB⟩⟩
                           case round =>
                            as_aux_lemma =>
                            clear H'
                            try clear c1
                            try clear c2
                            try clear p2
                            try clear q2
                            try clear hx2
                            try clear c3
                            try clear c4
                            try clear c5
                            try clear c6
                            try clear p6
                            try clear c7
                            try clear c8
                            try clear c8b0
                            try clear c8b1
                            try clear c9
                            try clear c9b0
                            try clear c9b1
                            try clear c10
                            try clear c10b0
                            try clear c10b1
                            try clear c11
                            try clear c11b0
                            try clear c11b1
                            try clear c13
                            try clear c15
                            try clear c19
                            try clear c20
                            try clear c21
                            try clear c22
                            try clear p22
                            try clear q22
                            try clear hx22
                            try clear c23
                            try clear p23
                            try clear q23
                            try clear hx23
                            try clear c24
                            try clear c25
                            try clear c26
                            try clear c27
                            try clear c28
                            try clear c46
                            try clear c46b0
                            try clear c46b1
                            try clear c47
                            try clear c47b0
                            try clear c47b1
                            try clear c48
                            try clear c49
                            try clear c49b0
                            try clear c49b1
                            try clear c52
                            try clear c53
                            try clear c54
                            try clear p64
                            try clear c65
                            try clear c65b0
                            try clear c65b1
                            try clear c65b2
                            try clear c67
                            try clear c67b0
                            try clear c68
                            try clear c68b0
                            try clear c69
                            try clear c69b0
                            try clear c69b1
                            try clear c70
                            try clear c70b0
                            try clear c70b1
                            try clear c73
                            try clear c76
                            try clear c76b0
                            try clear c77
                            try clear c77b0
                            try clear c78
                            try clear c78b0
                            try clear c79
                            try clear c79b0
                            try clear c80
                            try clear c80b0
                            try clear c80b1
                            try clear c81
                            try clear c81b0
                            try clear c82
                            try clear c82b0
                            try clear c83
                            try clear c83b0
                            try clear c83b1
                            try clear hx228_0
                            try clear hx229_0
                            try clear hx231_0
                            try clear hx232_0
                            try clear hx233_0
                            try clear hx234_0
                            try clear p2
                            try clear p22
                            try clear p228
                            try clear p229
                            try clear p231
                            try clear p232
                            try clear p233
                            try clear p234
                            try clear p6
                            try clear p64
                            try clear q2
                            try clear q22
                            try clear q228
                            try clear q229
                            try clear q231
                            try clear q232
                            try clear q233
                            try clear q234
                            obtain ⟨x31_6, rfl, HA, HK6, HO_14, HO_15, HO_16, HO_17, HO_20, HO_21, HB⟩ := hrel
                            cases gk with
                            | zero => exact absurd HA.out (by simp [selvedgelaw14_ExplicitIsolates.l1])
                            | succ k6 =>
                             have H := HA.out
                             clear HA
                             simp only [selvedgelaw14_ExplicitIsolates.l1] at H
                             by_cases c94 : x31_6 ≤ (l3.length : Int)
                             ·rw [if_pos c94] at H
                              have c94b0 : decide (x31_6 ≤ (l3.length : Int)) = true := decide_eq_true c94
                              clear c94
                              obtain ⟨ji95, hji95⟩ : ∃ j_ : Int, (wrap64 ((wrap64 ((y185.length : Int) - 1)) - x31_6)) = j_ := ⟨_, rfl⟩
                              replace H : (if 0 ≤ (ji95) then (if (ji95) < (t191.length : Int) then (if 0 ≤ (wrap64 ((wrap64 ((y188.length : Int) - 1)) - x31_6)) then (if (wrap64 ((wrap64 ((y188.length : Int) - 1)) - x31_6)) < (t199.length : Int) then (if (rd t191 (ji95)) = (rd t199 (wrap64 ((wrap64 ((y188.length : Int) - 1)) - x31_6))) then (if (ji95) < (t192.length : Int) then (if (wrap64 ((wrap64 ((y188.length : Int) - 1)) - x31_6)) < (t200.length : Int) then (if (rd t192 (ji95)) = (rd t200 (wrap64 ((wrap64 ((y188.length : Int) - 1)) - x31_6))) then (selvedgelaw14_ExplicitIsolates.l1 k6 l3 y185 y188 t191 t192 t199 t200 (wrap64 (x31_6 + 1))) else (some false)) else (none)) else (none)) else (some false)) else (none)) else (none)) else (none)) else (none)) = some r := by first | (rw [hji95] at H; exact H) | (simp only [hji95] at H ⊢; exact H)
                              have hji95w : (IntKind.i64.wrap ((wrap64 ((y185.length : Int) - 1)) - x31_6)) = ji95 := (i64_w _).trans hji95
                              by_cases c96 : 0 ≤ (ji95)
                              ·rw [if_pos c96] at H
                               have c96b0 : decide (0 ≤ (ji95)) = true := decide_eq_true c96
                               clear c96
                               by_cases c97 : (ji95) < (t191.length : Int)
                               ·rw [if_pos c97] at H
                                have c97b0 : decide ((ji95) < (t191.length : Int)) = true := decide_eq_true c97
                                clear c97
                                obtain ⟨ji98, hji98⟩ : ∃ j_ : Int, (wrap64 ((wrap64 ((y188.length : Int) - 1)) - x31_6)) = j_ := ⟨_, rfl⟩
                                replace H : (if 0 ≤ (ji98) then (if (ji98) < (t199.length : Int) then (if (rd t191 (ji95)) = (rd t199 (ji98)) then (if (ji95) < (t192.length : Int) then (if (ji98) < (t200.length : Int) then (if (rd t192 (ji95)) = (rd t200 (ji98)) then (selvedgelaw14_ExplicitIsolates.l1 k6 l3 y185 y188 t191 t192 t199 t200 (wrap64 (x31_6 + 1))) else (some false)) else (none)) else (none)) else (some false)) else (none)) else (none)) = some r := by first | (rw [hji98] at H; exact H) | (simp only [hji98] at H ⊢; exact H)
                                have hji98w : (IntKind.i64.wrap ((wrap64 ((y188.length : Int) - 1)) - x31_6)) = ji98 := (i64_w _).trans hji98
                                by_cases c99 : 0 ≤ (ji98)
                                ·rw [if_pos c99] at H
                                 have c99b0 : decide (0 ≤ (ji98)) = true := decide_eq_true c99
                                 clear c99
                                 by_cases c100 : (ji98) < (t199.length : Int)
                                 ·rw [if_pos c100] at H
                                  have c100b0 : decide ((ji98) < (t199.length : Int)) = true := decide_eq_true c100
                                  clear c100
                                  by_cases c101 : (rd t191 (ji95)) = (rd t199 (ji98))
                                  ·rw [if_pos c101] at H
                                   have c101b0 : ((rd t191 (ji95)) == (rd t199 (ji98))) = true := beq_iff_eq.mpr c101
                                   have c101b1 : ((rd t191 (ji95)) != (rd t199 (ji98))) = false := bne_eq_false_iff_eq.mpr c101
                                   clear c101
                                   by_cases c102 : (ji95) < (t192.length : Int)
                                   ·rw [if_pos c102] at H
                                    have c102b0 : decide ((ji95) < (t192.length : Int)) = true := decide_eq_true c102
                                    clear c102
                                    by_cases c103 : (ji98) < (t200.length : Int)
                                    ·rw [if_pos c103] at H
                                     have c103b0 : decide ((ji98) < (t200.length : Int)) = true := decide_eq_true c103
                                     clear c103
                                     by_cases c104 : (rd t192 (ji95)) = (rd t200 (ji98))
                                     ·rw [if_pos c104] at H
                                      have c104b0 : ((rd t192 (ji95)) == (rd t200 (ji98))) = true := beq_iff_eq.mpr c104
                                      have c104b1 : ((rd t192 (ji95)) != (rd t200 (ji98))) = false := bne_eq_false_iff_eq.mpr c104
                                      clear c104
                                      have H' := Aside0.mk H
                                      clear H
                                      obtain ⟨Ao105, co105, eo105⟩ := Kd.R_slice HO_16.out
                                      subst eo105
                                      obtain ⟨ad235, e235, hx235_0, p235, q235⟩ := atI (Kd.R_reads' HO_16.out).2.2 (ji95)
                                      cases e235
                                      obtain ⟨Ao106, co106, eo106⟩ := Kd.R_slice HO_20.out
                                      subst eo106
                                      obtain ⟨ad236, e236, hx236_0, p236, q236⟩ := atI (Kd.R_reads' HO_20.out).2.2 (ji98)
                                      cases e236
                                      obtain ⟨Ao107, co107, eo107⟩ := Kd.R_slice HO_17.out
                                      subst eo107
                                      obtain ⟨ad237, e237, hx237_0, p237, q237⟩ := atI (Kd.R_reads' HO_17.out).2.2 (ji95)
                                      cases e237
                                      obtain ⟨Ao108, co108, eo108⟩ := Kd.R_slice HO_21.out
                                      subst eo108
                                      obtain ⟨ad238, e238, hx238_0, p238, q238⟩ := atI (Kd.R_reads' HO_21.out).2.2 (ji98)
                                      cases e238
                                      go_wp2
                                      repeat (go_quiet (fail); try go_wp2)
                                      go_roundg k6
                                      case measure => have := HJ6.out; have := HJ17.out; have := HJ30.out; have := HJ55.out; have := HK5.out; have := HK6.out; omega
                                      case rel => exact ⟨(wrap64 (x31_6 + 1)), (by first | rfl | (simp; done) | (simp [*]; done)), H', ⟨by have := HJ6.out; have := HJ17.out; have := HJ30.out; have := HJ55.out; have := HK5.out; have := HK6.out; omega⟩, ⟨mvR HO_14⟩, ⟨mvR HO_15⟩, ⟨mvR HO_16⟩, ⟨mvR HO_17⟩, ⟨mvR HO_20⟩, ⟨mvR HO_21⟩, ⟨mvB HB⟩⟩
                                     ·rw [if_neg c104] at H
                                      have c104b0 : ((rd t192 (ji95)) == (rd t200 (ji98))) = false := beq_eq_false_iff_ne.mpr c104
                                      have c104b1 : ((rd t192 (ji95)) != (rd t200 (ji98))) = true := bne_iff_ne.mpr c104
                                      obtain rfl := Option.some.inj H
                                      obtain ⟨Ao109, co109, eo109⟩ := Kd.R_slice HO_16.out
                                      subst eo109
                                      obtain ⟨ad235, e235, hx235_0, p235, q235⟩ := atI (Kd.R_reads' HO_16.out).2.2 (ji95)
                                      cases e235
                                      obtain ⟨Ao110, co110, eo110⟩ := Kd.R_slice HO_20.out
                                      subst eo110
                                      obtain ⟨ad236, e236, hx236_0, p236, q236⟩ := atI (Kd.R_reads' HO_20.out).2.2 (ji98)
                                      cases e236
                                      obtain ⟨Ao111, co111, eo111⟩ := Kd.R_slice HO_17.out
                                      subst eo111
                                      obtain ⟨ad237, e237, hx237_0, p237, q237⟩ := atI (Kd.R_reads' HO_17.out).2.2 (ji95)
                                      cases e237
                                      obtain ⟨Ao112, co112, eo112⟩ := Kd.R_slice HO_21.out
                                      subst eo112
                                      obtain ⟨ad238, e238, hx238_0, p238, q238⟩ := atI (Kd.R_reads' HO_21.out).2.2 (ji98)
                                      cases e238
                                      go_wp2
                                      repeat (go_quiet (fail); try go_wp2)
                                      go_ret
                                      exact ⟨by first | rfl | (simp [errW_none, errW_some] <;> rfl) | (simp only [← hji95, ← hji98]; first | rfl | (simp [errW_none, errW_some] <;> rfl)) | (simp [*, errW_none, errW_some] <;> rfl), mvB HB⟩
                                    ·rw [if_neg c103] at H
                                     exact absurd H (by simp)
                                   ·rw [if_neg c102] at H
                                    exact absurd H (by simp)
                                  ·rw [if_neg c101] at H
                                   have c101b0 : ((rd t191 (ji95)) == (rd t199 (ji98))) = false := beq_eq_false_iff_ne.mpr c101
                                   have c101b1 : ((rd t191 (ji95)) != (rd t199 (ji98))) = true := bne_iff_ne.mpr c101
                                   obtain rfl := Option.some.inj H
                                   obtain ⟨Ao113, co113, eo113⟩ := Kd.R_slice HO_16.out
                                   subst eo113
                                   obtain ⟨ad235, e235, hx235_0, p235, q235⟩ := atI (Kd.R_reads' HO_16.out).2.2 (ji95)
                                   cases e235
                                   obtain ⟨Ao114, co114, eo114⟩ := Kd.R_slice HO_20.out
                                   subst eo114
                                   obtain ⟨ad236, e236, hx236_0, p236, q236⟩ := atI (Kd.R_reads' HO_20.out).2.2 (ji98)
                                   cases e236
                                   go_wp2
                                   repeat (go_quiet (fail); try go_wp2)
                                   go_ret
                                   exact ⟨by first | rfl | (simp [errW_none, errW_some] <;> rfl) | (simp only [← hji95, ← hji98]; first | rfl | (simp [errW_none, errW_some] <;> rfl)) | (simp [*, errW_none, errW_some] <;> rfl), mvB HB⟩
                                 ·rw [if_neg c100] at H
                                  exact absurd H (by simp)
                                ·rw [if_neg c99] at H
                                 exact absurd H (by simp)
                               ·rw [if_neg c97] at H
                                exact absurd H (by simp)
                              ·rw [if_neg c96] at H
                               exact absurd H (by simp)
                             ·rw [if_neg c94] at H
                              have c94b0 : decide (x31_6 ≤ (l3.length : Int)) = false := decide_eq_false c94
                              clear c94
                              replace H := Option.bind_eq_some_iff.mp H
                              obtain ⟨t239, A1150, H⟩ := H
                              replace H : (some t239) = some r := H
                              have A115 := Aside0.mk A1150
                              clear A1150
                              obtain rfl := Option.some.inj H
                              go_wp2_with (first | (go_at_call 10; (with_reducible refine (selvedgelaw14_works.calls k6  t239 _ A115.out).mono ?_); rintro e w116 ⟨rfl, hb⟩; have n0_ := Aside0.mk (Kd.R_below (mvR HO_14) hb); have n1_ := Aside0.mk (Kd.R_below (mvR HO_15) hb); have n2_ := Aside0.mk (Kd.R_below (mvR HO_16) hb); have n3_ := Aside0.mk (Kd.R_below (mvR HO_17) hb); have n4_ := Aside0.mk (Kd.R_below (mvR HO_20) hb); have n5_ := Aside0.mk (Kd.R_below (mvR HO_21) hb); have n6_ := Aside0.mk (below_step (mvB HB) hb); clear HO_14; clear HO_15; clear HO_16; clear HO_17; clear HO_20; clear HO_21; clear HB; have HO_14 := n0_; have HO_15 := n1_; have HO_16 := n2_; have HO_17 := n3_; have HO_20 := n4_; have HO_21 := n5_; have HB := n6_; clear n0_ n1_ n2_ n3_ n4_ n5_ n6_; (try clear hb); (try clear hb2); (try clear hk); (try clear hi)))
                              repeat (go_quiet (first | (go_at_call 10; (with_reducible refine (selvedgelaw14_works.calls k6  t239 _ A115.out).mono ?_); rintro e w116 ⟨rfl, hb⟩; have n0_ := Aside0.mk (Kd.R_below (mvR HO_14) hb); have n1_ := Aside0.mk (Kd.R_below (mvR HO_15) hb); have n2_ := Aside0.mk (Kd.R_below (mvR HO_16) hb); have n3_ := Aside0.mk (Kd.R_below (mvR HO_17) hb); have n4_ := Aside0.mk (Kd.R_below (mvR HO_20) hb); have n5_ := Aside0.mk (Kd.R_below (mvR HO_21) hb); have n6_ := Aside0.mk (below_step (mvB HB) hb); clear HO_14; clear HO_15; clear HO_16; clear HO_17; clear HO_20; clear HO_21; clear HB; have HO_14 := n0_; have HO_15 := n1_; have HO_16 := n2_; have HO_17 := n3_; have HO_20 := n4_; have HO_21 := n5_; have HB := n6_; clear n0_ n1_ n2_ n3_ n4_ n5_ n6_; (try clear hb); (try clear hb2); (try clear hk); (try clear hi))); try go_wp2_with (first | (go_at_call 10; (with_reducible refine (selvedgelaw14_works.calls k6  t239 _ A115.out).mono ?_); rintro e w116 ⟨rfl, hb⟩; have n0_ := Aside0.mk (Kd.R_below (mvR HO_14) hb); have n1_ := Aside0.mk (Kd.R_below (mvR HO_15) hb); have n2_ := Aside0.mk (Kd.R_below (mvR HO_16) hb); have n3_ := Aside0.mk (Kd.R_below (mvR HO_17) hb); have n4_ := Aside0.mk (Kd.R_below (mvR HO_20) hb); have n5_ := Aside0.mk (Kd.R_below (mvR HO_21) hb); have n6_ := Aside0.mk (below_step (mvB HB) hb); clear HO_14; clear HO_15; clear HO_16; clear HO_17; clear HO_20; clear HO_21; clear HB; have HO_14 := n0_; have HO_15 := n1_; have HO_16 := n2_; have HO_17 := n3_; have HO_20 := n4_; have HO_21 := n5_; have HB := n6_; clear n0_ n1_ n2_ n3_ n4_ n5_ n6_; (try clear hb); (try clear hb2); (try clear hk); (try clear hi))))
                              go_ret
                              exact ⟨by first | rfl | (simp [errW_none, errW_some] <;> rfl) | (simp [*, errW_none, errW_some] <;> rfl), mvB HB⟩
                    ·rw [if_neg c54] at H
                     exact absurd H (by simp)
                   ·rw [if_neg c53] at H
                    exact absurd H (by simp)
                  ·rw [if_neg c52] at H
                   exact absurd H (by simp)
              ·rw [if_neg c28] at H
               exact absurd H (by simp)
             ·rw [if_neg c27] at H
              exact absurd H (by simp)
            ·rw [if_neg c26] at H
             exact absurd H (by simp)
           ·rw [if_neg c25] at H
            exact absurd H (by simp)
          ·rw [if_neg c24] at H
           exact absurd H (by simp)
         ·rw [if_neg c23] at H
          exact absurd H (by simp)
        ·rw [if_neg c22] at H
         exact absurd H (by simp)
       ·rw [if_neg c21] at H
        exact absurd H (by simp)
      ·rw [if_neg c20] at H
       exact absurd H (by simp)

/-- THE ONE PURE STATEMENT of selvedgelaw14_ExplicitIsolates: yours. -/
def selvedgelaw14_ExplicitIsolates.Pure : Prop := ∀ (l0 : List Int) (l1 : List Int) (l2 : List Int) (l3 : List Int) (a4 : Bool) (a5 : Int), l0.length ≤ maxLen → l0.length * 1 ≤ 140737488351232 → (∀ x ∈ l0, (Lit.int .u8 x).wf = true) → l1.length ≤ maxLen → l1.length * 1 ≤ 140737488351232 → (∀ x ∈ l1, (Lit.int .u8 x).wf = true) → l2.length ≤ maxLen → l2.length * 1 ≤ 140737488351232 → (∀ x ∈ l2, (Lit.int .u8 x).wf = true) → l3.length ≤ maxLen → l3.length * 1 ≤ 140737488351232 → (∀ x ∈ l3, (Lit.int .u8 x).wf = true) → (Lit.int .u8 a5).wf = true → ∃ k, selvedgelaw14_ExplicitIsolates.f k l0 l1 l2 l3 a4 a5 = some true
theorem selvedgelaw14_ExplicitIsolates.walk (P : selvedgelaw14_ExplicitIsolates.Pure) (a0 : Option Addr) (len0 cap0 : Nat) (z0 : List Int) (a1 : Option Addr) (len1 cap1 : Nat) (z1 : List Int) (a2 : Option Addr) (len2 cap2 : Nat) (z2 : List Int) (a3 : Option Addr) (len3 cap3 : Nat) (z3 : List Int) (a4 : Bool) (a5 : Int) (w : World) (w0 : (a0 = none ∧ len0 = 0 ∧ cap0 = 0 ∧ z0 = []) ∨ ∃ x, a0 = some x ∧ len0 ≤ cap0 ∧ cap0 ≤ maxLen ∧ z0.length = cap0 ∧ (∀ i, i < z0.length → w.cell? (x.add i) = some (.int .u8 (z0.getD i 0))) ∧ ∀ n ∈ z0, (Lit.int .u8 n).wf = true) (y0 : len0 * 1 ≤ 140737488351232) (w1 : (a1 = none ∧ len1 = 0 ∧ cap1 = 0 ∧ z1 = []) ∨ ∃ x, a1 = some x ∧ len1 ≤ cap1 ∧ cap1 ≤ maxLen ∧ z1.length = cap1 ∧ (∀ i, i < z1.length → w.cell? (x.add i) = some (.int .u8 (z1.getD i 0))) ∧ ∀ n ∈ z1, (Lit.int .u8 n).wf = true) (y1 : len1 * 1 ≤ 140737488351232) (w2 : (a2 = none ∧ len2 = 0 ∧ cap2 = 0 ∧ z2 = []) ∨ ∃ x, a2 = some x ∧ len2 ≤ cap2 ∧ cap2 ≤ maxLen ∧ z2.length = cap2 ∧ (∀ i, i < z2.length → w.cell? (x.add i) = some (.int .u8 (z2.getD i 0))) ∧ ∀ n ∈ z2, (Lit.int .u8 n).wf = true) (y2 : len2 * 1 ≤ 140737488351232) (w3 : (a3 = none ∧ len3 = 0 ∧ cap3 = 0 ∧ z3 = []) ∨ ∃ x, a3 = some x ∧ len3 ≤ cap3 ∧ cap3 ≤ maxLen ∧ z3.length = cap3 ∧ (∀ i, i < z3.length → w.cell? (x.add i) = some (.int .u8 (z3.getD i 0))) ∧ ∀ n ∈ z3, (Lit.int .u8 n).wf = true) (y3 : len3 * 1 ≤ 140737488351232) (w5 : (Lit.int .u8 a5).wf = true) :
  Calls Try.prog 5 #[.slice a0 len0 cap0, .slice a1 len1 cap1, .slice a2 len2 cap2, .slice a3 len3 cap3, .bool a4, .int .u8 a5] w fun e w' => e = .returned (.bool true) ∧ Below w.heap.size w w' := by
 obtain ⟨l0, rfl, hr0, hm0, hw0, hc0⟩ := ReadsInt.ofRowC w0
 obtain ⟨l1, rfl, hr1, hm1, hw1, hc1⟩ := ReadsInt.ofRowC w1
 obtain ⟨l2, rfl, hr2, hm2, hw2, hc2⟩ := ReadsInt.ofRowC w2
 obtain ⟨l3, rfl, hr3, hm3, hw3, hc3⟩ := ReadsInt.ofRowC w3
 obtain ⟨k, h⟩ := P l0 l1 l2 l3 a4 a5 hm0 y0 hw0 hm1 y1 hw1 hm2 y2 hw2 hm3 y3 hw3 w5
 refine (selvedgelaw14_ExplicitIsolates.calls k _ _ l0 _ _ l1 _ _ l2 _ _ l3 a4 a5 true w (Kd.C_of_reads (d := (0 : Int)) (h1 := fun _ => rfl) hr0) hc0 (Kd.C_of_reads (d := (0 : Int)) (h1 := fun _ => rfl) hr1) hc1 (Kd.C_of_reads (d := (0 : Int)) (h1 := fun _ => rfl) hr2) hc2 (Kd.C_of_reads (d := (0 : Int)) (h1 := fun _ => rfl) hr3) hc3 h).mono ?_
 rintro e w' ⟨rfl, hd⟩
 exact ⟨rfl, hd⟩

end Go.Proofs.Ytdkbkecnhebanaa.X
