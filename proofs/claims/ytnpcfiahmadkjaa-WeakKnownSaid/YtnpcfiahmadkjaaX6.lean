-- by xprint.py: the kit's printer over texts of this session
import Derived.Test.YtnpcfiahmadkjaaX0
import Derived.Test.YtnpcfiahmadkjaaX1
namespace Go.Proofs.Ytnpcfiahmadkjaa.X
open Go.RowKit Go.Proofs.YtnpcfiahmadkjaaW.PrintWords Go.Proofs.YtnpcfiahmadkjaaW.PrintLast Go.Proofs.YtnpcfiahmadkjaaW.PrintMore
attribute [local go_sem] max2_int min2_int max_two min_two max_three min_three max_four min_four   -- for this text's walks alone
set_option linter.unusedVariables false
set_option linter.unusedSimpArgs false

/-! ### selvedgelaw16_WeakEnds: function 4 -/
mutual
def selvedgelaw16_WeakEnds.j0 : Nat → List Int → List Int → Int → Option (Bool)
 | 0, _, _, _ => none
 | k + 1, x0, x5, x6 => selvedgelaw16_WeakEnds.l0 k x0 x5 x6 false 0
def selvedgelaw16_WeakEnds.l0 : Nat → List Int → List Int → Int → Bool → Int → Option (Bool)
 | 0, _, _, _, _, _ => none
 | k + 1, x0, x5, x6, x7, x8 => if x8 < (x0.length : Int) then (if 0 ≤ x8 then (if x8 < (x5.length : Int) then (if (rd x5 x8) = 3 then (selvedgelaw16_WeakEnds.j2 k x0 x5 x6 x7 x8 (rd x5 x8) ((rd x5 x8) == 3)) else (if (rd x5 x8) = 5 then (selvedgelaw16_WeakEnds.j2 k x0 x5 x6 x7 x8 (rd x5 x8) ((rd x5 x8) == 5)) else (if (rd x5 x8) = 6 then (selvedgelaw16_WeakEnds.j2 k x0 x5 x6 x7 x8 (rd x5 x8) ((rd x5 x8) == 6)) else (if (rd x5 x8) = 8 then (selvedgelaw16_WeakEnds.j2 k x0 x5 x6 x7 x8 (rd x5 x8) ((rd x5 x8) == 8)) else (selvedgelaw16_WeakEnds.j2 k x0 x5 x6 x7 x8 (rd x5 x8) ((rd x5 x8) == 9)))))) else (none)) else (none)) else ((selvedgelaw16_works.f k).bind fun t196 => (some t196))
def selvedgelaw16_WeakEnds.j3 : Nat → List Int → List Int → Int → Bool → Int → Option (Bool)
 | 0, _, _, _, _, _ => none
 | k + 1, x0, x5, x6, x7, x8 => if 0 ≤ x8 then (if x8 < (x0.length : Int) then (if (rd x0 x8) = 1 then (selvedgelaw16_WeakEnds.j4 k x0 x5 x6 x7 x8 (rd x0 x8) ((rd x0 x8) == 1)) else (selvedgelaw16_WeakEnds.j4 k x0 x5 x6 x7 x8 (rd x0 x8) ((rd x0 x8) == 2))) else (none)) else (none)
def selvedgelaw16_WeakEnds.j4 : Nat → List Int → List Int → Int → Bool → Int → Int → Bool → Option (Bool)
 | 0, _, _, _, _, _, _, _ => none
 | k + 1, x0, x5, x6, x7, x8, x49, x59 => if x59 = true then (if 0 ≤ x8 then (if x8 < (x5.length : Int) then (if x8 < (x0.length : Int) then (if (rd x5 x8) = (rd x0 x8) then (selvedgelaw16_WeakEnds.l0 k x0 x5 (rd x0 x8) false (wrap64 (x8 + 1))) else (some false)) else (none)) else (none)) else (none)) else (if x49 = 3 then (if 0 ≤ x8 then (if x8 < (x5.length : Int) then (if (rd x5 x8) = 2 then (selvedgelaw16_WeakEnds.l0 k x0 x5 2 true (wrap64 (x8 + 1))) else (some false)) else (none)) else (none)) else (if x49 = 4 then (if 0 ≤ x8 then (if x8 < (x5.length : Int) then (if (x7 != ((rd x5 x8) == 7)) = true then (some false) else (if x7 = true then (selvedgelaw16_WeakEnds.l0 k x0 x5 x6 x7 (wrap64 (x8 + 1))) else (if (((rd x5 x8) == 1) != (x6 == 1)) = true then (some false) else (selvedgelaw16_WeakEnds.l0 k x0 x5 x6 x7 (wrap64 (x8 + 1)))))) else (none)) else (none)) else (if x49 = 5 then (selvedgelaw16_WeakEnds.j5 k x0 x5 x6 x7 x8 (x49 == 5)) else (if x49 = 6 then (selvedgelaw16_WeakEnds.j5 k x0 x5 x6 x7 x8 (x49 == 6)) else (if x49 = 8 then (selvedgelaw16_WeakEnds.j5 k x0 x5 x6 x7 x8 (x49 == 8)) else (selvedgelaw16_WeakEnds.j5 k x0 x5 x6 x7 x8 (x49 == 9)))))))
def selvedgelaw16_WeakEnds.j5 : Nat → List Int → List Int → Int → Bool → Int → Bool → Option (Bool)
 | 0, _, _, _, _, _, _ => none
 | k + 1, x0, x5, x6, x7, x8, x105 => if x105 = true then (selvedgelaw16_WeakEnds.l0 k x0 x5 x6 x7 (wrap64 (x8 + 1))) else (if 0 ≤ x8 then (if x8 < (x5.length : Int) then (if x8 < (x0.length : Int) then (if (rd x5 x8) = (rd x0 x8) then (selvedgelaw16_WeakEnds.l0 k x0 x5 x6 x7 (wrap64 (x8 + 1))) else (some false)) else (none)) else (none)) else (none))
def selvedgelaw16_WeakEnds.j2 : Nat → List Int → List Int → Int → Bool → Int → Int → Bool → Option (Bool)
 | 0, _, _, _, _, _, _, _ => none
 | k + 1, x0, x5, x6, x7, x8, x32, x33 => if x33 = true then (some false) else (if x32 = 4 then (if x6 = 1 then (some false) else (if x7 = true then (some false) else (selvedgelaw16_WeakEnds.j3 k x0 x5 x6 x7 x8))) else (selvedgelaw16_WeakEnds.j3 k x0 x5 x6 x7 x8))
end
def selvedgelaw16_WeakEnds.f (k : Nat) (l0 : List Int) (a1 : Int) : Option (Bool) := if (l0.length : Int) > 3000 then ((selvedgelaw16_works.f k).bind fun t192 => (some t192)) else ((weak_Resolve.f l0 a1).bind fun t193 => (if (t193.length : Int) = (l0.length : Int) then (if a1 = 2 then (selvedgelaw16_WeakEnds.j0 k l0 t193 2) else (selvedgelaw16_WeakEnds.j0 k l0 t193 1)) else (some false)))
theorem selvedgelaw16_WeakEnds.mono_l : ∀ k, (∀ y0 y1 y2, LeO (selvedgelaw16_WeakEnds.j0 k y0 y1 y2) (selvedgelaw16_WeakEnds.j0 (k + 1) y0 y1 y2)) ∧ (∀ y0 y1 y2 y3 y4, LeO (selvedgelaw16_WeakEnds.l0 k y0 y1 y2 y3 y4) (selvedgelaw16_WeakEnds.l0 (k + 1) y0 y1 y2 y3 y4)) ∧ (∀ y0 y1 y2 y3 y4, LeO (selvedgelaw16_WeakEnds.j3 k y0 y1 y2 y3 y4) (selvedgelaw16_WeakEnds.j3 (k + 1) y0 y1 y2 y3 y4)) ∧ (∀ y0 y1 y2 y3 y4 y5 y6, LeO (selvedgelaw16_WeakEnds.j4 k y0 y1 y2 y3 y4 y5 y6) (selvedgelaw16_WeakEnds.j4 (k + 1) y0 y1 y2 y3 y4 y5 y6)) ∧ (∀ y0 y1 y2 y3 y4 y5, LeO (selvedgelaw16_WeakEnds.j5 k y0 y1 y2 y3 y4 y5) (selvedgelaw16_WeakEnds.j5 (k + 1) y0 y1 y2 y3 y4 y5)) ∧ (∀ y0 y1 y2 y3 y4 y5 y6, LeO (selvedgelaw16_WeakEnds.j2 k y0 y1 y2 y3 y4 y5 y6) (selvedgelaw16_WeakEnds.j2 (k + 1) y0 y1 y2 y3 y4 y5 y6))
 | 0 => ⟨fun _ _ _ r h => by simp [selvedgelaw16_WeakEnds.j0] at h, fun _ _ _ _ _ r h => by simp [selvedgelaw16_WeakEnds.l0] at h, fun _ _ _ _ _ r h => by simp [selvedgelaw16_WeakEnds.j3] at h, fun _ _ _ _ _ _ _ r h => by simp [selvedgelaw16_WeakEnds.j4] at h, fun _ _ _ _ _ _ r h => by simp [selvedgelaw16_WeakEnds.j5] at h, fun _ _ _ _ _ _ _ r h => by simp [selvedgelaw16_WeakEnds.j2] at h⟩
 | k + 1 => by
  obtain ⟨ih0, ih1, ih2, ih3, ih4, ih5⟩ := selvedgelaw16_WeakEnds.mono_l k
  refine ⟨?_, ?_, ?_, ?_, ?_, ?_⟩
  ·intro y0 y1 y2
   unfold selvedgelaw16_WeakEnds.j0
   repeat' first
   | (with_reducible exact ih0 _ _ _)
   | (with_reducible exact ih1 _ _ _ _ _)
   | (with_reducible exact ih2 _ _ _ _ _)
   | (with_reducible exact ih3 _ _ _ _ _ _ _)
   | (with_reducible exact ih4 _ _ _ _ _ _)
   | (with_reducible exact ih5 _ _ _ _ _ _ _)
   | (with_reducible exact selvedgelaw16_works.mono _)
   | (with_reducible exact LeO.refl _)
   | (with_reducible exact LeO.none _)
   | (with_reducible refine LeO.ite ?_ ?_)
   | (with_reducible refine LeO.bind ?_ (fun _ => ?_))
   | exact ih0 _ _ _
   | exact ih1 _ _ _ _ _
   | exact ih2 _ _ _ _ _
   | exact ih3 _ _ _ _ _ _ _
   | exact ih4 _ _ _ _ _ _
   | exact ih5 _ _ _ _ _ _ _
   | exact selvedgelaw16_works.mono _
   | exact LeO.none _
   | refine LeO.ite ?_ ?_
   | refine LeO.bind ?_ (fun _ => ?_)
  ·intro y0 y1 y2 y3 y4
   unfold selvedgelaw16_WeakEnds.l0
   repeat' first
   | (with_reducible exact ih0 _ _ _)
   | (with_reducible exact ih1 _ _ _ _ _)
   | (with_reducible exact ih2 _ _ _ _ _)
   | (with_reducible exact ih3 _ _ _ _ _ _ _)
   | (with_reducible exact ih4 _ _ _ _ _ _)
   | (with_reducible exact ih5 _ _ _ _ _ _ _)
   | (with_reducible exact selvedgelaw16_works.mono _)
   | (with_reducible exact LeO.refl _)
   | (with_reducible exact LeO.none _)
   | (with_reducible refine LeO.ite ?_ ?_)
   | (with_reducible refine LeO.bind ?_ (fun _ => ?_))
   | exact ih0 _ _ _
   | exact ih1 _ _ _ _ _
   | exact ih2 _ _ _ _ _
   | exact ih3 _ _ _ _ _ _ _
   | exact ih4 _ _ _ _ _ _
   | exact ih5 _ _ _ _ _ _ _
   | exact selvedgelaw16_works.mono _
   | exact LeO.none _
   | refine LeO.ite ?_ ?_
   | refine LeO.bind ?_ (fun _ => ?_)
  ·intro y0 y1 y2 y3 y4
   unfold selvedgelaw16_WeakEnds.j3
   repeat' first
   | (with_reducible exact ih0 _ _ _)
   | (with_reducible exact ih1 _ _ _ _ _)
   | (with_reducible exact ih2 _ _ _ _ _)
   | (with_reducible exact ih3 _ _ _ _ _ _ _)
   | (with_reducible exact ih4 _ _ _ _ _ _)
   | (with_reducible exact ih5 _ _ _ _ _ _ _)
   | (with_reducible exact selvedgelaw16_works.mono _)
   | (with_reducible exact LeO.refl _)
   | (with_reducible exact LeO.none _)
   | (with_reducible refine LeO.ite ?_ ?_)
   | (with_reducible refine LeO.bind ?_ (fun _ => ?_))
   | exact ih0 _ _ _
   | exact ih1 _ _ _ _ _
   | exact ih2 _ _ _ _ _
   | exact ih3 _ _ _ _ _ _ _
   | exact ih4 _ _ _ _ _ _
   | exact ih5 _ _ _ _ _ _ _
   | exact selvedgelaw16_works.mono _
   | exact LeO.none _
   | refine LeO.ite ?_ ?_
   | refine LeO.bind ?_ (fun _ => ?_)
  ·intro y0 y1 y2 y3 y4 y5 y6
   unfold selvedgelaw16_WeakEnds.j4
   repeat' first
   | (with_reducible exact ih0 _ _ _)
   | (with_reducible exact ih1 _ _ _ _ _)
   | (with_reducible exact ih2 _ _ _ _ _)
   | (with_reducible exact ih3 _ _ _ _ _ _ _)
   | (with_reducible exact ih4 _ _ _ _ _ _)
   | (with_reducible exact ih5 _ _ _ _ _ _ _)
   | (with_reducible exact selvedgelaw16_works.mono _)
   | (with_reducible exact LeO.refl _)
   | (with_reducible exact LeO.none _)
   | (with_reducible refine LeO.ite ?_ ?_)
   | (with_reducible refine LeO.bind ?_ (fun _ => ?_))
   | exact ih0 _ _ _
   | exact ih1 _ _ _ _ _
   | exact ih2 _ _ _ _ _
   | exact ih3 _ _ _ _ _ _ _
   | exact ih4 _ _ _ _ _ _
   | exact ih5 _ _ _ _ _ _ _
   | exact selvedgelaw16_works.mono _
   | exact LeO.none _
   | refine LeO.ite ?_ ?_
   | refine LeO.bind ?_ (fun _ => ?_)
  ·intro y0 y1 y2 y3 y4 y5
   unfold selvedgelaw16_WeakEnds.j5
   repeat' first
   | (with_reducible exact ih0 _ _ _)
   | (with_reducible exact ih1 _ _ _ _ _)
   | (with_reducible exact ih2 _ _ _ _ _)
   | (with_reducible exact ih3 _ _ _ _ _ _ _)
   | (with_reducible exact ih4 _ _ _ _ _ _)
   | (with_reducible exact ih5 _ _ _ _ _ _ _)
   | (with_reducible exact selvedgelaw16_works.mono _)
   | (with_reducible exact LeO.refl _)
   | (with_reducible exact LeO.none _)
   | (with_reducible refine LeO.ite ?_ ?_)
   | (with_reducible refine LeO.bind ?_ (fun _ => ?_))
   | exact ih0 _ _ _
   | exact ih1 _ _ _ _ _
   | exact ih2 _ _ _ _ _
   | exact ih3 _ _ _ _ _ _ _
   | exact ih4 _ _ _ _ _ _
   | exact ih5 _ _ _ _ _ _ _
   | exact selvedgelaw16_works.mono _
   | exact LeO.none _
   | refine LeO.ite ?_ ?_
   | refine LeO.bind ?_ (fun _ => ?_)
  ·intro y0 y1 y2 y3 y4 y5 y6
   unfold selvedgelaw16_WeakEnds.j2
   repeat' first
   | (with_reducible exact ih0 _ _ _)
   | (with_reducible exact ih1 _ _ _ _ _)
   | (with_reducible exact ih2 _ _ _ _ _)
   | (with_reducible exact ih3 _ _ _ _ _ _ _)
   | (with_reducible exact ih4 _ _ _ _ _ _)
   | (with_reducible exact ih5 _ _ _ _ _ _ _)
   | (with_reducible exact selvedgelaw16_works.mono _)
   | (with_reducible exact LeO.refl _)
   | (with_reducible exact LeO.none _)
   | (with_reducible refine LeO.ite ?_ ?_)
   | (with_reducible refine LeO.bind ?_ (fun _ => ?_))
   | exact ih0 _ _ _
   | exact ih1 _ _ _ _ _
   | exact ih2 _ _ _ _ _
   | exact ih3 _ _ _ _ _ _ _
   | exact ih4 _ _ _ _ _ _
   | exact ih5 _ _ _ _ _ _ _
   | exact selvedgelaw16_works.mono _
   | exact LeO.none _
   | refine LeO.ite ?_ ?_
   | refine LeO.bind ?_ (fun _ => ?_)
theorem selvedgelaw16_WeakEnds.mono : ∀ a0 a1 k, LeO (selvedgelaw16_WeakEnds.f k a0 a1) (selvedgelaw16_WeakEnds.f (k + 1) a0 a1) := by
 intro a0 a1 k
 obtain ⟨ih0, ih1, ih2, ih3, ih4, ih5⟩ := selvedgelaw16_WeakEnds.mono_l k
 unfold selvedgelaw16_WeakEnds.f
 repeat' first
   | (with_reducible exact ih0 _ _ _)
   | (with_reducible exact ih1 _ _ _ _ _)
   | (with_reducible exact ih2 _ _ _ _ _)
   | (with_reducible exact ih3 _ _ _ _ _ _ _)
   | (with_reducible exact ih4 _ _ _ _ _ _)
   | (with_reducible exact ih5 _ _ _ _ _ _ _)
   | (with_reducible exact selvedgelaw16_works.mono _)
   | (with_reducible exact LeO.refl _)
   | (with_reducible exact LeO.none _)
   | (with_reducible refine LeO.ite ?_ ?_)
   | (with_reducible refine LeO.bind ?_ (fun _ => ?_))
   | exact ih0 _ _ _
   | exact ih1 _ _ _ _ _
   | exact ih2 _ _ _ _ _
   | exact ih3 _ _ _ _ _ _ _
   | exact ih4 _ _ _ _ _ _
   | exact ih5 _ _ _ _ _ _ _
   | exact selvedgelaw16_works.mono _
   | exact LeO.none _
   | refine LeO.ite ?_ ?_
   | refine LeO.bind ?_ (fun _ => ?_)
set_option maxHeartbeats 8000000 in
set_option maxRecDepth 100000 in
theorem selvedgelaw16_WeakEnds.calls (k : Nat) (A0 : Option Addr) (c0 : Nat) (l0 : List Int) (a1 : Int) (r : Bool) (w : World) (hr0 : Kd.C (Kd.int .u8) w A0 l0.length l0) (hc0 : l0.length ≤ c0) (h : selvedgelaw16_WeakEnds.f k l0 a1 = some r) :
  Calls Try.prog 4 #[.slice A0 l0.length c0, .int .u8 a1] w fun e w' => e = .returned (.bool r) ∧ Below w.heap.size w w' := by
 have HR0 := Aside0.mk hr0
 have HC0 := Aside0.mk hc0
 clear hr0 hc0
 have HB := Aside0.mk (Below.refl w.heap.size w)
 have H : (if (l0.length : Int) > 3000 then ((selvedgelaw16_works.f k).bind fun t192 => (some t192)) else ((weak_Resolve.f l0 a1).bind fun t193 => (if (t193.length : Int) = (l0.length : Int) then (if a1 = 2 then (selvedgelaw16_WeakEnds.j0 k l0 t193 2) else (selvedgelaw16_WeakEnds.j0 k l0 t193 1)) else (some false)))) = some r := h
 clear h
 by_cases c3 : (l0.length : Int) > 3000
 ·rw [if_pos c3] at H
  have c3b0 : decide (3000 < (l0.length : Int)) = true := decide_eq_true c3
  have c3b1 : decide (3000 < l0.length) = true := decide_eq_true (by omega)
  clear c3
  replace H := Option.bind_eq_some_iff.mp H
  obtain ⟨t192, A40, H⟩ := H
  replace H : (some t192) = some r := H
  have A4 := Aside0.mk A40
  clear A40
  obtain rfl := Option.some.inj H
  go_enter Try.func4, Try.ntmps4
  go_wp2_with (first | (go_at_call 9; (with_reducible refine (selvedgelaw16_works.calls k  t192 _ A4.out).mono ?_); rintro e w5 ⟨rfl, hb⟩; have n0_ := Aside0.mk (below_step (mvB HB) hb); clear HB; have HB := n0_; clear n0_; (try clear hb); (try clear hb2); (try clear hk); (try clear hi)))
  repeat (go_quiet (first | (go_at_call 9; (with_reducible refine (selvedgelaw16_works.calls k  t192 _ A4.out).mono ?_); rintro e w5 ⟨rfl, hb⟩; have n0_ := Aside0.mk (below_step (mvB HB) hb); clear HB; have HB := n0_; clear n0_; (try clear hb); (try clear hb2); (try clear hk); (try clear hi))); try go_wp2_with (first | (go_at_call 9; (with_reducible refine (selvedgelaw16_works.calls k  t192 _ A4.out).mono ?_); rintro e w5 ⟨rfl, hb⟩; have n0_ := Aside0.mk (below_step (mvB HB) hb); clear HB; have HB := n0_; clear n0_; (try clear hb); (try clear hb2); (try clear hk); (try clear hi))))
  go_ret
  exact ⟨by first | rfl | (simp [errW_none, errW_some] <;> rfl) | (simp [*, errW_none, errW_some] <;> rfl), mvB HB⟩
 ·rw [if_neg c3] at H
  have c3b0 : decide (3000 < (l0.length : Int)) = false := decide_eq_false c3
  have c3b1 : decide (3000 < l0.length) = false := decide_eq_false (by omega)
  clear c3
  replace H := Option.bind_eq_some_iff.mp H
  obtain ⟨t193, A60, H⟩ := H
  replace H : (if (t193.length : Int) = (l0.length : Int) then (if a1 = 2 then (selvedgelaw16_WeakEnds.j0 k l0 t193 2) else (selvedgelaw16_WeakEnds.j0 k l0 t193 1)) else (some false)) = some r := H
  have A6 := Aside0.mk A60
  clear A60
  by_cases c7 : (t193.length : Int) = (l0.length : Int)
  ·rw [if_pos c7] at H
   have c7b0 : ((t193.length : Int) == (l0.length : Int)) = true := beq_iff_eq.mpr c7
   have c7b1 : ((t193.length : Int) != (l0.length : Int)) = false := bne_eq_false_iff_eq.mpr c7
   have c7b2 : (t193.length == l0.length) = true := by first | simpa using c7 | (simp at c7 ⊢; omega)
   clear c7
   have HC8 := Aside0.mk H
   clear H
   go_enter Try.func4, Try.ntmps4
   go_upto_if 22 with (first | (go_at_call 12; (with_reducible refine (weak_Resolve.calls _ _ l0 a1 t193 _ ?side1 ?side2 A6.out).mono ?_); (case side1 => repeat (first | exact HR0.out | (with_reducible refine Kd.C_alloc ?_ _) | (with_reducible refine Kd.C_drewN ?_ _) | (with_reducible refine Kd.C_drew ?_))); (case side2 => exact HC0.out); rintro e w9 ⟨v194, rfl, ho0, hb⟩; have n0_ := Aside0.mk (Kd.R_lower ho0 (below_size (mvB HB))); have n1_ := Aside0.mk (below_step (mvB HB) hb); clear HB; have HO195 := n0_; have HB := n1_; clear n0_ n1_; (try clear hb); (try clear hb2); (try clear hk); (try clear hi); (try clear ho0); obtain ⟨Ao10, co10, eo10⟩ := Kd.R_slice HO195.out; subst eo10))
   repeat (go_quiet (first | (go_at_call 12; (with_reducible refine (weak_Resolve.calls _ _ l0 a1 t193 _ ?side1 ?side2 A6.out).mono ?_); (case side1 => repeat (first | exact HR0.out | (with_reducible refine Kd.C_alloc ?_ _) | (with_reducible refine Kd.C_drewN ?_ _) | (with_reducible refine Kd.C_drew ?_))); (case side2 => exact HC0.out); rintro e w9 ⟨v194, rfl, ho0, hb⟩; have n0_ := Aside0.mk (Kd.R_lower ho0 (below_size (mvB HB))); have n1_ := Aside0.mk (below_step (mvB HB) hb); clear HB; have HO195 := n0_; have HB := n1_; clear n0_ n1_; (try clear hb); (try clear hb2); (try clear hk); (try clear hi); (try clear ho0); obtain ⟨Ao10, co10, eo10⟩ := Kd.R_slice HO195.out; subst eo10)); go_upto_if 22 with (first | (go_at_call 12; (with_reducible refine (weak_Resolve.calls _ _ l0 a1 t193 _ ?side1 ?side2 A6.out).mono ?_); (case side1 => repeat (first | exact HR0.out | (with_reducible refine Kd.C_alloc ?_ _) | (with_reducible refine Kd.C_drewN ?_ _) | (with_reducible refine Kd.C_drew ?_))); (case side2 => exact HC0.out); rintro e w9 ⟨v194, rfl, ho0, hb⟩; have n0_ := Aside0.mk (Kd.R_lower ho0 (below_size (mvB HB))); have n1_ := Aside0.mk (below_step (mvB HB) hb); clear HB; have HO195 := n0_; have HB := n1_; clear n0_ n1_; (try clear hb); (try clear hb2); (try clear hk); (try clear hi); (try clear ho0); obtain ⟨Ao10, co10, eo10⟩ := Kd.R_slice HO195.out; subst eo10)))
   (try simp only [Act.put, List.setIfInBounds_toArray, List.set_cons_zero, List.set_cons_succ])
   go_cut [6] (fun v6 wc => ∃ (kq : Nat) (x6_7 : Int), v6 = .int .u8 x6_7 ∧ Aside0 (selvedgelaw16_WeakEnds.j0 kq l0 t193 x6_7 = some r) ∧ Aside0 (kq ≤ k) ∧ Aside0 (Kd.R (Kd.int .u8) 23 wc w.heap.size (fun _ => True) (.slice Ao10 t193.length co10) t193) ∧ Aside0 (Below w.heap.size w wc))
   case first =>
    have H := HC8.out
    clear HC8
    by_cases c11 : a1 = 2
    ·rw [if_pos c11] at H
     have c11b0 : (a1 == 2) = true := beq_iff_eq.mpr c11
     have c11b1 : (a1 != 2) = false := bne_eq_false_iff_eq.mpr c11
     clear c11
     (first | rw [c11b0] | (simp only [i64_w, i32_w]; rw [c11b0]) | skip)
     have H' := Aside0.mk H
     clear H
     go_wp2
     repeat (go_quiet (fail); try go_wp2)
     go_meet
     case rel => exact ⟨_, (2), (by first | rfl | (simp; done) | (simp [*]; done)), H', ⟨by first | omega | exact Nat.le_refl _⟩, ⟨mvR HO195⟩, ⟨mvB HB⟩⟩
    ·rw [if_neg c11] at H
     have c11b0 : (a1 == 2) = false := beq_eq_false_iff_ne.mpr c11
     have c11b1 : (a1 != 2) = true := bne_iff_ne.mpr c11
     (first | rw [c11b0] | (simp only [i64_w, i32_w]; rw [c11b0]) | skip)
     have H' := Aside0.mk H
     clear H
     go_wp2
     repeat (go_quiet (fail); try go_wp2)
     go_meet
     case rel => exact ⟨_, (1), (by first | rfl | (simp; done) | (simp [*]; done)), H', ⟨by first | omega | exact Nat.le_refl _⟩, ⟨mvR HO195⟩, ⟨mvB HB⟩⟩
   case rest =>
    clear HC8
    try clear c1
    try clear p2
    try clear c3
    try clear c3b0
    try clear c3b1
    try clear c4
    try clear c7
    try clear c7b0
    try clear c7b1
    try clear c7b2
    try clear c11
    try clear c11b0
    try clear c11b1
    obtain ⟨kq, x6_7, rfl, HA, HJ7, HO_5, HB⟩ := hcut
    cases kq with
    | zero => exact absurd HA.out (by simp [selvedgelaw16_WeakEnds.j0])
    | succ kj7 =>
     have H := HA.out
     clear HA
     simp only [selvedgelaw16_WeakEnds.j0] at H
     have H' := Aside0.mk H
     clear H
     go_wp2
     repeat (go_quiet (fail); try go_wp2)
     go_loopg [6, 7, 8] kj7 (fun kq v6 v7 v8 w' => ∃ (x6_2 : Int) (x7_2 : Bool) (x8_2 : Int), v6 = .int .u8 x6_2 ∧ v7 = .bool x7_2 ∧ v8 = .int .i64 x8_2 ∧ Aside0 (selvedgelaw16_WeakEnds.l0 kq l0 t193 x6_2 x7_2 x8_2 = some r) ∧ Aside0 (kq ≤ kj7) ∧ Aside0 (Kd.R (Kd.int .u8) 23 w' w.heap.size (fun _ => True) (.slice Ao10 t193.length co10) t193) ∧ Aside0 (Below w.heap.size w w'))
     case atStart => exact ⟨(x6_7), (false), (0), (by first | rfl | (simp; done) | (simp [*]; done)), (by first | rfl | (simp; done) | (simp [*]; done)), (by first | rfl | (simp; done) | (simp [*]; done)), H', ⟨Nat.le_refl _⟩, ⟨mvR HO_5⟩, ⟨mvB HB⟩⟩
     case round =>
      clear H'
      try clear c1
      try clear p2
      try clear c3
      try clear c3b0
      try clear c3b1
      try clear c4
      try clear c7
      try clear c7b0
      try clear c7b1
      try clear c7b2
      try clear c11
      try clear c11b0
      try clear c11b1
      try clear p2
      obtain ⟨x6_2, x7_2, x8_2, rfl, rfl, rfl, HA, HK2, HO_5, HB⟩ := hrel
      cases gk with
      | zero => exact absurd HA.out (by simp [selvedgelaw16_WeakEnds.l0])
      | succ k2 =>
       have H := HA.out
       clear HA
       simp only [selvedgelaw16_WeakEnds.l0] at H
       by_cases c12 : x8_2 < (l0.length : Int)
       ·rw [if_pos c12] at H
        have c12b0 : decide (x8_2 < (l0.length : Int)) = true := decide_eq_true c12
        clear c12
        by_cases c13 : 0 ≤ x8_2
        ·rw [if_pos c13] at H
         have c13b0 : decide (0 ≤ x8_2) = true := decide_eq_true c13
         clear c13
         by_cases c14 : x8_2 < (t193.length : Int)
         ·rw [if_pos c14] at H
          have c14b0 : decide (x8_2 < (t193.length : Int)) = true := decide_eq_true c14
          clear c14
          have HC15 := Aside0.mk H
          clear H
          obtain ⟨ad197, e197, hx197_0, p197, q197⟩ := atI (Kd.R_reads' HO_5.out).2.2 x8_2
          cases e197
          go_upto_block 2 with (fail)
          repeat (go_quiet (fail); go_upto_block 2 with (fail))
          go_cut [] (fun wc => ∃ (kq : Nat), Aside0 (selvedgelaw16_WeakEnds.j3 kq l0 t193 x6_2 x7_2 x8_2 = some r) ∧ Aside0 (kq ≤ k2) ∧ Aside0 (Kd.R (Kd.int .u8) 23 wc w.heap.size (fun _ => True) (.slice (some ad197) t193.length co10) t193) ∧ Aside0 (Below w.heap.size w wc))
          case first =>
           have H := HC15.out
           clear HC15
           have HC16 := Aside0.mk H
           clear H
           go_upto_if 33 with (fail)
           repeat (go_quiet (fail); go_upto_if 33 with (fail))
           go_cut [33] (fun v33 wc => ∃ (kq : Nat) (x33_15 : Bool), v33 = .bool x33_15 ∧ Aside0 (selvedgelaw16_WeakEnds.j2 kq l0 t193 x6_2 x7_2 x8_2 (rd t193 x8_2) x33_15 = some r) ∧ Aside0 (kq ≤ k2) ∧ Aside0 (Kd.R (Kd.int .u8) 23 wc w.heap.size (fun _ => True) (.slice (some ad197) t193.length co10) t193) ∧ Aside0 (Below w.heap.size w wc))
           case first =>
            have H := HC16.out
            clear HC16
            by_cases c17 : (rd t193 x8_2) = 3
            ·rw [if_pos c17] at H
             have c17b0 : ((rd t193 x8_2) == 3) = true := beq_iff_eq.mpr c17
             have c17b1 : ((rd t193 x8_2) != 3) = false := bne_eq_false_iff_eq.mpr c17
             clear c17
             (first | rw [c17b0] | (simp only [i64_w, i32_w]; rw [c17b0]) | skip)
             have H' := Aside0.mk H
             clear H
             go_wp2
             repeat (go_quiet (fail); try go_wp2)
             go_meet
             case rel => exact ⟨_, (((rd t193 x8_2) == 3)), (by first | rfl | (simp; done) | (simp [*]; done)), H', ⟨by have := HJ7.out; have := HK2.out; first | omega | exact Nat.le_refl _⟩, ⟨mvR HO_5⟩, ⟨mvB HB⟩⟩
            ·rw [if_neg c17] at H
             have c17b0 : ((rd t193 x8_2) == 3) = false := beq_eq_false_iff_ne.mpr c17
             have c17b1 : ((rd t193 x8_2) != 3) = true := bne_iff_ne.mpr c17
             (first | rw [c17b0] | (simp only [i64_w, i32_w]; rw [c17b0]) | skip)
             by_cases c18 : (rd t193 x8_2) = 5
             ·rw [if_pos c18] at H
              have c18b0 : ((rd t193 x8_2) == 5) = true := beq_iff_eq.mpr c18
              have c18b1 : ((rd t193 x8_2) != 5) = false := bne_eq_false_iff_eq.mpr c18
              clear c18
              have H' := Aside0.mk H
              clear H
              go_wp2
              repeat (go_quiet (fail); try go_wp2)
              go_meet
              case rel => exact ⟨_, (((rd t193 x8_2) == 5)), (by first | rfl | (simp; done) | (simp [*]; done)), H', ⟨by have := HJ7.out; have := HK2.out; first | omega | exact Nat.le_refl _⟩, ⟨mvR HO_5⟩, ⟨mvB HB⟩⟩
             ·rw [if_neg c18] at H
              have c18b0 : ((rd t193 x8_2) == 5) = false := beq_eq_false_iff_ne.mpr c18
              have c18b1 : ((rd t193 x8_2) != 5) = true := bne_iff_ne.mpr c18
              by_cases c19 : (rd t193 x8_2) = 6
              ·rw [if_pos c19] at H
               have c19b0 : ((rd t193 x8_2) == 6) = true := beq_iff_eq.mpr c19
               have c19b1 : ((rd t193 x8_2) != 6) = false := bne_eq_false_iff_eq.mpr c19
               clear c19
               have H' := Aside0.mk H
               clear H
               go_wp2
               repeat (go_quiet (fail); try go_wp2)
               go_meet
               case rel => exact ⟨_, (((rd t193 x8_2) == 6)), (by first | rfl | (simp; done) | (simp [*]; done)), H', ⟨by have := HJ7.out; have := HK2.out; first | omega | exact Nat.le_refl _⟩, ⟨mvR HO_5⟩, ⟨mvB HB⟩⟩
              ·rw [if_neg c19] at H
               have c19b0 : ((rd t193 x8_2) == 6) = false := beq_eq_false_iff_ne.mpr c19
               have c19b1 : ((rd t193 x8_2) != 6) = true := bne_iff_ne.mpr c19
               by_cases c20 : (rd t193 x8_2) = 8
               ·rw [if_pos c20] at H
                have c20b0 : ((rd t193 x8_2) == 8) = true := beq_iff_eq.mpr c20
                have c20b1 : ((rd t193 x8_2) != 8) = false := bne_eq_false_iff_eq.mpr c20
                clear c20
                have H' := Aside0.mk H
                clear H
                go_wp2
                repeat (go_quiet (fail); try go_wp2)
                go_meet
                case rel => exact ⟨_, (((rd t193 x8_2) == 8)), (by first | rfl | (simp; done) | (simp [*]; done)), H', ⟨by have := HJ7.out; have := HK2.out; first | omega | exact Nat.le_refl _⟩, ⟨mvR HO_5⟩, ⟨mvB HB⟩⟩
               ·rw [if_neg c20] at H
                have c20b0 : ((rd t193 x8_2) == 8) = false := beq_eq_false_iff_ne.mpr c20
                have c20b1 : ((rd t193 x8_2) != 8) = true := bne_iff_ne.mpr c20
                have H' := Aside0.mk H
                clear H
                go_wp2
                repeat (go_quiet (fail); try go_wp2)
                go_meet
                case rel => exact ⟨_, (((rd t193 x8_2) == 9)), (by first | rfl | (simp; done) | (simp [*]; done)), H', ⟨by have := HJ7.out; have := HK2.out; first | omega | exact Nat.le_refl _⟩, ⟨mvR HO_5⟩, ⟨mvB HB⟩⟩
           case rest =>
            clear HC16
            try clear c1
            try clear p1
            try clear q1
            try clear hx1
            try clear c2
            try clear p2
            try clear c3
            try clear c3b0
            try clear c3b1
            try clear c4
            try clear c7
            try clear c7b0
            try clear c7b1
            try clear c7b2
            try clear c11
            try clear c11b0
            try clear c11b1
            try clear c12
            try clear c12b0
            try clear c13
            try clear c13b0
            try clear c14
            try clear c14b0
            try clear c17
            try clear c17b0
            try clear c17b1
            try clear c18
            try clear c18b0
            try clear c18b1
            try clear c19
            try clear c19b0
            try clear c19b1
            try clear p19
            try clear q19
            try clear hx19
            try clear c20
            try clear c20b0
            try clear c20b1
            try clear hx197_0
            try clear p197
            try clear p2
            try clear q197
            obtain ⟨kq, x33_15, rfl, HA, HJ15, HO_5, HB⟩ := hcut
            cases kq with
            | zero => exact absurd HA.out (by simp [selvedgelaw16_WeakEnds.j2])
            | succ kj15 =>
             have H := HA.out
             clear HA
             simp only [selvedgelaw16_WeakEnds.j2] at H
             by_cases c21 : x33_15 = true
             ·subst c21
              have H1 : (some false) = some r := by rw [if_pos rfl] at H; exact H
              clear H
              have H := H1
              clear H1
              obtain rfl := Option.some.inj H
              go_wp2
              repeat (go_quiet (fail); try go_wp2)
              go_ret
              exact ⟨by first | rfl | (simp [errW_none, errW_some] <;> rfl) | (simp [*, errW_none, errW_some] <;> rfl), mvB HB⟩
             ·replace c21 := Bool.eq_false_iff.mpr c21
              subst c21
              have H1 : (if (rd t193 x8_2) = 4 then (if x6_2 = 1 then (some false) else (if x7_2 = true then (some false) else (selvedgelaw16_WeakEnds.j3 kj15 l0 t193 x6_2 x7_2 x8_2))) else (selvedgelaw16_WeakEnds.j3 kj15 l0 t193 x6_2 x7_2 x8_2)) = some r := by rw [if_neg (show ¬ (false = true) by decide)] at H; exact H
              clear H
              have H := H1
              clear H1
              by_cases c22 : (rd t193 x8_2) = 4
              ·rw [if_pos c22] at H
               have c22b0 : ((rd t193 x8_2) == 4) = true := beq_iff_eq.mpr c22
               have c22b1 : ((rd t193 x8_2) != 4) = false := bne_eq_false_iff_eq.mpr c22
               clear c22
               by_cases c23 : x6_2 = 1
               ·rw [if_pos c23] at H
                have c23b0 : (x6_2 == 1) = true := beq_iff_eq.mpr c23
                have c23b1 : (x6_2 != 1) = false := bne_eq_false_iff_eq.mpr c23
                clear c23
                obtain rfl := Option.some.inj H
                go_wp2
                repeat (go_quiet (fail); try go_wp2)
                go_ret
                exact ⟨by first | rfl | (simp [errW_none, errW_some] <;> rfl) | (simp [*, errW_none, errW_some] <;> rfl), mvB HB⟩
               ·rw [if_neg c23] at H
                have c23b0 : (x6_2 == 1) = false := beq_eq_false_iff_ne.mpr c23
                have c23b1 : (x6_2 != 1) = true := bne_iff_ne.mpr c23
                by_cases c24 : x7_2 = true
                ·subst c24
                 have H1 : (some false) = some r := by rw [if_pos rfl] at H; exact H
                 clear H
                 have H := H1
                 clear H1
                 obtain rfl := Option.some.inj H
                 go_wp2
                 repeat (go_quiet (fail); try go_wp2)
                 go_ret
                 exact ⟨by first | rfl | (simp [errW_none, errW_some] <;> rfl) | (simp [*, errW_none, errW_some] <;> rfl), mvB HB⟩
                ·replace c24 := Bool.eq_false_iff.mpr c24
                 subst c24
                 have H1 : (selvedgelaw16_WeakEnds.j3 kj15 l0 t193 x6_2 false x8_2) = some r := by rw [if_neg (show ¬ (false = true) by decide)] at H; exact H
                 clear H
                 have H := H1
                 clear H1
                 have H' := Aside0.mk H
                 clear H
                 go_wp2
                 repeat (go_quiet (fail); try go_wp2)
                 go_meet
                 case rel => exact ⟨_, H', ⟨by have := HJ7.out; have := HK2.out; have := HJ15.out; first | omega | exact Nat.le_refl _⟩, ⟨mvR HO_5⟩, ⟨mvB HB⟩⟩
              ·rw [if_neg c22] at H
               have c22b0 : ((rd t193 x8_2) == 4) = false := beq_eq_false_iff_ne.mpr c22
               have c22b1 : ((rd t193 x8_2) != 4) = true := bne_iff_ne.mpr c22
               have H' := Aside0.mk H
               clear H
               go_wp2
               repeat (go_quiet (fail); try go_wp2)
               go_meet
               case rel => exact ⟨_, H', ⟨by have := HJ7.out; have := HK2.out; have := HJ15.out; first | omega | exact Nat.le_refl _⟩, ⟨mvR HO_5⟩, ⟨mvB HB⟩⟩
          case rest =>
           clear HC15
           try clear c1
           try clear p1
           try clear q1
           try clear hx1
           try clear c2
           try clear p2
           try clear c3
           try clear c3b0
           try clear c3b1
           try clear c4
           try clear c7
           try clear c7b0
           try clear c7b1
           try clear c7b2
           try clear c11
           try clear c11b0
           try clear c11b1
           try clear c12
           try clear c12b0
           try clear c13
           try clear c13b0
           try clear c14
           try clear c14b0
           try clear c17
           try clear c17b0
           try clear c17b1
           try clear c18
           try clear c18b0
           try clear c18b1
           try clear c19
           try clear c19b0
           try clear c19b1
           try clear p19
           try clear q19
           try clear hx19
           try clear c20
           try clear c20b0
           try clear c20b1
           try clear c21
           try clear c22
           try clear c22b0
           try clear c22b1
           try clear c23
           try clear c23b0
           try clear c23b1
           try clear c24
           try clear hx197_0
           try clear p1
           try clear p19
           try clear p197
           try clear p2
           try clear q1
           try clear q19
           try clear q197
           obtain ⟨kq, HA, HJ14, HO_5, HB⟩ := hcut
           cases kq with
           | zero => exact absurd HA.out (by simp [selvedgelaw16_WeakEnds.j3])
           | succ kj14 =>
            have H := HA.out
            clear HA
            simp only [selvedgelaw16_WeakEnds.j3] at H
            by_cases c25 : 0 ≤ x8_2
            ·rw [if_pos c25] at H
             have c25b0 : decide (0 ≤ x8_2) = true := decide_eq_true c25
             clear c25
             by_cases c26 : x8_2 < (l0.length : Int)
             ·rw [if_pos c26] at H
              have c26b0 : decide (x8_2 < (l0.length : Int)) = true := decide_eq_true c26
              clear c26
              have HC27 := Aside0.mk H
              clear H
              obtain ⟨ad198, e198, hx198_0, p198, q198⟩ := atI HR0.out x8_2
              cases e198
              replace hx198_0 := (HB.out.cell (World.block_lt_of_cell? w _ hx198_0)).trans hx198_0
              go_upto_if 59 with (fail)
              repeat (go_quiet (fail); go_upto_if 59 with (fail))
              go_cut [59] (fun v59 wc => ∃ (kq : Nat) (x59_26 : Bool), v59 = .bool x59_26 ∧ Aside0 (selvedgelaw16_WeakEnds.j4 kq l0 t193 x6_2 x7_2 x8_2 (rd l0 x8_2) x59_26 = some r) ∧ Aside0 (kq ≤ kj14) ∧ Aside0 (Kd.R (Kd.int .u8) 23 wc w.heap.size (fun _ => True) (.slice (some ad197) t193.length co10) t193) ∧ Aside0 (Below w.heap.size w wc))
              case first =>
               have H := HC27.out
               clear HC27
               by_cases c28 : (rd l0 x8_2) = 1
               ·rw [if_pos c28] at H
                have c28b0 : ((rd l0 x8_2) == 1) = true := beq_iff_eq.mpr c28
                have c28b1 : ((rd l0 x8_2) != 1) = false := bne_eq_false_iff_eq.mpr c28
                clear c28
                (first | rw [c28b0] | (simp only [i64_w, i32_w]; rw [c28b0]) | skip)
                have H' := Aside0.mk H
                clear H
                go_wp2
                repeat (go_quiet (fail); try go_wp2)
                go_meet
                case rel => exact ⟨_, (((rd l0 x8_2) == 1)), (by first | rfl | (simp; done) | (simp [*]; done)), H', ⟨by have := HJ7.out; have := HK2.out; have := HJ14.out; first | omega | exact Nat.le_refl _⟩, ⟨mvR HO_5⟩, ⟨mvB HB⟩⟩
               ·rw [if_neg c28] at H
                have c28b0 : ((rd l0 x8_2) == 1) = false := beq_eq_false_iff_ne.mpr c28
                have c28b1 : ((rd l0 x8_2) != 1) = true := bne_iff_ne.mpr c28
                (first | rw [c28b0] | (simp only [i64_w, i32_w]; rw [c28b0]) | skip)
                have H' := Aside0.mk H
                clear H
                go_wp2
                repeat (go_quiet (fail); try go_wp2)
                go_meet
                case rel => exact ⟨_, (((rd l0 x8_2) == 2)), (by first | rfl | (simp; done) | (simp [*]; done)), H', ⟨by have := HJ7.out; have := HK2.out; have := HJ14.out; first | omega | exact Nat.le_refl _⟩, ⟨mvR HO_5⟩, ⟨mvB HB⟩⟩
              case rest =>
               clear HC27
               try clear c1
               try clear p1
               try clear q1
               try clear hx1
               try clear c2
               try clear p2
               try clear c3
               try clear c3b0
               try clear c3b1
               try clear c4
               try clear c7
               try clear c7b0
               try clear c7b1
               try clear c7b2
               try clear c11
               try clear c11b0
               try clear c11b1
               try clear c12
               try clear c12b0
               try clear c13
               try clear c13b0
               try clear c14
               try clear c14b0
               try clear c17
               try clear c17b0
               try clear c17b1
               try clear c18
               try clear c18b0
               try clear c18b1
               try clear c19
               try clear c19b0
               try clear c19b1
               try clear p19
               try clear q19
               try clear hx19
               try clear c20
               try clear c20b0
               try clear c20b1
               try clear c21
               try clear c22
               try clear c22b0
               try clear c22b1
               try clear c23
               try clear c23b0
               try clear c23b1
               try clear c24
               try clear c25
               try clear c25b0
               try clear c26
               try clear c26b0
               try clear c28
               try clear c28b0
               try clear c28b1
               try clear hx197_0
               try clear hx198_0
               try clear p1
               try clear p19
               try clear p197
               try clear p198
               try clear p2
               try clear q1
               try clear q19
               try clear q197
               try clear q198
               obtain ⟨kq, x59_26, rfl, HA, HJ26, HO_5, HB⟩ := hcut
               cases kq with
               | zero => exact absurd HA.out (by simp [selvedgelaw16_WeakEnds.j4])
               | succ kj26 =>
                have H := HA.out
                clear HA
                simp only [selvedgelaw16_WeakEnds.j4] at H
                by_cases c29 : x59_26 = true
                ·subst c29
                 have H1 : (if 0 ≤ x8_2 then (if x8_2 < (t193.length : Int) then (if x8_2 < (l0.length : Int) then (if (rd t193 x8_2) = (rd l0 x8_2) then (selvedgelaw16_WeakEnds.l0 kj26 l0 t193 (rd l0 x8_2) false (wrap64 (x8_2 + 1))) else (some false)) else (none)) else (none)) else (none)) = some r := by rw [if_pos rfl] at H; exact H
                 clear H
                 have H := H1
                 clear H1
                 by_cases c30 : 0 ≤ x8_2
                 ·rw [if_pos c30] at H
                  have c30b0 : decide (0 ≤ x8_2) = true := decide_eq_true c30
                  clear c30
                  by_cases c31 : x8_2 < (t193.length : Int)
                  ·rw [if_pos c31] at H
                   have c31b0 : decide (x8_2 < (t193.length : Int)) = true := decide_eq_true c31
                   clear c31
                   by_cases c32 : x8_2 < (l0.length : Int)
                   ·rw [if_pos c32] at H
                    have c32b0 : decide (x8_2 < (l0.length : Int)) = true := decide_eq_true c32
                    clear c32
                    by_cases c33 : (rd t193 x8_2) = (rd l0 x8_2)
                    ·rw [if_pos c33] at H
                     have c33b0 : ((rd t193 x8_2) == (rd l0 x8_2)) = true := beq_iff_eq.mpr c33
                     have c33b1 : ((rd t193 x8_2) != (rd l0 x8_2)) = false := bne_eq_false_iff_eq.mpr c33
                     clear c33
                     have H' := Aside0.mk H
                     clear H
                     obtain ⟨ad199, e199, hx199_0, p199, q199⟩ := atI (Kd.R_reads' HO_5.out).2.2 x8_2
                     obtain rfl : ad197 = ad199 := (by injection e199)
                     obtain ⟨ad200, e200, hx200_0, p200, q200⟩ := atI HR0.out x8_2
                     obtain rfl : ad198 = ad200 := (by injection e200)
                     replace hx200_0 := (HB.out.cell (World.block_lt_of_cell? w _ hx200_0)).trans hx200_0
                     obtain ⟨ad201, e201, hx201_0, p201, q201⟩ := atI HR0.out x8_2
                     obtain rfl : ad198 = ad201 := (by injection e201)
                     replace hx201_0 := (HB.out.cell (World.block_lt_of_cell? w _ hx201_0)).trans hx201_0
                     go_wp2
                     repeat (go_quiet (fail); try go_wp2)
                     go_roundg kj26
                     case measure => have := HJ7.out; have := HK2.out; have := HJ14.out; have := HJ26.out; omega
                     case rel => exact ⟨(rd l0 x8_2), (false), (wrap64 (x8_2 + 1)), (by first | rfl | (simp; done) | (simp [*]; done)), (by first | rfl | (simp; done) | (simp [*]; done)), (by first | rfl | (simp; done) | (simp [*]; done)), H', ⟨by have := HJ7.out; have := HK2.out; have := HJ14.out; have := HJ26.out; omega⟩, ⟨mvR HO_5⟩, ⟨mvB HB⟩⟩
                    ·rw [if_neg c33] at H
                     have c33b0 : ((rd t193 x8_2) == (rd l0 x8_2)) = false := beq_eq_false_iff_ne.mpr c33
                     have c33b1 : ((rd t193 x8_2) != (rd l0 x8_2)) = true := bne_iff_ne.mpr c33
                     obtain rfl := Option.some.inj H
                     obtain ⟨ad199, e199, hx199_0, p199, q199⟩ := atI (Kd.R_reads' HO_5.out).2.2 x8_2
                     obtain rfl : ad197 = ad199 := (by injection e199)
                     obtain ⟨ad200, e200, hx200_0, p200, q200⟩ := atI HR0.out x8_2
                     obtain rfl : ad198 = ad200 := (by injection e200)
                     replace hx200_0 := (HB.out.cell (World.block_lt_of_cell? w _ hx200_0)).trans hx200_0
                     go_wp2
                     repeat (go_quiet (fail); try go_wp2)
                     go_ret
                     exact ⟨by first | rfl | (simp [errW_none, errW_some] <;> rfl) | (simp [*, errW_none, errW_some] <;> rfl), mvB HB⟩
                   ·rw [if_neg c32] at H
                    exact absurd H (by simp)
                  ·rw [if_neg c31] at H
                   exact absurd H (by simp)
                 ·rw [if_neg c30] at H
                  exact absurd H (by simp)
                ·replace c29 := Bool.eq_false_iff.mpr c29
                 subst c29
                 have H1 : (if (rd l0 x8_2) = 3 then (if 0 ≤ x8_2 then (if x8_2 < (t193.length : Int) then (if (rd t193 x8_2) = 2 then (selvedgelaw16_WeakEnds.l0 kj26 l0 t193 2 true (wrap64 (x8_2 + 1))) else (some false)) else (none)) else (none)) else (if (rd l0 x8_2) = 4 then (if 0 ≤ x8_2 then (if x8_2 < (t193.length : Int) then (if (x7_2 != ((rd t193 x8_2) == 7)) = true then (some false) else (if x7_2 = true then (selvedgelaw16_WeakEnds.l0 kj26 l0 t193 x6_2 x7_2 (wrap64 (x8_2 + 1))) else (if (((rd t193 x8_2) == 1) != (x6_2 == 1)) = true then (some false) else (selvedgelaw16_WeakEnds.l0 kj26 l0 t193 x6_2 x7_2 (wrap64 (x8_2 + 1)))))) else (none)) else (none)) else (if (rd l0 x8_2) = 5 then (selvedgelaw16_WeakEnds.j5 kj26 l0 t193 x6_2 x7_2 x8_2 ((rd l0 x8_2) == 5)) else (if (rd l0 x8_2) = 6 then (selvedgelaw16_WeakEnds.j5 kj26 l0 t193 x6_2 x7_2 x8_2 ((rd l0 x8_2) == 6)) else (if (rd l0 x8_2) = 8 then (selvedgelaw16_WeakEnds.j5 kj26 l0 t193 x6_2 x7_2 x8_2 ((rd l0 x8_2) == 8)) else (selvedgelaw16_WeakEnds.j5 kj26 l0 t193 x6_2 x7_2 x8_2 ((rd l0 x8_2) == 9))))))) = some r := by rw [if_neg (show ¬ (false = true) by decide)] at H; exact H
                 clear H
                 have H := H1
                 clear H1
                 by_cases c34 : (rd l0 x8_2) = 3
                 ·rw [if_pos c34] at H
                  have c34b0 : ((rd l0 x8_2) == 3) = true := beq_iff_eq.mpr c34
                  have c34b1 : ((rd l0 x8_2) != 3) = false := bne_eq_false_iff_eq.mpr c34
                  clear c34
                  by_cases c35 : 0 ≤ x8_2
                  ·rw [if_pos c35] at H
                   have c35b0 : decide (0 ≤ x8_2) = true := decide_eq_true c35
                   clear c35
                   by_cases c36 : x8_2 < (t193.length : Int)
                   ·rw [if_pos c36] at H
                    have c36b0 : decide (x8_2 < (t193.length : Int)) = true := decide_eq_true c36
                    clear c36
                    by_cases c37 : (rd t193 x8_2) = 2
                    ·rw [if_pos c37] at H
                     have c37b0 : ((rd t193 x8_2) == 2) = true := beq_iff_eq.mpr c37
                     have c37b1 : ((rd t193 x8_2) != 2) = false := bne_eq_false_iff_eq.mpr c37
                     clear c37
                     have H' := Aside0.mk H
                     clear H
                     obtain ⟨ad202, e202, hx202_0, p202, q202⟩ := atI (Kd.R_reads' HO_5.out).2.2 x8_2
                     obtain rfl : ad197 = ad202 := (by injection e202)
                     go_wp2
                     repeat (go_quiet (fail); try go_wp2)
                     go_roundg kj26
                     case measure => have := HJ7.out; have := HK2.out; have := HJ14.out; have := HJ26.out; omega
                     case rel => exact ⟨(2), (true), (wrap64 (x8_2 + 1)), (by first | rfl | (simp; done) | (simp [*]; done)), (by first | rfl | (simp; done) | (simp [*]; done)), (by first | rfl | (simp; done) | (simp [*]; done)), H', ⟨by have := HJ7.out; have := HK2.out; have := HJ14.out; have := HJ26.out; omega⟩, ⟨mvR HO_5⟩, ⟨mvB HB⟩⟩
                    ·rw [if_neg c37] at H
                     have c37b0 : ((rd t193 x8_2) == 2) = false := beq_eq_false_iff_ne.mpr c37
                     have c37b1 : ((rd t193 x8_2) != 2) = true := bne_iff_ne.mpr c37
                     obtain rfl := Option.some.inj H
                     obtain ⟨ad202, e202, hx202_0, p202, q202⟩ := atI (Kd.R_reads' HO_5.out).2.2 x8_2
                     obtain rfl : ad197 = ad202 := (by injection e202)
                     go_wp2
                     repeat (go_quiet (fail); try go_wp2)
                     go_ret
                     exact ⟨by first | rfl | (simp [errW_none, errW_some] <;> rfl) | (simp [*, errW_none, errW_some] <;> rfl), mvB HB⟩
                   ·rw [if_neg c36] at H
                    exact absurd H (by simp)
                  ·rw [if_neg c35] at H
                   exact absurd H (by simp)
                 ·rw [if_neg c34] at H
                  have c34b0 : ((rd l0 x8_2) == 3) = false := beq_eq_false_iff_ne.mpr c34
                  have c34b1 : ((rd l0 x8_2) != 3) = true := bne_iff_ne.mpr c34
                  by_cases c38 : (rd l0 x8_2) = 4
                  ·rw [if_pos c38] at H
                   have c38b0 : ((rd l0 x8_2) == 4) = true := beq_iff_eq.mpr c38
                   have c38b1 : ((rd l0 x8_2) != 4) = false := bne_eq_false_iff_eq.mpr c38
                   clear c38
                   by_cases c39 : 0 ≤ x8_2
                   ·rw [if_pos c39] at H
                    have c39b0 : decide (0 ≤ x8_2) = true := decide_eq_true c39
                    clear c39
                    by_cases c40 : x8_2 < (t193.length : Int)
                    ·rw [if_pos c40] at H
                     have c40b0 : decide (x8_2 < (t193.length : Int)) = true := decide_eq_true c40
                     clear c40
                     by_cases c41 : (x7_2 != ((rd t193 x8_2) == 7)) = true
                     ·rw [if_pos c41] at H
                      have c41b0 : (x7_2 != ((rd t193 x8_2) == 7)) = true := c41
                      (try (have c41b1 : decide (x7_2 = ((rd t193 x8_2) == 7)) = false := by simpa using c41))
                      (try (have c41b2 : (x7_2 == ((rd t193 x8_2) == 7)) = false := by simpa using c41))
                      (try (have c41b3 : ¬ (x7_2 = ((rd t193 x8_2) == 7)) := by simpa using c41))
                      clear c41
                      obtain rfl := Option.some.inj H
                      obtain ⟨ad203, e203, hx203_0, p203, q203⟩ := atI (Kd.R_reads' HO_5.out).2.2 x8_2
                      obtain rfl : ad197 = ad203 := (by injection e203)
                      go_wp2
                      repeat (go_quiet (fail); try go_wp2)
                      go_ret
                      exact ⟨by first | rfl | (simp [errW_none, errW_some] <;> rfl) | (simp [*, errW_none, errW_some] <;> rfl), mvB HB⟩
                     ·rw [if_neg c41] at H
                      have c41b0 : (x7_2 != ((rd t193 x8_2) == 7)) = false := by simpa using c41
                      (try (have c41b1 : decide (x7_2 = ((rd t193 x8_2) == 7)) = true := by simpa using c41))
                      (try (have c41b2 : (x7_2 == ((rd t193 x8_2) == 7)) = true := by simpa using c41))
                      clear c41
                      by_cases c42 : x7_2 = true
                      ·subst c42
                       have H1 : (selvedgelaw16_WeakEnds.l0 kj26 l0 t193 x6_2 true (wrap64 (x8_2 + 1))) = some r := by rw [if_pos rfl] at H; exact H
                       clear H
                       have H := H1
                       clear H1
                       have H' := Aside0.mk H
                       clear H
                       obtain ⟨ad203, e203, hx203_0, p203, q203⟩ := atI (Kd.R_reads' HO_5.out).2.2 x8_2
                       obtain rfl : ad197 = ad203 := (by injection e203)
                       go_wp2
                       repeat (go_quiet (fail); try go_wp2)
                       go_roundg kj26
                       case measure => have := HJ7.out; have := HK2.out; have := HJ14.out; have := HJ26.out; omega
                       case rel => exact ⟨(x6_2), (true), (wrap64 (x8_2 + 1)), (by first | rfl | (simp; done) | (simp [*]; done)), (by first | rfl | (simp; done) | (simp [*]; done)), (by first | rfl | (simp; done) | (simp [*]; done)), H', ⟨by have := HJ7.out; have := HK2.out; have := HJ14.out; have := HJ26.out; omega⟩, ⟨mvR HO_5⟩, ⟨mvB HB⟩⟩
                      ·replace c42 := Bool.eq_false_iff.mpr c42
                       subst c42
                       have H1 : (if (((rd t193 x8_2) == 1) != (x6_2 == 1)) = true then (some false) else (selvedgelaw16_WeakEnds.l0 kj26 l0 t193 x6_2 false (wrap64 (x8_2 + 1)))) = some r := by rw [if_neg (show ¬ (false = true) by decide)] at H; exact H
                       clear H
                       have H := H1
                       clear H1
                       by_cases c43 : (((rd t193 x8_2) == 1) != (x6_2 == 1)) = true
                       ·rw [if_pos c43] at H
                        have c43b0 : (((rd t193 x8_2) == 1) != (x6_2 == 1)) = true := c43
                        (try (have c43b1 : decide (((rd t193 x8_2) == 1) = (x6_2 == 1)) = false := by simpa using c43))
                        (try (have c43b2 : (((rd t193 x8_2) == 1) == (x6_2 == 1)) = false := by simpa using c43))
                        (try (have c43b3 : ¬ (((rd t193 x8_2) == 1) = (x6_2 == 1)) := by simpa using c43))
                        clear c43
                        obtain rfl := Option.some.inj H
                        obtain ⟨ad203, e203, hx203_0, p203, q203⟩ := atI (Kd.R_reads' HO_5.out).2.2 x8_2
                        obtain rfl : ad197 = ad203 := (by injection e203)
                        obtain ⟨ad204, e204, hx204_0, p204, q204⟩ := atI (Kd.R_reads' HO_5.out).2.2 x8_2
                        obtain rfl : ad197 = ad204 := (by injection e204)
                        go_wp2
                        repeat (go_quiet (fail); try go_wp2)
                        go_ret
                        exact ⟨by first | rfl | (simp [errW_none, errW_some] <;> rfl) | (simp [*, errW_none, errW_some] <;> rfl), mvB HB⟩
                       ·rw [if_neg c43] at H
                        have c43b0 : (((rd t193 x8_2) == 1) != (x6_2 == 1)) = false := by simpa using c43
                        (try (have c43b1 : decide (((rd t193 x8_2) == 1) = (x6_2 == 1)) = true := by simpa using c43))
                        (try (have c43b2 : (((rd t193 x8_2) == 1) == (x6_2 == 1)) = true := by simpa using c43))
                        clear c43
                        have H' := Aside0.mk H
                        clear H
                        obtain ⟨ad203, e203, hx203_0, p203, q203⟩ := atI (Kd.R_reads' HO_5.out).2.2 x8_2
                        obtain rfl : ad197 = ad203 := (by injection e203)
                        obtain ⟨ad204, e204, hx204_0, p204, q204⟩ := atI (Kd.R_reads' HO_5.out).2.2 x8_2
                        obtain rfl : ad197 = ad204 := (by injection e204)
                        go_wp2
                        repeat (go_quiet (fail); try go_wp2)
                        go_roundg kj26
                        case measure => have := HJ7.out; have := HK2.out; have := HJ14.out; have := HJ26.out; omega
                        case rel => exact ⟨(x6_2), (false), (wrap64 (x8_2 + 1)), (by first | rfl | (simp; done) | (simp [*]; done)), (by first | rfl | (simp; done) | (simp [*]; done)), (by first | rfl | (simp; done) | (simp [*]; done)), H', ⟨by have := HJ7.out; have := HK2.out; have := HJ14.out; have := HJ26.out; omega⟩, ⟨mvR HO_5⟩, ⟨mvB HB⟩⟩
                    ·rw [if_neg c40] at H
                     exact absurd H (by simp)
                   ·rw [if_neg c39] at H
                    exact absurd H (by simp)
                  ·rw [if_neg c38] at H
                   have c38b0 : ((rd l0 x8_2) == 4) = false := beq_eq_false_iff_ne.mpr c38
                   have c38b1 : ((rd l0 x8_2) != 4) = true := bne_iff_ne.mpr c38
                   have HC44 := Aside0.mk H
                   clear H
                   go_upto_if 105 with (fail)
                   repeat (go_quiet (fail); go_upto_if 105 with (fail))
                   go_cut [105] (fun v105 wc => ∃ (kq : Nat) (x105_43 : Bool), v105 = .bool x105_43 ∧ Aside0 (selvedgelaw16_WeakEnds.j5 kq l0 t193 x6_2 x7_2 x8_2 x105_43 = some r) ∧ Aside0 (kq ≤ kj26) ∧ Aside0 (Kd.R (Kd.int .u8) 23 wc w.heap.size (fun _ => True) (.slice (some ad197) t193.length co10) t193) ∧ Aside0 (Below w.heap.size w wc))
                   case first =>
                    have H := HC44.out
                    clear HC44
                    by_cases c45 : (rd l0 x8_2) = 5
                    ·rw [if_pos c45] at H
                     have c45b0 : ((rd l0 x8_2) == 5) = true := beq_iff_eq.mpr c45
                     have c45b1 : ((rd l0 x8_2) != 5) = false := bne_eq_false_iff_eq.mpr c45
                     clear c45
                     (first | rw [c45b0] | (simp only [i64_w, i32_w]; rw [c45b0]) | skip)
                     have H' := Aside0.mk H
                     clear H
                     go_wp2
                     repeat (go_quiet (fail); try go_wp2)
                     go_meet
                     case rel => exact ⟨_, (((rd l0 x8_2) == 5)), (by first | rfl | (simp; done) | (simp [*]; done)), H', ⟨by have := HJ7.out; have := HK2.out; have := HJ14.out; have := HJ26.out; first | omega | exact Nat.le_refl _⟩, ⟨mvR HO_5⟩, ⟨mvB HB⟩⟩
                    ·rw [if_neg c45] at H
                     have c45b0 : ((rd l0 x8_2) == 5) = false := beq_eq_false_iff_ne.mpr c45
                     have c45b1 : ((rd l0 x8_2) != 5) = true := bne_iff_ne.mpr c45
                     (first | rw [c45b0] | (simp only [i64_w, i32_w]; rw [c45b0]) | skip)
                     by_cases c46 : (rd l0 x8_2) = 6
                     ·rw [if_pos c46] at H
                      have c46b0 : ((rd l0 x8_2) == 6) = true := beq_iff_eq.mpr c46
                      have c46b1 : ((rd l0 x8_2) != 6) = false := bne_eq_false_iff_eq.mpr c46
                      clear c46
                      have H' := Aside0.mk H
                      clear H
                      go_wp2
                      repeat (go_quiet (fail); try go_wp2)
                      go_meet
                      case rel => exact ⟨_, (((rd l0 x8_2) == 6)), (by first | rfl | (simp; done) | (simp [*]; done)), H', ⟨by have := HJ7.out; have := HK2.out; have := HJ14.out; have := HJ26.out; first | omega | exact Nat.le_refl _⟩, ⟨mvR HO_5⟩, ⟨mvB HB⟩⟩
                     ·rw [if_neg c46] at H
                      have c46b0 : ((rd l0 x8_2) == 6) = false := beq_eq_false_iff_ne.mpr c46
                      have c46b1 : ((rd l0 x8_2) != 6) = true := bne_iff_ne.mpr c46
                      by_cases c47 : (rd l0 x8_2) = 8
                      ·rw [if_pos c47] at H
                       have c47b0 : ((rd l0 x8_2) == 8) = true := beq_iff_eq.mpr c47
                       have c47b1 : ((rd l0 x8_2) != 8) = false := bne_eq_false_iff_eq.mpr c47
                       clear c47
                       have H' := Aside0.mk H
                       clear H
                       go_wp2
                       repeat (go_quiet (fail); try go_wp2)
                       go_meet
                       case rel => exact ⟨_, (((rd l0 x8_2) == 8)), (by first | rfl | (simp; done) | (simp [*]; done)), H', ⟨by have := HJ7.out; have := HK2.out; have := HJ14.out; have := HJ26.out; first | omega | exact Nat.le_refl _⟩, ⟨mvR HO_5⟩, ⟨mvB HB⟩⟩
                      ·rw [if_neg c47] at H
                       have c47b0 : ((rd l0 x8_2) == 8) = false := beq_eq_false_iff_ne.mpr c47
                       have c47b1 : ((rd l0 x8_2) != 8) = true := bne_iff_ne.mpr c47
                       have H' := Aside0.mk H
                       clear H
                       go_wp2
                       repeat (go_quiet (fail); try go_wp2)
                       go_meet
                       case rel => exact ⟨_, (((rd l0 x8_2) == 9)), (by first | rfl | (simp; done) | (simp [*]; done)), H', ⟨by have := HJ7.out; have := HK2.out; have := HJ14.out; have := HJ26.out; first | omega | exact Nat.le_refl _⟩, ⟨mvR HO_5⟩, ⟨mvB HB⟩⟩
                   case rest =>
                    clear HC44
                    try clear c1
                    try clear p1
                    try clear q1
                    try clear hx1
                    try clear c2
                    try clear p2
                    try clear q2
                    try clear hx2
                    try clear c3
                    try clear c3b0
                    try clear c3b1
                    try clear c4
                    try clear p6
                    try clear c7
                    try clear c7b0
                    try clear c7b1
                    try clear c7b2
                    try clear c11
                    try clear c11b0
                    try clear c11b1
                    try clear c12
                    try clear c12b0
                    try clear c13
                    try clear c13b0
                    try clear c14
                    try clear c14b0
                    try clear c17
                    try clear c17b0
                    try clear c17b1
                    try clear c18
                    try clear c18b0
                    try clear c18b1
                    try clear c19
                    try clear c19b0
                    try clear c19b1
                    try clear p19
                    try clear q19
                    try clear hx19
                    try clear c20
                    try clear c20b0
                    try clear c20b1
                    try clear p20
                    try clear q20
                    try clear hx20
                    try clear c21
                    try clear c22
                    try clear c22b0
                    try clear c22b1
                    try clear c23
                    try clear c23b0
                    try clear c23b1
                    try clear c24
                    try clear c25
                    try clear c25b0
                    try clear c26
                    try clear c26b0
                    try clear c28
                    try clear c28b0
                    try clear c28b1
                    try clear c29
                    try clear c30
                    try clear c30b0
                    try clear c31
                    try clear c31b0
                    try clear c32
                    try clear c32b0
                    try clear c33
                    try clear c33b0
                    try clear c33b1
                    try clear c34
                    try clear c34b0
                    try clear c34b1
                    try clear c35
                    try clear c35b0
                    try clear c36
                    try clear c36b0
                    try clear c37
                    try clear c37b0
                    try clear c37b1
                    try clear c38
                    try clear c38b0
                    try clear c38b1
                    try clear c39
                    try clear c39b0
                    try clear c40
                    try clear c40b0
                    try clear c41
                    try clear c41b0
                    try clear c41b1
                    try clear c41b2
                    try clear c42
                    try clear c43
                    try clear c43b0
                    try clear c43b1
                    try clear c43b2
                    try clear c45
                    try clear c45b0
                    try clear c45b1
                    try clear c46
                    try clear c46b0
                    try clear c46b1
                    try clear c47
                    try clear c47b0
                    try clear c47b1
                    try clear hx197_0
                    try clear hx198_0
                    try clear hx199_0
                    try clear hx200_0
                    try clear hx201_0
                    try clear hx202_0
                    try clear hx203_0
                    try clear hx204_0
                    try clear p1
                    try clear p19
                    try clear p197
                    try clear p198
                    try clear p199
                    try clear p2
                    try clear p200
                    try clear p201
                    try clear p202
                    try clear p203
                    try clear p204
                    try clear q1
                    try clear q19
                    try clear q197
                    try clear q198
                    try clear q199
                    try clear q200
                    try clear q201
                    try clear q202
                    try clear q203
                    try clear q204
                    obtain ⟨kq, x105_43, rfl, HA, HJ43, HO_5, HB⟩ := hcut
                    cases kq with
                    | zero => exact absurd HA.out (by simp [selvedgelaw16_WeakEnds.j5])
                    | succ kj43 =>
                     have H := HA.out
                     clear HA
                     simp only [selvedgelaw16_WeakEnds.j5] at H
                     by_cases c48 : x105_43 = true
                     ·subst c48
                      have H1 : (selvedgelaw16_WeakEnds.l0 kj43 l0 t193 x6_2 x7_2 (wrap64 (x8_2 + 1))) = some r := by rw [if_pos rfl] at H; exact H
                      clear H
                      have H := H1
                      clear H1
                      have H' := Aside0.mk H
                      clear H
                      go_wp2
                      repeat (go_quiet (fail); try go_wp2)
                      go_roundg kj43
                      case measure => have := HJ7.out; have := HK2.out; have := HJ14.out; have := HJ26.out; have := HJ43.out; omega
                      case rel => exact ⟨(x6_2), (x7_2), (wrap64 (x8_2 + 1)), (by first | rfl | (simp; done) | (simp [*]; done)), (by first | rfl | (simp; done) | (simp [*]; done)), (by first | rfl | (simp; done) | (simp [*]; done)), H', ⟨by have := HJ7.out; have := HK2.out; have := HJ14.out; have := HJ26.out; have := HJ43.out; omega⟩, ⟨mvR HO_5⟩, ⟨mvB HB⟩⟩
                     ·replace c48 := Bool.eq_false_iff.mpr c48
                      subst c48
                      have H1 : (if 0 ≤ x8_2 then (if x8_2 < (t193.length : Int) then (if x8_2 < (l0.length : Int) then (if (rd t193 x8_2) = (rd l0 x8_2) then (selvedgelaw16_WeakEnds.l0 kj43 l0 t193 x6_2 x7_2 (wrap64 (x8_2 + 1))) else (some false)) else (none)) else (none)) else (none)) = some r := by rw [if_neg (show ¬ (false = true) by decide)] at H; exact H
                      clear H
                      have H := H1
                      clear H1
                      by_cases c49 : 0 ≤ x8_2
                      ·rw [if_pos c49] at H
                       have c49b0 : decide (0 ≤ x8_2) = true := decide_eq_true c49
                       clear c49
                       by_cases c50 : x8_2 < (t193.length : Int)
                       ·rw [if_pos c50] at H
                        have c50b0 : decide (x8_2 < (t193.length : Int)) = true := decide_eq_true c50
                        clear c50
                        by_cases c51 : x8_2 < (l0.length : Int)
                        ·rw [if_pos c51] at H
                         have c51b0 : decide (x8_2 < (l0.length : Int)) = true := decide_eq_true c51
                         clear c51
                         by_cases c52 : (rd t193 x8_2) = (rd l0 x8_2)
                         ·rw [if_pos c52] at H
                          have c52b0 : ((rd t193 x8_2) == (rd l0 x8_2)) = true := beq_iff_eq.mpr c52
                          have c52b1 : ((rd t193 x8_2) != (rd l0 x8_2)) = false := bne_eq_false_iff_eq.mpr c52
                          clear c52
                          have H' := Aside0.mk H
                          clear H
                          obtain ⟨ad205, e205, hx205_0, p205, q205⟩ := atI (Kd.R_reads' HO_5.out).2.2 x8_2
                          obtain rfl : ad197 = ad205 := (by injection e205)
                          obtain ⟨ad206, e206, hx206_0, p206, q206⟩ := atI HR0.out x8_2
                          obtain rfl : ad198 = ad206 := (by injection e206)
                          replace hx206_0 := (HB.out.cell (World.block_lt_of_cell? w _ hx206_0)).trans hx206_0
                          go_wp2
                          repeat (go_quiet (fail); try go_wp2)
                          go_roundg kj43
                          case measure => have := HJ7.out; have := HK2.out; have := HJ14.out; have := HJ26.out; have := HJ43.out; omega
                          case rel => exact ⟨(x6_2), (x7_2), (wrap64 (x8_2 + 1)), (by first | rfl | (simp; done) | (simp [*]; done)), (by first | rfl | (simp; done) | (simp [*]; done)), (by first | rfl | (simp; done) | (simp [*]; done)), H', ⟨by have := HJ7.out; have := HK2.out; have := HJ14.out; have := HJ26.out; have := HJ43.out; omega⟩, ⟨mvR HO_5⟩, ⟨mvB HB⟩⟩
                         ·rw [if_neg c52] at H
                          have c52b0 : ((rd t193 x8_2) == (rd l0 x8_2)) = false := beq_eq_false_iff_ne.mpr c52
                          have c52b1 : ((rd t193 x8_2) != (rd l0 x8_2)) = true := bne_iff_ne.mpr c52
                          obtain rfl := Option.some.inj H
                          obtain ⟨ad205, e205, hx205_0, p205, q205⟩ := atI (Kd.R_reads' HO_5.out).2.2 x8_2
                          obtain rfl : ad197 = ad205 := (by injection e205)
                          obtain ⟨ad206, e206, hx206_0, p206, q206⟩ := atI HR0.out x8_2
                          obtain rfl : ad198 = ad206 := (by injection e206)
                          replace hx206_0 := (HB.out.cell (World.block_lt_of_cell? w _ hx206_0)).trans hx206_0
                          go_wp2
                          repeat (go_quiet (fail); try go_wp2)
                          go_ret
                          exact ⟨by first | rfl | (simp [errW_none, errW_some] <;> rfl) | (simp [*, errW_none, errW_some] <;> rfl), mvB HB⟩
                        ·rw [if_neg c51] at H
                         exact absurd H (by simp)
                       ·rw [if_neg c50] at H
                        exact absurd H (by simp)
                      ·rw [if_neg c49] at H
                       exact absurd H (by simp)
             ·rw [if_neg c26] at H
              exact absurd H (by simp)
            ·rw [if_neg c25] at H
             exact absurd H (by simp)
         ·rw [if_neg c14] at H
          exact absurd H (by simp)
        ·rw [if_neg c13] at H
         exact absurd H (by simp)
       ·rw [if_neg c12] at H
        have c12b0 : decide (x8_2 < (l0.length : Int)) = false := decide_eq_false c12
        clear c12
        replace H := Option.bind_eq_some_iff.mp H
        obtain ⟨t196, A530, H⟩ := H
        replace H : (some t196) = some r := H
        have A53 := Aside0.mk A530
        clear A530
        obtain rfl := Option.some.inj H
        go_wp2_with (first | (go_at_call 9; (with_reducible refine (selvedgelaw16_works.calls k2  t196 _ A53.out).mono ?_); rintro e w54 ⟨rfl, hb⟩; have n0_ := Aside0.mk (Kd.R_below (mvR HO_5) hb); have n1_ := Aside0.mk (below_step (mvB HB) hb); clear HO_5; clear HB; have HO_5 := n0_; have HB := n1_; clear n0_ n1_; (try clear hb); (try clear hb2); (try clear hk); (try clear hi)))
        repeat (go_quiet (first | (go_at_call 9; (with_reducible refine (selvedgelaw16_works.calls k2  t196 _ A53.out).mono ?_); rintro e w54 ⟨rfl, hb⟩; have n0_ := Aside0.mk (Kd.R_below (mvR HO_5) hb); have n1_ := Aside0.mk (below_step (mvB HB) hb); clear HO_5; clear HB; have HO_5 := n0_; have HB := n1_; clear n0_ n1_; (try clear hb); (try clear hb2); (try clear hk); (try clear hi))); try go_wp2_with (first | (go_at_call 9; (with_reducible refine (selvedgelaw16_works.calls k2  t196 _ A53.out).mono ?_); rintro e w54 ⟨rfl, hb⟩; have n0_ := Aside0.mk (Kd.R_below (mvR HO_5) hb); have n1_ := Aside0.mk (below_step (mvB HB) hb); clear HO_5; clear HB; have HO_5 := n0_; have HB := n1_; clear n0_ n1_; (try clear hb); (try clear hb2); (try clear hk); (try clear hi))))
        go_ret
        exact ⟨by first | rfl | (simp [errW_none, errW_some] <;> rfl) | (simp [*, errW_none, errW_some] <;> rfl), mvB HB⟩
  ·rw [if_neg c7] at H
   have c7b0 : ((t193.length : Int) == (l0.length : Int)) = false := beq_eq_false_iff_ne.mpr c7
   have c7b1 : ((t193.length : Int) != (l0.length : Int)) = true := bne_iff_ne.mpr c7
   have c7b2 : (t193.length == l0.length) = false := by first | simpa using c7 | (simp at c7 ⊢; omega)
   obtain rfl := Option.some.inj H
   go_enter Try.func4, Try.ntmps4
   go_wp2_with (first | (go_at_call 12; (with_reducible refine (weak_Resolve.calls _ _ l0 a1 t193 _ ?side1 ?side2 A6.out).mono ?_); (case side1 => repeat (first | exact HR0.out | (with_reducible refine Kd.C_alloc ?_ _) | (with_reducible refine Kd.C_drewN ?_ _) | (with_reducible refine Kd.C_drew ?_))); (case side2 => exact HC0.out); rintro e w55 ⟨v194, rfl, ho0, hb⟩; have n0_ := Aside0.mk (Kd.R_lower ho0 (below_size (mvB HB))); have n1_ := Aside0.mk (below_step (mvB HB) hb); clear HB; have HO195 := n0_; have HB := n1_; clear n0_ n1_; (try clear hb); (try clear hb2); (try clear hk); (try clear hi); (try clear ho0); obtain ⟨Ao56, co56, eo56⟩ := Kd.R_slice HO195.out; subst eo56))
   repeat (go_quiet (first | (go_at_call 12; (with_reducible refine (weak_Resolve.calls _ _ l0 a1 t193 _ ?side1 ?side2 A6.out).mono ?_); (case side1 => repeat (first | exact HR0.out | (with_reducible refine Kd.C_alloc ?_ _) | (with_reducible refine Kd.C_drewN ?_ _) | (with_reducible refine Kd.C_drew ?_))); (case side2 => exact HC0.out); rintro e w55 ⟨v194, rfl, ho0, hb⟩; have n0_ := Aside0.mk (Kd.R_lower ho0 (below_size (mvB HB))); have n1_ := Aside0.mk (below_step (mvB HB) hb); clear HB; have HO195 := n0_; have HB := n1_; clear n0_ n1_; (try clear hb); (try clear hb2); (try clear hk); (try clear hi); (try clear ho0); obtain ⟨Ao56, co56, eo56⟩ := Kd.R_slice HO195.out; subst eo56)); try go_wp2_with (first | (go_at_call 12; (with_reducible refine (weak_Resolve.calls _ _ l0 a1 t193 _ ?side1 ?side2 A6.out).mono ?_); (case side1 => repeat (first | exact HR0.out | (with_reducible refine Kd.C_alloc ?_ _) | (with_reducible refine Kd.C_drewN ?_ _) | (with_reducible refine Kd.C_drew ?_))); (case side2 => exact HC0.out); rintro e w55 ⟨v194, rfl, ho0, hb⟩; have n0_ := Aside0.mk (Kd.R_lower ho0 (below_size (mvB HB))); have n1_ := Aside0.mk (below_step (mvB HB) hb); clear HB; have HO195 := n0_; have HB := n1_; clear n0_ n1_; (try clear hb); (try clear hb2); (try clear hk); (try clear hi); (try clear ho0); obtain ⟨Ao56, co56, eo56⟩ := Kd.R_slice HO195.out; subst eo56)))
   go_ret
   exact ⟨by first | rfl | (simp [errW_none, errW_some] <;> rfl) | (simp [*, errW_none, errW_some] <;> rfl), mvB HB⟩

/-- THE ONE PURE STATEMENT of selvedgelaw16_WeakEnds: yours. -/
def selvedgelaw16_WeakEnds.Pure : Prop := ∀ (l0 : List Int) (a1 : Int), l0.length ≤ maxLen → l0.length * 1 ≤ 140737488351232 → (∀ x ∈ l0, (Lit.int .u8 x).wf = true) → (Lit.int .u8 a1).wf = true → ∃ k, selvedgelaw16_WeakEnds.f k l0 a1 = some true
theorem selvedgelaw16_WeakEnds.walk (P : selvedgelaw16_WeakEnds.Pure) (a0 : Option Addr) (len0 cap0 : Nat) (z0 : List Int) (a1 : Int) (w : World) (w0 : (a0 = none ∧ len0 = 0 ∧ cap0 = 0 ∧ z0 = []) ∨ ∃ x, a0 = some x ∧ len0 ≤ cap0 ∧ cap0 ≤ maxLen ∧ z0.length = cap0 ∧ (∀ i, i < z0.length → w.cell? (x.add i) = some (.int .u8 (z0.getD i 0))) ∧ ∀ n ∈ z0, (Lit.int .u8 n).wf = true) (y0 : len0 * 1 ≤ 140737488351232) (w1 : (Lit.int .u8 a1).wf = true) :
  Calls Try.prog 4 #[.slice a0 len0 cap0, .int .u8 a1] w fun e w' => e = .returned (.bool true) ∧ Below w.heap.size w w' := by
 obtain ⟨l0, rfl, hr0, hm0, hw0, hc0⟩ := ReadsInt.ofRowC w0
 obtain ⟨k, h⟩ := P l0 a1 hm0 y0 hw0 w1
 refine (selvedgelaw16_WeakEnds.calls k _ _ l0 a1 true w (Kd.C_of_reads (d := (0 : Int)) (h1 := fun _ => rfl) hr0) hc0 h).mono ?_
 rintro e w' ⟨rfl, hd⟩
 exact ⟨rfl, hd⟩

end Go.Proofs.Ytnpcfiahmadkjaa.X
