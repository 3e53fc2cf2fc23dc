-- by xprint.py: the kit's printer over texts of this session
import Derived.Test.YtofiflhjlohakaaX0
import Derived.Test.YtofiflhjlohakaaX1
import Derived.Test.YtofiflhjlohakaaT9
import Derived.Test.YtofiflhjlohakaaU2
namespace Go.Proofs.Ytofiflhjlohakaa.X
open Go.RowKit Go.Proofs.YtofiflhjlohakaaW.PrintWords Go.Proofs.YtofiflhjlohakaaW.PrintLast Go.Proofs.YtofiflhjlohakaaW.PrintMore
attribute [local go_sem] max2_int min2_int max_two min_two max_three min_three max_four min_four   -- for this text's walks alone
set_option linter.unusedVariables false
set_option linter.unusedSimpArgs false

/-! ### selvedgelaw15_RunsPlain: function 6 -/
mutual
def selvedgelaw15_RunsPlain.j0 : Nat → List Int → Int → Int → Bool → Option (Bool)
 | 0, _, _, _, _ => none
 | k + 1, x0, x1, x2, x22 => if x22 = true then ((selvedgelaw15_works.f k).bind fun t357 => (some t357)) else (selvedgelaw15_RunsPlain.l0 k x0 x1 x2 ([] : List Int) 0)
def selvedgelaw15_RunsPlain.l0 : Nat → List Int → Int → Int → List Int → Int → Option (Bool)
 | 0, _, _, _, _, _ => none
 | k + 1, x0, x1, x2, x7, x8 => if x8 < (x0.length : Int) then (if 0 ≤ x8 then ((selvedgeref14_Removed.f (rd x0 x8)).bind fun t359 => (if t359 = true then (selvedgelaw15_RunsPlain.l0 k x0 x1 x2 x7 (wrap64 (x8 + 1))) else (if x7.length < 140737488355328 then (selvedgelaw15_RunsPlain.l0 k x0 x1 x2 (x7 ++ [rd x0 x8]) (wrap64 (x8 + 1))) else (none)))) else (none)) else (if 0 ≤ (x7.length : Int) then (if ((x7.length : Int) : Int).toNat ≤ 281474976710656 then (selvedgelaw15_RunsPlain.l1 k x1 x2 x7 (List.replicate ((x7.length : Int) : Int).toNat 0) 0) else (none)) else (none))
def selvedgelaw15_RunsPlain.l1 : Nat → Int → Int → List Int → List Int → Int → Option (Bool)
 | 0, _, _, _, _, _ => none
 | k + 1, x1, x2, x7, x9, x10 => if x10 < (x9.length : Int) then (if 0 ≤ x10 then (selvedgelaw15_RunsPlain.l1 k x1 x2 x7 (x9.set (x10 : Int).toNat x1) (wrap64 (x10 + 1))) else (none)) else ((runs_Sequences.f x7 x9 x2).bind fun bt368 => (if bt368.2 = 0 then (selvedgelaw15_RunsPlain.j3 k x1 x7 bt368.1 bt368.2 ((x7.length : Int) == 0)) else (selvedgelaw15_RunsPlain.j3 k x1 x7 bt368.1 bt368.2 true)))
def selvedgelaw15_RunsPlain.j3 : Nat → Int → List Int → List (S36) → Int → Bool → Option (Bool)
 | 0, _, _, _, _, _ => none
 | k + 1, x1, x7, x11, x12, x69 => if x69 = true then (if x12 = 0 then (if (x11.length : Int) = 0 then ((selvedgelaw15_works.f k).bind fun t372 => (some t372)) else (some false)) else (some false)) else (if (Int.tmod x1 2) = 1 then (selvedgelaw15_RunsPlain.j4 k x1 x7 x11 2) else (selvedgelaw15_RunsPlain.j4 k x1 x7 x11 1))
def selvedgelaw15_RunsPlain.j4 : Nat → Int → List Int → List (S36) → Int → Option (Bool)
 | 0, _, _, _, _ => none
 | k + 1, x1, x7, x11, x13 => if (x11.length : Int) = 1 then (if 0 < (x11.length : Int) then (if (((rd_T36 x11 0).f0).length : Int) = (x7.length : Int) then (if ((rd_T36 x11 0).f1) = x1 then (if ((rd_T36 x11 0).f2) = x13 then (selvedgelaw15_RunsPlain.j5 k x7 x11 (((rd_T36 x11 0).f3) != x13)) else (selvedgelaw15_RunsPlain.j5 k x7 x11 true)) else (selvedgelaw15_RunsPlain.j5 k x7 x11 true)) else (selvedgelaw15_RunsPlain.j5 k x7 x11 true)) else (none)) else (selvedgelaw15_RunsPlain.j5 k x7 x11 true)
def selvedgelaw15_RunsPlain.j5 : Nat → List Int → List (S36) → Bool → Option (Bool)
 | 0, _, _, _ => none
 | k + 1, x7, x11, x119 => if x119 = true then (some false) else (selvedgelaw15_RunsPlain.l2 k x7 x11 0)
def selvedgelaw15_RunsPlain.l2 : Nat → List Int → List (S36) → Int → Option (Bool)
 | 0, _, _, _ => none
 | k + 1, x7, x11, x14 => if x14 < (x7.length : Int) then (if 0 < (x11.length : Int) then (if 0 ≤ x14 then (if x14 < (((rd_T36 x11 0).f0).length : Int) then (if (rd ((rd_T36 x11 0).f0) x14) = x14 then (selvedgelaw15_RunsPlain.l2 k x7 x11 (wrap64 (x14 + 1))) else (some false)) else (none)) else (none)) else (none)) else ((selvedgelaw15_works.f k).bind fun t379 => (some t379))
end
def selvedgelaw15_RunsPlain.f (k : Nat) (l0 : List Int) (a1 : Int) (a2 : Int) : Option (Bool) := if (l0.length : Int) > 2000 then (selvedgelaw15_RunsPlain.j0 k l0 a1 a2 true) else (selvedgelaw15_RunsPlain.j0 k l0 a1 a2 (decide (a1 < a2)))
theorem selvedgelaw15_RunsPlain.mono_l : ∀ k, (∀ y0 y1 y2 y3, LeO (selvedgelaw15_RunsPlain.j0 k y0 y1 y2 y3) (selvedgelaw15_RunsPlain.j0 (k + 1) y0 y1 y2 y3)) ∧ (∀ y0 y1 y2 y3 y4, LeO (selvedgelaw15_RunsPlain.l0 k y0 y1 y2 y3 y4) (selvedgelaw15_RunsPlain.l0 (k + 1) y0 y1 y2 y3 y4)) ∧ (∀ y0 y1 y2 y3 y4, LeO (selvedgelaw15_RunsPlain.l1 k y0 y1 y2 y3 y4) (selvedgelaw15_RunsPlain.l1 (k + 1) y0 y1 y2 y3 y4)) ∧ (∀ y0 y1 y2 y3 y4, LeO (selvedgelaw15_RunsPlain.j3 k y0 y1 y2 y3 y4) (selvedgelaw15_RunsPlain.j3 (k + 1) y0 y1 y2 y3 y4)) ∧ (∀ y0 y1 y2 y3, LeO (selvedgelaw15_RunsPlain.j4 k y0 y1 y2 y3) (selvedgelaw15_RunsPlain.j4 (k + 1) y0 y1 y2 y3)) ∧ (∀ y0 y1 y2, LeO (selvedgelaw15_RunsPlain.j5 k y0 y1 y2) (selvedgelaw15_RunsPlain.j5 (k + 1) y0 y1 y2)) ∧ (∀ y0 y1 y2, LeO (selvedgelaw15_RunsPlain.l2 k y0 y1 y2) (selvedgelaw15_RunsPlain.l2 (k + 1) y0 y1 y2))
 | 0 => ⟨fun _ _ _ _ r h => by simp [selvedgelaw15_RunsPlain.j0] at h, fun _ _ _ _ _ r h => by simp [selvedgelaw15_RunsPlain.l0] at h, fun _ _ _ _ _ r h => by simp [selvedgelaw15_RunsPlain.l1] at h, fun _ _ _ _ _ r h => by simp [selvedgelaw15_RunsPlain.j3] at h, fun _ _ _ _ r h => by simp [selvedgelaw15_RunsPlain.j4] at h, fun _ _ _ r h => by simp [selvedgelaw15_RunsPlain.j5] at h, fun _ _ _ r h => by simp [selvedgelaw15_RunsPlain.l2] at h⟩
 | k + 1 => by
  obtain ⟨ih0, ih1, ih2, ih3, ih4, ih5, ih6⟩ := selvedgelaw15_RunsPlain.mono_l k
  refine ⟨?_, ?_, ?_, ?_, ?_, ?_, ?_⟩
  ·intro y0 y1 y2 y3
   unfold selvedgelaw15_RunsPlain.j0
   repeat' first
   | (with_reducible exact ih0 _ _ _ _)
   | (with_reducible exact ih1 _ _ _ _ _)
   | (with_reducible exact ih2 _ _ _ _ _)
   | (with_reducible exact ih3 _ _ _ _ _)
   | (with_reducible exact ih4 _ _ _ _)
   | (with_reducible exact ih5 _ _ _)
   | (with_reducible exact ih6 _ _ _)
   | (with_reducible exact selvedgelaw15_works.mono _)
   | (with_reducible exact LeO.refl _)
   | (with_reducible exact LeO.none _)
   | (with_reducible refine LeO.ite ?_ ?_)
   | (with_reducible refine LeO.bind ?_ (fun _ => ?_))
   | exact ih0 _ _ _ _
   | exact ih1 _ _ _ _ _
   | exact ih2 _ _ _ _ _
   | exact ih3 _ _ _ _ _
   | exact ih4 _ _ _ _
   | exact ih5 _ _ _
   | exact ih6 _ _ _
   | exact selvedgelaw15_works.mono _
   | exact LeO.none _
   | refine LeO.ite ?_ ?_
   | refine LeO.bind ?_ (fun _ => ?_)
  ·intro y0 y1 y2 y3 y4
   unfold selvedgelaw15_RunsPlain.l0
   repeat' first
   | (with_reducible exact ih0 _ _ _ _)
   | (with_reducible exact ih1 _ _ _ _ _)
   | (with_reducible exact ih2 _ _ _ _ _)
   | (with_reducible exact ih3 _ _ _ _ _)
   | (with_reducible exact ih4 _ _ _ _)
   | (with_reducible exact ih5 _ _ _)
   | (with_reducible exact ih6 _ _ _)
   | (with_reducible exact selvedgelaw15_works.mono _)
   | (with_reducible exact LeO.refl _)
   | (with_reducible exact LeO.none _)
   | (with_reducible refine LeO.ite ?_ ?_)
   | (with_reducible refine LeO.bind ?_ (fun _ => ?_))
   | exact ih0 _ _ _ _
   | exact ih1 _ _ _ _ _
   | exact ih2 _ _ _ _ _
   | exact ih3 _ _ _ _ _
   | exact ih4 _ _ _ _
   | exact ih5 _ _ _
   | exact ih6 _ _ _
   | exact selvedgelaw15_works.mono _
   | exact LeO.none _
   | refine LeO.ite ?_ ?_
   | refine LeO.bind ?_ (fun _ => ?_)
  ·intro y0 y1 y2 y3 y4
   unfold selvedgelaw15_RunsPlain.l1
   repeat' first
   | (with_reducible exact ih0 _ _ _ _)
   | (with_reducible exact ih1 _ _ _ _ _)
   | (with_reducible exact ih2 _ _ _ _ _)
   | (with_reducible exact ih3 _ _ _ _ _)
   | (with_reducible exact ih4 _ _ _ _)
   | (with_reducible exact ih5 _ _ _)
   | (with_reducible exact ih6 _ _ _)
   | (with_reducible exact selvedgelaw15_works.mono _)
   | (with_reducible exact LeO.refl _)
   | (with_reducible exact LeO.none _)
   | (with_reducible refine LeO.ite ?_ ?_)
   | (with_reducible refine LeO.bind ?_ (fun _ => ?_))
   | exact ih0 _ _ _ _
   | exact ih1 _ _ _ _ _
   | exact ih2 _ _ _ _ _
   | exact ih3 _ _ _ _ _
   | exact ih4 _ _ _ _
   | exact ih5 _ _ _
   | exact ih6 _ _ _
   | exact selvedgelaw15_works.mono _
   | exact LeO.none _
   | refine LeO.ite ?_ ?_
   | refine LeO.bind ?_ (fun _ => ?_)
  ·intro y0 y1 y2 y3 y4
   unfold selvedgelaw15_RunsPlain.j3
   repeat' first
   | (with_reducible exact ih0 _ _ _ _)
   | (with_reducible exact ih1 _ _ _ _ _)
   | (with_reducible exact ih2 _ _ _ _ _)
   | (with_reducible exact ih3 _ _ _ _ _)
   | (with_reducible exact ih4 _ _ _ _)
   | (with_reducible exact ih5 _ _ _)
   | (with_reducible exact ih6 _ _ _)
   | (with_reducible exact selvedgelaw15_works.mono _)
   | (with_reducible exact LeO.refl _)
   | (with_reducible exact LeO.none _)
   | (with_reducible refine LeO.ite ?_ ?_)
   | (with_reducible refine LeO.bind ?_ (fun _ => ?_))
   | exact ih0 _ _ _ _
   | exact ih1 _ _ _ _ _
   | exact ih2 _ _ _ _ _
   | exact ih3 _ _ _ _ _
   | exact ih4 _ _ _ _
   | exact ih5 _ _ _
   | exact ih6 _ _ _
   | exact selvedgelaw15_works.mono _
   | exact LeO.none _
   | refine LeO.ite ?_ ?_
   | refine LeO.bind ?_ (fun _ => ?_)
  ·intro y0 y1 y2 y3
   unfold selvedgelaw15_RunsPlain.j4
   repeat' first
   | (with_reducible exact ih0 _ _ _ _)
   | (with_reducible exact ih1 _ _ _ _ _)
   | (with_reducible exact ih2 _ _ _ _ _)
   | (with_reducible exact ih3 _ _ _ _ _)
   | (with_reducible exact ih4 _ _ _ _)
   | (with_reducible exact ih5 _ _ _)
   | (with_reducible exact ih6 _ _ _)
   | (with_reducible exact selvedgelaw15_works.mono _)
   | (with_reducible exact LeO.refl _)
   | (with_reducible exact LeO.none _)
   | (with_reducible refine LeO.ite ?_ ?_)
   | (with_reducible refine LeO.bind ?_ (fun _ => ?_))
   | exact ih0 _ _ _ _
   | exact ih1 _ _ _ _ _
   | exact ih2 _ _ _ _ _
   | exact ih3 _ _ _ _ _
   | exact ih4 _ _ _ _
   | exact ih5 _ _ _
   | exact ih6 _ _ _
   | exact selvedgelaw15_works.mono _
   | exact LeO.none _
   | refine LeO.ite ?_ ?_
   | refine LeO.bind ?_ (fun _ => ?_)
  ·intro y0 y1 y2
   unfold selvedgelaw15_RunsPlain.j5
   repeat' first
   | (with_reducible exact ih0 _ _ _ _)
   | (with_reducible exact ih1 _ _ _ _ _)
   | (with_reducible exact ih2 _ _ _ _ _)
   | (with_reducible exact ih3 _ _ _ _ _)
   | (with_reducible exact ih4 _ _ _ _)
   | (with_reducible exact ih5 _ _ _)
   | (with_reducible exact ih6 _ _ _)
   | (with_reducible exact selvedgelaw15_works.mono _)
   | (with_reducible exact LeO.refl _)
   | (with_reducible exact LeO.none _)
   | (with_reducible refine LeO.ite ?_ ?_)
   | (with_reducible refine LeO.bind ?_ (fun _ => ?_))
   | exact ih0 _ _ _ _
   | exact ih1 _ _ _ _ _
   | exact ih2 _ _ _ _ _
   | exact ih3 _ _ _ _ _
   | exact ih4 _ _ _ _
   | exact ih5 _ _ _
   | exact ih6 _ _ _
   | exact selvedgelaw15_works.mono _
   | exact LeO.none _
   | refine LeO.ite ?_ ?_
   | refine LeO.bind ?_ (fun _ => ?_)
  ·intro y0 y1 y2
   unfold selvedgelaw15_RunsPlain.l2
   repeat' first
   | (with_reducible exact ih0 _ _ _ _)
   | (with_reducible exact ih1 _ _ _ _ _)
   | (with_reducible exact ih2 _ _ _ _ _)
   | (with_reducible exact ih3 _ _ _ _ _)
   | (with_reducible exact ih4 _ _ _ _)
   | (with_reducible exact ih5 _ _ _)
   | (with_reducible exact ih6 _ _ _)
   | (with_reducible exact selvedgelaw15_works.mono _)
   | (with_reducible exact LeO.refl _)
   | (with_reducible exact LeO.none _)
   | (with_reducible refine LeO.ite ?_ ?_)
   | (with_reducible refine LeO.bind ?_ (fun _ => ?_))
   | exact ih0 _ _ _ _
   | exact ih1 _ _ _ _ _
   | exact ih2 _ _ _ _ _
   | exact ih3 _ _ _ _ _
   | exact ih4 _ _ _ _
   | exact ih5 _ _ _
   | exact ih6 _ _ _
   | exact selvedgelaw15_works.mono _
   | exact LeO.none _
   | refine LeO.ite ?_ ?_
   | refine LeO.bind ?_ (fun _ => ?_)
theorem selvedgelaw15_RunsPlain.mono : ∀ a0 a1 a2 k, LeO (selvedgelaw15_RunsPlain.f k a0 a1 a2) (selvedgelaw15_RunsPlain.f (k + 1) a0 a1 a2) := by
 intro a0 a1 a2 k
 obtain ⟨ih0, ih1, ih2, ih3, ih4, ih5, ih6⟩ := selvedgelaw15_RunsPlain.mono_l k
 unfold selvedgelaw15_RunsPlain.f
 repeat' first
   | (with_reducible exact ih0 _ _ _ _)
   | (with_reducible exact ih1 _ _ _ _ _)
   | (with_reducible exact ih2 _ _ _ _ _)
   | (with_reducible exact ih3 _ _ _ _ _)
   | (with_reducible exact ih4 _ _ _ _)
   | (with_reducible exact ih5 _ _ _)
   | (with_reducible exact ih6 _ _ _)
   | (with_reducible exact selvedgelaw15_works.mono _)
   | (with_reducible exact LeO.refl _)
   | (with_reducible exact LeO.none _)
   | (with_reducible refine LeO.ite ?_ ?_)
   | (with_reducible refine LeO.bind ?_ (fun _ => ?_))
   | exact ih0 _ _ _ _
   | exact ih1 _ _ _ _ _
   | exact ih2 _ _ _ _ _
   | exact ih3 _ _ _ _ _
   | exact ih4 _ _ _ _
   | exact ih5 _ _ _
   | exact ih6 _ _ _
   | exact selvedgelaw15_works.mono _
   | exact LeO.none _
   | refine LeO.ite ?_ ?_
   | refine LeO.bind ?_ (fun _ => ?_)
set_option maxHeartbeats 8000000 in
set_option maxRecDepth 100000 in
theorem selvedgelaw15_RunsPlain.calls (k : Nat) (A0 : Option Addr) (c0 : Nat) (l0 : List Int) (a1 : Int) (a2 : Int) (r : Bool) (w : World) (hr0 : Kd.C (Kd.int .u8) w A0 l0.length l0) (hc0 : l0.length ≤ c0) (h : selvedgelaw15_RunsPlain.f k l0 a1 a2 = some r) :
  Calls Try.prog 6 #[.slice A0 l0.length c0, .int .u8 a1, .int .u8 a2] w fun e w' => e = .returned (.bool r) ∧ Below w.heap.size w w' := by
 have HR0 := Aside0.mk hr0
 have HC0 := Aside0.mk hc0
 clear hr0 hc0
 have HB := Aside0.mk (Below.refl w.heap.size w)
 have H : (if (l0.length : Int) > 2000 then (selvedgelaw15_RunsPlain.j0 k l0 a1 a2 true) else (selvedgelaw15_RunsPlain.j0 k l0 a1 a2 (decide (a1 < a2)))) = some r := h
 clear h
 have HC4 := Aside0.mk H
 clear H
 go_enter Try.func6, Try.ntmps6
 go_upto_region 1 with (fail)
 go_cut [22] (fun v22 wc => ∃ (kq : Nat) (x22_3 : Bool), v22 = .bool x22_3 ∧ Aside0 (selvedgelaw15_RunsPlain.j0 kq l0 a1 a2 x22_3 = some r) ∧ Aside0 (kq ≤ k) ∧ Aside0 (Below w.heap.size w wc))
 case first =>
  have H := HC4.out
  clear HC4
  by_cases c5 : (l0.length : Int) > 2000
  ·rw [if_pos c5] at H
   have c5b0 : decide (2000 < (l0.length : Int)) = true := decide_eq_true c5
   have c5b1 : decide (2000 < l0.length) = true := decide_eq_true (by omega)
   clear c5
   (first | rw [c5b0] | (simp only [i64_w, i32_w]; rw [c5b0]) | skip)
   have H' := Aside0.mk H
   clear H
   go_wp2
   go_meet
   case rel => exact ⟨_, (true), (by first | rfl | (simp; done) | (simp [*]; done)), H', ⟨by first | omega | exact Nat.le_refl _⟩, ⟨mvB HB⟩⟩
  ·rw [if_neg c5] at H
   have c5b0 : decide (2000 < (l0.length : Int)) = false := decide_eq_false c5
   have c5b1 : decide (2000 < l0.length) = false := decide_eq_false (by omega)
   clear c5
   (first | rw [c5b0] | (simp only [i64_w, i32_w]; rw [c5b0]) | skip)
   have H' := Aside0.mk H
   clear H
   go_wp2
   go_meet
   case rel => exact ⟨_, (decide (a1 < a2)), (by first | rfl | (simp; done) | (simp [*]; done)), H', ⟨by first | omega | exact Nat.le_refl _⟩, ⟨mvB HB⟩⟩
 case rest =>
  clear HC4
  try clear p2
  try clear c5
  try clear c5b0
  try clear c5b1
  obtain ⟨kq, x22_3, rfl, HA, HJ3, HB⟩ := hcut
  cases kq with
  | zero => exact absurd HA.out (by simp [selvedgelaw15_RunsPlain.j0])
  | succ kj3 =>
   have H := HA.out
   clear HA
   simp only [selvedgelaw15_RunsPlain.j0] at H
   by_cases c6 : x22_3 = true
   ·subst c6
    have H1 : ((selvedgelaw15_works.f kj3).bind fun t357 => (some t357)) = some r := by rw [if_pos rfl] at H; exact H
    clear H
    have H := H1
    clear H1
    replace H := Option.bind_eq_some_iff.mp H
    obtain ⟨t357, A70, H⟩ := H
    replace H : (some t357) = some r := H
    have A7 := Aside0.mk A70
    clear A70
    obtain rfl := Option.some.inj H
    go_wp2_with (first | ((with_reducible refine gate_callee (f := 8) rfl ?_); refine goesL_ (some 23) rfl rfl Try.func8 (by kernel_rfl) rfl #[] rfl (by (try simp only [List.map_toArray, List.map_cons, List.map_nil]); first | done | rfl | (simp only [List.length_drop, List.length_take]; rfl)) ?_; (with_reducible refine (selvedgelaw15_works.calls kj3  t357 _ A7.out).mono ?_); rintro e w8 ⟨rfl, hb⟩; refine ⟨_, rfl, ?_⟩; have n0_ := Aside0.mk (below_step (mvB HB) hb); clear HB; have HB := n0_; clear n0_; (try clear hb); (try clear hb2); (try clear hk); (try clear hi)))
    go_ret
    exact ⟨by first | rfl | (simp [errW_none, errW_some] <;> rfl) | (simp [*, errW_none, errW_some] <;> rfl), mvB HB⟩
   ·replace c6 := Bool.eq_false_iff.mpr c6
    subst c6
    have H1 : (selvedgelaw15_RunsPlain.l0 kj3 l0 a1 a2 ([] : List Int) 0) = some r := by rw [if_neg (show ¬ (false = true) by decide)] at H; exact H
    clear H
    have H := H1
    clear H1
    have H' := Aside0.mk H
    clear H
    go_wp2
    go_loopg [7, 8] kj3 (fun kq v7 v8 w' => ∃ (x7_2 : List Int) (x8_2 : Int), v8 = .int .i64 x8_2 ∧ Aside0 (selvedgelaw15_RunsPlain.l0 kq l0 a1 a2 x7_2 x8_2 = some r) ∧ Aside0 (kq ≤ kj3) ∧ Aside0 (Kd.R (Kd.int .u8) 34 w' w.heap.size (fun _ => True) v7 x7_2) ∧ Aside0 (Below w.heap.size w w'))
    case atStart => exact ⟨(([] : List Int)), (0), (by first | rfl | (simp; done) | (simp [*]; done)), H', ⟨Nat.le_refl _⟩, ⟨by first | exact Kd.R_nil _ _ _ _ _ | exact Kd.N_nil _ _ _ _ _ | exact Kd.V_nil _ _ _ _ _ | exact Kd.Q_nil _ _ _ _ _ | exact Kd.S_nil _ _ _ _ _⟩, ⟨mvB HB⟩⟩
    case round =>
     clear H'
     try clear p2
     try clear c5
     try clear c5b0
     try clear c5b1
     try clear c6
     try clear c8
     try clear p2
     obtain ⟨x7_2, x8_2, rfl, HA, HK2, HO_7, HB⟩ := hrel
     cases gk with
     | zero => exact absurd HA.out (by simp [selvedgelaw15_RunsPlain.l0])
     | succ k2 =>
      have H := HA.out
      clear HA
      simp only [selvedgelaw15_RunsPlain.l0] at H
      by_cases c9 : x8_2 < (l0.length : Int)
      ·rw [if_pos c9] at H
       have c9b0 : decide (x8_2 < (l0.length : Int)) = true := decide_eq_true c9
       clear c9
       by_cases c10 : 0 ≤ x8_2
       ·rw [if_pos c10] at H
        have c10b0 : decide (0 ≤ x8_2) = true := decide_eq_true c10
        clear c10
        replace H := Option.bind_eq_some_iff.mp H
        obtain ⟨t359, A110, H⟩ := H
        replace H : (if t359 = true then (selvedgelaw15_RunsPlain.l0 k2 l0 a1 a2 x7_2 (wrap64 (x8_2 + 1))) else (if x7_2.length < 140737488355328 then (selvedgelaw15_RunsPlain.l0 k2 l0 a1 a2 (x7_2 ++ [rd l0 x8_2]) (wrap64 (x8_2 + 1))) else (none))) = some r := H
        have A11 := Aside0.mk A110
        clear A110
        by_cases c12 : t359 = true
        ·subst c12
         have H1 : (selvedgelaw15_RunsPlain.l0 k2 l0 a1 a2 x7_2 (wrap64 (x8_2 + 1))) = some r := by rw [if_pos rfl] at H; exact H
         clear H
         have H := H1
         clear H1
         have H' := Aside0.mk H
         clear H
         obtain ⟨ad358, e358, hx358_0, p358, q358⟩ := atI HR0.out x8_2
         cases e358
         replace hx358_0 := (HB.out.cell (World.block_lt_of_cell? w _ hx358_0)).trans hx358_0
         go_wp2_with (first | ((with_reducible refine gate_callee (f := 14) rfl ?_); refine goesL_ (some 34) rfl rfl Try.func14 (by kernel_rfl) rfl #[.int .u8 (rd l0 x8_2)] rfl (by (try simp only [List.map_toArray, List.map_cons, List.map_nil]); first | done | rfl | (simp only [List.length_drop, List.length_take]; rfl)) ?_; (with_reducible refine (selvedgeref14_Removed.calls (rd l0 x8_2) true _ A11.out).mono ?_); rintro e w' ⟨rfl, ⟨nd, rfl⟩⟩; refine ⟨_, rfl, ?_⟩))
         go_roundg k2
         case measure => have := HJ3.out; have := HK2.out; omega
         case rel => exact ⟨(x7_2), (wrap64 (x8_2 + 1)), (by first | rfl | (simp; done) | (simp [*]; done)), H', ⟨by have := HJ3.out; have := HK2.out; omega⟩, ⟨mvR HO_7⟩, ⟨mvB HB⟩⟩
        ·replace c12 := Bool.eq_false_iff.mpr c12
         subst c12
         have H1 : (if x7_2.length < 140737488355328 then (selvedgelaw15_RunsPlain.l0 k2 l0 a1 a2 (x7_2 ++ [rd l0 x8_2]) (wrap64 (x8_2 + 1))) else (none)) = some r := by rw [if_neg (show ¬ (false = true) by decide)] at H; exact H
         clear H
         have H := H1
         clear H1
         by_cases c13 : x7_2.length < 140737488355328
         ·rw [if_pos c13] at H
          have LMc13 := Aside0.mk c13
          clear c13
          obtain ⟨y361, hy361⟩ : ∃ y_ : List Int, y_ = (x7_2 ++ [rd l0 x8_2]) := ⟨_, rfl⟩
          replace H : (selvedgelaw15_RunsPlain.l0 k2 l0 a1 a2 y361 (wrap64 (x8_2 + 1))) = some r := by first | (rw [hy361]; with_reducible exact H) | (have H2_ := (Option.bind_some _ _).symm.trans H; rw [hy361]; with_reducible exact H2_) | (have H2_ := (Option.bind_some _ _).symm.trans H; with_reducible exact H2_) | with_reducible exact H | (rw [hy361]; exact H) | exact H
          have Ny361 := Aside0.mk hy361
          clear hy361
          have H' := Aside0.mk H
          clear H
          obtain ⟨ad358, e358, hx358_0, p358, q358⟩ := atI HR0.out x8_2
          cases e358
          replace hx358_0 := (HB.out.cell (World.block_lt_of_cell? w _ hx358_0)).trans hx358_0
          go_wp2_with (first | ((with_reducible refine gate_callee (f := 14) rfl ?_); refine goesL_ (some 34) rfl rfl Try.func14 (by kernel_rfl) rfl #[.int .u8 (rd l0 x8_2)] rfl (by (try simp only [List.map_toArray, List.map_cons, List.map_nil]); first | done | rfl | (simp only [List.length_drop, List.length_take]; rfl)) ?_; (with_reducible refine (selvedgeref14_Removed.calls (rd l0 x8_2) false _ A11.out).mono ?_); rintro e w' ⟨rfl, ⟨nd, rfl⟩⟩; refine ⟨_, rfl, ?_⟩; obtain ⟨ad360, e360, hx360_0, p360, q360⟩ := atI HR0.out x8_2; obtain rfl : ad358 = ad360 := (by injection e360); replace hx360_0 := (HB.out.cell (World.block_lt_of_cell? w _ hx360_0)).trans hx360_0) | ((with_reducible refine gate_builtin (b := .append) (xs := #[.tmp 36, .tmp 41]) rfl ?_); (try (refine gate_guard (by rfl) ?_; dsimp only)); at_builtin; refine Kd.R_append (Kd.int .u8) (w0 := w) w.heap.size rfl (.tmp 36) (.tmp 41) 22 34 (.int .u8 0) 1 rfl Try.underlying22 info34 rfl (by decide) (by omega) u7 x7_2 (rd l0 x8_2) [.int .u8 (rd l0 x8_2)] (fun _ => True) (fun _ => False) rfl rfl ?aP (fun _ hk => hk.elim) ?aF ?aO ?aB ?aS ?aL ?_; (case aP => exact rfl); (case aB => exact (mvB HB)); (case aF => exact (fun _ _ => trivial)); (case aO => exact (mvR HO_7)); (case aS => exact (below_size (mvB HB))); (case aL => have := LMc13.out; omega); intro v362 w14 ho hb hg hat; rw [← Ny361.out] at ho; have n0_ := Aside0.mk (hb); have n1_ := Aside0.mk (ho); clear HB; clear HO_7; have HB := n0_; have HO363 := n1_; clear n0_ n1_; clear ho hb hg hat))
          go_roundg k2
          case measure => have := HJ3.out; have := HK2.out; omega
          case rel => exact ⟨(y361), (wrap64 (x8_2 + 1)), (by first | rfl | (simp; done) | (simp [*]; done)), H', ⟨by have := HJ3.out; have := HK2.out; omega⟩, ⟨mvR HO363⟩, ⟨mvB HB⟩⟩
         ·rw [if_neg c13] at H
          exact absurd H (by simp)
       ·rw [if_neg c10] at H
        exact absurd H (by simp)
      ·rw [if_neg c9] at H
       have c9b0 : decide (x8_2 < (l0.length : Int)) = false := decide_eq_false c9
       clear c9
       by_cases c15 : 0 ≤ (x7_2.length : Int)
       ·rw [if_pos c15] at H
        have c15b0 := eq_true c15
        have c15b1 : decide (0 ≤ (x7_2.length : Int)) = true := decide_eq_true c15
        clear c15
        by_cases c16 : ((x7_2.length : Int) : Int).toNat ≤ 281474976710656
        ·rw [if_pos c16] at H
         have c16b0 := eq_true c16
         have c16b1 : decide (((x7_2.length : Int) : Int).toNat ≤ 281474976710656) = true := decide_eq_true c16
         clear c16
         obtain ⟨y364, hy364⟩ : ∃ y_ : List Int, y_ = (List.replicate ((x7_2.length : Int) : Int).toNat 0) := ⟨_, rfl⟩
         replace H : (selvedgelaw15_RunsPlain.l1 k2 a1 a2 x7_2 y364 0) = some r := by first | (rw [hy364]; with_reducible exact H) | (have H2_ := (Option.bind_some _ _).symm.trans H; rw [hy364]; with_reducible exact H2_) | (have H2_ := (Option.bind_some _ _).symm.trans H; with_reducible exact H2_) | with_reducible exact H | (rw [hy364]; exact H) | exact H
         have Ny364 := Aside0.mk hy364
         clear hy364
         have H' := Aside0.mk H
         clear H
         obtain ⟨Ao17, co17, eo17⟩ := Kd.R_slice HO_7.out
         subst eo17
         go_wp2_with (first | ((with_reducible refine gate_dst (N := 45) rfl ?_); (try (refine gate_guard (by rfl) ?_; dsimp only)); refine Kd.R_make (Kd.int .u8) _ 5 rfl (N := 45) rfl 23 _ _ rfl (x7_2.length : Int) rfl rfl Try.underlying23 (.int .u8 0) 1 info5 rfl (by decide) (by omega) 0 (ok := fun _ => True) (okp := fun _ => True) rfl (fun _ hk => hk) trivial (of_decide_eq_true (by first | (with_reducible assumption) | assumption)) (Nat.le_trans (Nat.mul_le_mul_right _ (of_decide_eq_true (by first | (with_reducible assumption) | assumption) : (x7_2.length : Int).toNat ≤ 281474976710656)) (by omega)) (Below.refl _ _) (Nat.le_refl _) ?_; intro v365 w18 ho19 hb hg_ hnew_; clear hg_ hnew_; (first | rw [← Ny364.out] at ho19 | (simp only [Int.reduceToNat] at ho19; rw [← Ny364.out] at ho19)); have n0_ := Aside0.mk (Kd.R_below (mvR HO_7) hb); have n1_ := Aside0.mk (Kd.R_lower ho19 (below_size (mvB HB))); have n2_ := Aside0.mk (below_step (mvB HB) hb); clear HO_7; clear HB; have HO_7 := n0_; have HO366 := n1_; have HB := n2_; clear n0_ n1_ n2_; clear hb ho19))
         go_loopg [10] k2 (fun kq v10 w' => ∃ (x9_3 : List Int) (x10_3 : Int), v10 = .int .i64 x10_3 ∧ Aside0 (selvedgelaw15_RunsPlain.l1 kq a1 a2 x7_2 x9_3 x10_3 = some r) ∧ Aside0 (kq ≤ k2) ∧ Aside0 (Kd.R (Kd.int .u8) 34 w' w.heap.size (fun _ => True) (.slice Ao17 x7_2.length co17) x7_2) ∧ Aside0 (Kd.R (Kd.int .u8) 5 w' w.heap.size (fun _ => True) v365 x9_3) ∧ Aside0 (Below w.heap.size w w'))
         case atStart => exact ⟨(y364), (0), (by first | rfl | (simp; done) | (simp [*]; done)), H', ⟨Nat.le_refl _⟩, ⟨mvR HO_7⟩, ⟨mvR HO366⟩, ⟨mvB HB⟩⟩
         case round =>
          clear H'
          try clear c1
          try clear p2
          try clear p3
          try clear q3
          try clear hx3
          try clear c5
          try clear c5b0
          try clear c5b1
          try clear c6
          try clear p6
          try clear c8
          try clear c9
          try clear c9b0
          try clear c10
          try clear c10b0
          try clear c12
          try clear c13
          try clear c14
          try clear c15
          try clear c15b0
          try clear c15b1
          try clear c16
          try clear c16b0
          try clear c16b1
          try clear hx358_0
          try clear hx360_0
          try clear p2
          try clear p358
          try clear p360
          try clear q358
          try clear q360
          obtain ⟨x9_3, x10_3, rfl, HA, HK3, HO_7, HO_9, HB⟩ := hrel
          cases gk with
          | zero => exact absurd HA.out (by simp [selvedgelaw15_RunsPlain.l1])
          | succ k3 =>
           have H := HA.out
           clear HA
           simp only [selvedgelaw15_RunsPlain.l1] at H
           by_cases c20 : x10_3 < (x9_3.length : Int)
           ·rw [if_pos c20] at H
            have c20b0 : decide (x10_3 < (x9_3.length : Int)) = true := decide_eq_true c20
            clear c20
            by_cases c21 : 0 ≤ x10_3
            ·rw [if_pos c21] at H
             have c21b0 : decide (0 ≤ x10_3) = true := decide_eq_true c21
             clear c21
             obtain ⟨y367, hy367⟩ : ∃ y_ : List Int, y_ = (x9_3.set (x10_3 : Int).toNat a1) := ⟨_, rfl⟩
             replace H : (selvedgelaw15_RunsPlain.l1 k3 a1 a2 x7_2 y367 (wrap64 (x10_3 + 1))) = some r := by first | (rw [hy367]; with_reducible exact H) | (have H2_ := (Option.bind_some _ _).symm.trans H; rw [hy367]; with_reducible exact H2_) | (have H2_ := (Option.bind_some _ _).symm.trans H; with_reducible exact H2_) | with_reducible exact H | (rw [hy367]; exact H) | exact H
             have Ny367 := Aside0.mk hy367
             clear hy367
             have H' := Aside0.mk H
             clear H
             obtain ⟨Ao23, co23, eo23⟩ := Kd.R_slice HO_9.out
             subst eo23
             have p22 := dT (0 ≤ (x10_3 : Int))
             have q22 : (x10_3 : Int) < ((x9_3.length : Int) : Int) := of_decide_eq_true (by first | (with_reducible assumption) | assumption)
             obtain ⟨go22, co22, eo22, gb22, gl22, cl22, HG22⟩ := Kd.R_form HO_9.out (by omega)
             (first | cases eo22 | (injection eo22 with ea_ en_ ec_; (first | subst ea_ | (injection ea_ with ea_; subst ea_)); subst ec_; clear en_))
             have GB22 := Aside0.mk gb22
             have GG22 := Aside0.mk HG22
             clear gb22 gl22 HG22
             obtain ⟨hx22_0, hf22_0⟩ := Kd.R_celln 0 HO_9.out (x10_3 : Int) p22 q22
             replace p22 := eq_true p22
             replace q22 := eq_true q22
             have HP24 := Kd.R_putg HO_9.out (x10_3 : Int) a1
             go_wp2_with (first | ((with_reducible refine gate_store (t := 5) (p := 55) rfl ?_); refine store_event (t := 5) (p := 55) (v := ?vo_w25) (w1 := (wr.setCell ⟨go22, (x10_3 : Int).toNat, none⟩ (.int .u8 a1))) ?hg ?ho ?hn ?hr ?_; (case ho => rfl); (case hg => rfl); (case hn => rfl); (case hr => first | (go_simp; done) | (go_simp; rfl)); intro w25 hw; have hg : wr.grownBy w25 (some go22) := (by rw [hw]; exact HP24.2); have hp_ : Kd.R (Kd.int .u8) 5 w25 w.heap.size (fun _ => True) (.slice (some ⟨go22, 0, none⟩) x9_3.length co23) y367 := (by rw [hw, Ny367.out]; exact HP24.1); clear HP24; have n0_ := Aside0.mk (Kd.R_over' (v := (.slice (some ⟨go22, 0, none⟩) x9_3.length co23)) (mvR HO_7) (Kd.R_typed HO_9.out) (by decide) hg); have n1_ := Aside0.mk (hp_); have n2_ := Aside0.mk ((by rw [hw]; exact below_set (HB.out) GB22.out : Below w.heap.size w w25)); clear HO_7; clear HO_9; clear HB; have HO_7 := n0_; have HO_9 := n1_; have HB := n2_; clear n0_ n1_ n2_; clear hg hw hp_))
             go_roundg k3
             case measure => have := HJ3.out; have := HK2.out; have := HK3.out; omega
             case rel => exact ⟨(y367), (wrap64 (x10_3 + 1)), (by first | rfl | (simp; done) | (simp [*]; done)), H', ⟨by have := HJ3.out; have := HK2.out; have := HK3.out; omega⟩, ⟨mvR HO_7⟩, ⟨mvR HO_9⟩, ⟨mvB HB⟩⟩
            ·rw [if_neg c21] at H
             exact absurd H (by simp)
           ·rw [if_neg c20] at H
            have c20b0 : decide (x10_3 < (x9_3.length : Int)) = false := decide_eq_false c20
            clear c20
            replace H := Option.bind_eq_some_iff.mp H
            obtain ⟨⟨t368, t369⟩, A260, H⟩ := H
            replace H : (if t369 = 0 then (selvedgelaw15_RunsPlain.j3 k3 a1 x7_2 t368 t369 ((x7_2.length : Int) == 0)) else (selvedgelaw15_RunsPlain.j3 k3 a1 x7_2 t368 t369 true)) = some r := H
            have A26 := Aside0.mk A260
            clear A260
            have HC27 := Aside0.mk H
            clear H
            obtain ⟨Ao28, co28, eo28⟩ := Kd.R_slice HO_9.out
            subst eo28
            go_upto_region 15 with (first | ((with_reducible refine gate_callee (f := 10) rfl ?_); refine goesL_ (some 60) rfl rfl Try.func10 (by kernel_rfl) rfl #[.slice Ao17 x7_2.length co17, .slice Ao28 x9_3.length co28, .int .u8 a2] rfl (by (try simp only [List.map_toArray, List.map_cons, List.map_nil]); first | done | rfl | (simp only [List.length_drop, List.length_take]; rfl)) ?_; (with_reducible refine (runs_Sequences.calls _ _ x7_2 _ _ x9_3 a2 t368 t369 _ ?side1 ?side2 ?side3 ?side4 A26.out).mono ?_); (case side1 => repeat (first | exact (Kd.R_reads' HO_7.out).2.2 | (with_reducible refine Kd.C_alloc ?_ _) | (with_reducible refine Kd.C_drewN ?_ _) | (with_reducible refine Kd.C_drew ?_))); (case side2 => exact (Kd.R_reads' HO_7.out).2.1); (case side3 => repeat (first | exact (Kd.R_reads' HO_9.out).2.2 | (with_reducible refine Kd.C_alloc ?_ _) | (with_reducible refine Kd.C_drewN ?_ _) | (with_reducible refine Kd.C_drew ?_))); (case side4 => exact (Kd.R_reads' HO_9.out).2.1); rintro e w29 ⟨v370, rfl, ho0, hb⟩; refine ⟨_, rfl, ?_⟩; have n0_ := Aside0.mk (Kd.R_below (mvR HO_7) hb); have n1_ := Aside0.mk (Kd.R_below (mvR HO_9) hb); have n2_ := Aside0.mk (Kd.S_lower ho0 (below_size (mvB HB))); have n3_ := Aside0.mk (below_step (mvB HB) hb); clear HO_7; clear HO_9; clear HB; have HO_7 := n0_; have HO_9 := n1_; have HO371 := n2_; have HB := n3_; clear n0_ n1_ n2_ n3_; (try clear hb); (try clear hb2); (try clear hk); (try clear hi); (try clear ho0)))
            (try simp only [Act.put, List.setIfInBounds_toArray, List.set_cons_zero, List.set_cons_succ])
            go_cut [69] (fun v69 wc => ∃ (kq : Nat) (x69_26 : Bool), v69 = .bool x69_26 ∧ Aside0 (selvedgelaw15_RunsPlain.j3 kq a1 x7_2 t368 t369 x69_26 = some r) ∧ Aside0 (kq ≤ k3) ∧ Aside0 (Kd.R (Kd.int .u8) 34 wc w.heap.size (fun _ => True) (.slice Ao17 x7_2.length co17) x7_2) ∧ Aside0 (Kd.S k36 36 wc w.heap.size (fun _ => True) v370 t368) ∧ Aside0 (Below w.heap.size w wc))
            case first =>
             have H := HC27.out
             clear HC27
             by_cases c30 : t369 = 0
             ·rw [if_pos c30] at H
              have c30b0 : (t369 == 0) = true := beq_iff_eq.mpr c30
              have c30b1 : (t369 != 0) = false := bne_eq_false_iff_eq.mpr c30
              clear c30
              (first | rw [c30b0] | (simp only [i64_w, i32_w]; rw [c30b0]) | skip)
              have H' := Aside0.mk H
              clear H
              go_wp2
              go_meet
              case rel => exact ⟨_, (((x7_2.length : Int) == 0)), (by first | rfl | (simp; done) | (simp [*]; done)), H', ⟨by have := HJ3.out; have := HK2.out; have := HK3.out; first | omega | exact Nat.le_refl _⟩, ⟨mvR HO_7⟩, ⟨by (with_reducible repeat (first | apply Kd.S_alloc | apply Kd.S_drewN | apply Kd.S_drew)); exact HO371.out⟩, ⟨mvB HB⟩⟩
             ·rw [if_neg c30] at H
              have c30b0 : (t369 == 0) = false := beq_eq_false_iff_ne.mpr c30
              have c30b1 : (t369 != 0) = true := bne_iff_ne.mpr c30
              (first | rw [c30b0] | (simp only [i64_w, i32_w]; rw [c30b0]) | skip)
              have H' := Aside0.mk H
              clear H
              go_wp2
              go_meet
              case rel => exact ⟨_, (true), (by first | rfl | (simp; done) | (simp [*]; done)), H', ⟨by have := HJ3.out; have := HK2.out; have := HK3.out; first | omega | exact Nat.le_refl _⟩, ⟨mvR HO_7⟩, ⟨by (with_reducible repeat (first | apply Kd.S_alloc | apply Kd.S_drewN | apply Kd.S_drew)); exact HO371.out⟩, ⟨mvB HB⟩⟩
            case rest =>
             clear HC27
             try clear c1
             try clear c2
             try clear p2
             try clear q2
             try clear hx2
             try clear c3
             try clear p3
             try clear q3
             try clear hx3
             try clear c5
             try clear c5b0
             try clear c5b1
             try clear c6
             try clear p6
             try clear c8
             try clear c9
             try clear c9b0
             try clear c10
             try clear c10b0
             try clear c12
             try clear c13
             try clear c14
             try clear c15
             try clear c15b0
             try clear c15b1
             try clear c16
             try clear c16b0
             try clear c16b1
             try clear c20
             try clear c20b0
             try clear c21
             try clear c21b0
             try clear p22
             try clear q22
             try clear hx22
             try clear hf22
             try clear c30
             try clear c30b0
             try clear c30b1
             try clear hx22_0
             try clear hx358_0
             try clear hx360_0
             try clear p2
             try clear p22
             try clear p3
             try clear p358
             try clear p360
             try clear p6
             try clear q22
             try clear q3
             try clear q358
             try clear q360
             obtain ⟨kq, x69_26, rfl, HA, HJ26, HO_7, HO_11, HB⟩ := hcut
             cases kq with
             | zero => exact absurd HA.out (by simp [selvedgelaw15_RunsPlain.j3])
             | succ kj26 =>
              have H := HA.out
              clear HA
              simp only [selvedgelaw15_RunsPlain.j3] at H
              by_cases c31 : x69_26 = true
              ·subst c31
               have H1 : (if t369 = 0 then (if (t368.length : Int) = 0 then ((selvedgelaw15_works.f kj26).bind fun t372 => (some t372)) else (some false)) else (some false)) = some r := by rw [if_pos rfl] at H; exact H
               clear H
               have H := H1
               clear H1
               by_cases c32 : t369 = 0
               ·rw [if_pos c32] at H
                have c32b0 : (t369 == 0) = true := beq_iff_eq.mpr c32
                have c32b1 : (t369 != 0) = false := bne_eq_false_iff_eq.mpr c32
                clear c32
                by_cases c33 : (t368.length : Int) = 0
                ·rw [if_pos c33] at H
                 have c33b0 : ((t368.length : Int) == 0) = true := beq_iff_eq.mpr c33
                 have c33b1 : ((t368.length : Int) != 0) = false := bne_eq_false_iff_eq.mpr c33
                 clear c33
                 replace H := Option.bind_eq_some_iff.mp H
                 obtain ⟨t372, A340, H⟩ := H
                 replace H : (some t372) = some r := H
                 have A34 := Aside0.mk A340
                 clear A340
                 obtain rfl := Option.some.inj H
                 obtain ⟨Ao35, co35, eo35⟩ := Kd.S_slice HO_11.out
                 subst eo35
                 go_wp2_with (first | (go_at_call 8; (with_reducible refine (selvedgelaw15_works.calls kj26  t372 _ A34.out).mono ?_); rintro e w36 ⟨rfl, hb⟩; have n0_ := Aside0.mk (Kd.R_below (mvR HO_7) hb); have n1_ := Aside0.mk (Kd.S_below (by (with_reducible repeat (first | apply Kd.S_alloc | apply Kd.S_drewN | apply Kd.S_drew)); exact HO_11.out) hb); have n2_ := Aside0.mk (below_step (mvB HB) hb); clear HO_7; clear HO_11; clear HB; have HO_7 := n0_; have HO_11 := n1_; have HB := n2_; clear n0_ n1_ n2_; (try clear hb); (try clear hb2); (try clear hk); (try clear hi)))
                 go_ret
                 exact ⟨by first | rfl | (simp [errW_none, errW_some] <;> rfl) | (simp [*, errW_none, errW_some] <;> rfl), mvB HB⟩
                ·rw [if_neg c33] at H
                 have c33b0 : ((t368.length : Int) == 0) = false := beq_eq_false_iff_ne.mpr c33
                 have c33b1 : ((t368.length : Int) != 0) = true := bne_iff_ne.mpr c33
                 have c33b2 : ¬ (t368 = []) := fun h_ => c33 (by rw [h_]; rfl)
                 obtain rfl := Option.some.inj H
                 obtain ⟨Ao37, co37, eo37⟩ := Kd.S_slice HO_11.out
                 subst eo37
                 go_wp2
                 go_ret
                 exact ⟨by first | rfl | (simp [errW_none, errW_some] <;> rfl) | (simp [*, errW_none, errW_some] <;> rfl), mvB HB⟩
               ·rw [if_neg c32] at H
                have c32b0 : (t369 == 0) = false := beq_eq_false_iff_ne.mpr c32
                have c32b1 : (t369 != 0) = true := bne_iff_ne.mpr c32
                obtain rfl := Option.some.inj H
                go_wp2
                go_ret
                exact ⟨by first | rfl | (simp [errW_none, errW_some] <;> rfl) | (simp [*, errW_none, errW_some] <;> rfl), mvB HB⟩
              ·replace c31 := Bool.eq_false_iff.mpr c31
               subst c31
               have H1 : (if (Int.tmod a1 2) = 1 then (selvedgelaw15_RunsPlain.j4 kj26 a1 x7_2 t368 2) else (selvedgelaw15_RunsPlain.j4 kj26 a1 x7_2 t368 1)) = some r := by rw [if_neg (show ¬ (false = true) by decide)] at H; exact H
               clear H
               have H := H1
               clear H1
               have HC38 := Aside0.mk H
               clear H
               go_upto_if 82 with (fail)
               go_cut [13] (fun v13 wc => ∃ (kq : Nat) (x13_37 : Int), v13 = .int .u8 x13_37 ∧ Aside0 (selvedgelaw15_RunsPlain.j4 kq a1 x7_2 t368 x13_37 = some r) ∧ Aside0 (kq ≤ kj26) ∧ Aside0 (Kd.R (Kd.int .u8) 34 wc w.heap.size (fun _ => True) (.slice Ao17 x7_2.length co17) x7_2) ∧ Aside0 (Kd.S k36 36 wc w.heap.size (fun _ => True) v370 t368) ∧ Aside0 (Below w.heap.size w wc))
               case first =>
                have H := HC38.out
                clear HC38
                by_cases c39 : (Int.tmod a1 2) = 1
                ·rw [if_pos c39] at H
                 have c39b0 : ((Int.tmod a1 2) == 1) = true := beq_iff_eq.mpr c39
                 have c39b1 : ((Int.tmod a1 2) != 1) = false := bne_eq_false_iff_eq.mpr c39
                 clear c39
                 (first | rw [c39b0] | (simp only [i64_w, i32_w]; rw [c39b0]) | skip)
                 have H' := Aside0.mk H
                 clear H
                 go_wp2
                 go_meet
                 case rel => exact ⟨_, (2), (by first | rfl | (simp; done) | (simp [*]; done)), H', ⟨by have := HJ3.out; have := HK2.out; have := HK3.out; have := HJ26.out; first | omega | exact Nat.le_refl _⟩, ⟨mvR HO_7⟩, ⟨by (with_reducible repeat (first | apply Kd.S_alloc | apply Kd.S_drewN | apply Kd.S_drew)); exact HO_11.out⟩, ⟨mvB HB⟩⟩
                ·rw [if_neg c39] at H
                 have c39b0 : ((Int.tmod a1 2) == 1) = false := beq_eq_false_iff_ne.mpr c39
                 have c39b1 : ((Int.tmod a1 2) != 1) = true := bne_iff_ne.mpr c39
                 (first | rw [c39b0] | (simp only [i64_w, i32_w]; rw [c39b0]) | skip)
                 have H' := Aside0.mk H
                 clear H
                 go_wp2
                 go_meet
                 case rel => exact ⟨_, (1), (by first | rfl | (simp; done) | (simp [*]; done)), H', ⟨by have := HJ3.out; have := HK2.out; have := HK3.out; have := HJ26.out; first | omega | exact Nat.le_refl _⟩, ⟨mvR HO_7⟩, ⟨by (with_reducible repeat (first | apply Kd.S_alloc | apply Kd.S_drewN | apply Kd.S_drew)); exact HO_11.out⟩, ⟨mvB HB⟩⟩
               case rest =>
                clear HC38
                try clear c1
                try clear c2
                try clear p2
                try clear q2
                try clear hx2
                try clear c3
                try clear p3
                try clear q3
                try clear hx3
                try clear c5
                try clear c5b0
                try clear c5b1
                try clear c6
                try clear p6
                try clear c8
                try clear c9
                try clear c9b0
                try clear c10
                try clear c10b0
                try clear c12
                try clear c13
                try clear c14
                try clear c15
                try clear c15b0
                try clear c15b1
                try clear c16
                try clear c16b0
                try clear c16b1
                try clear c20
                try clear c20b0
                try clear c21
                try clear c21b0
                try clear p22
                try clear q22
                try clear hx22
                try clear hf22
                try clear c30
                try clear c30b0
                try clear c30b1
                try clear c31
                try clear c32
                try clear c32b0
                try clear c32b1
                try clear c33
                try clear c33b0
                try clear c33b1
                try clear c33b2
                try clear p35
                try clear q35
                try clear hx35
                try clear p36
                try clear q36
                try clear hx36
                try clear c39
                try clear c39b0
                try clear c39b1
                try clear hx22_0
                try clear hx358_0
                try clear hx360_0
                try clear p2
                try clear p22
                try clear p3
                try clear p358
                try clear p360
                try clear p6
                try clear q2
                try clear q22
                try clear q3
                try clear q358
                try clear q360
                obtain ⟨kq, x13_37, rfl, HA, HJ37, HO_7, HO_11, HB⟩ := hcut
                cases kq with
                | zero => exact absurd HA.out (by simp [selvedgelaw15_RunsPlain.j4])
                | succ kj37 =>
                 have H := HA.out
                 clear HA
                 simp only [selvedgelaw15_RunsPlain.j4] at H
                 have HC40 := Aside0.mk H
                 clear H
                 go_upto_region 20 with (fail)
                 go_cut [119] (fun v119 wc => ∃ (kq : Nat) (x119_39 : Bool), v119 = .bool x119_39 ∧ Aside0 (selvedgelaw15_RunsPlain.j5 kq x7_2 t368 x119_39 = some r) ∧ Aside0 (kq ≤ kj37) ∧ Aside0 (Kd.R (Kd.int .u8) 34 wc w.heap.size (fun _ => True) (.slice Ao17 x7_2.length co17) x7_2) ∧ Aside0 (Kd.S k36 36 wc w.heap.size (fun _ => True) v370 t368) ∧ Aside0 (Below w.heap.size w wc))
                 case first =>
                  have H := HC40.out
                  clear HC40
                  by_cases c41 : (t368.length : Int) = 1
                  ·rw [if_pos c41] at H
                   have c41b0 : ((t368.length : Int) == 1) = true := beq_iff_eq.mpr c41
                   have c41b1 : ((t368.length : Int) != 1) = false := bne_eq_false_iff_eq.mpr c41
                   clear c41
                   (first | rw [c41b0] | (simp only [i64_w, i32_w]; rw [c41b0]) | skip)
                   by_cases c42 : 0 < (t368.length : Int)
                   ·rw [if_pos c42] at H
                    have c42b0 : decide (0 < (t368.length : Int)) = true := decide_eq_true c42
                    have c42b1 : decide (0 < t368.length) = true := decide_eq_true (by omega)
                    clear c42
                    by_cases c43 : (((rd_T36 t368 0).f0).length : Int) = (x7_2.length : Int)
                    ·rw [if_pos c43] at H
                     have c43b0 : ((((rd_T36 t368 0).f0).length : Int) == (x7_2.length : Int)) = true := beq_iff_eq.mpr c43
                     have c43b1 : ((((rd_T36 t368 0).f0).length : Int) != (x7_2.length : Int)) = false := bne_eq_false_iff_eq.mpr c43
                     have c43b2 : (((rd_T36 t368 0).f0).length == x7_2.length) = true := by first | simpa using c43 | (simp at c43 ⊢; omega)
                     clear c43
                     by_cases c44 : ((rd_T36 t368 0).f1) = a1
                     ·rw [if_pos c44] at H
                      have c44b0 : (((rd_T36 t368 0).f1) == a1) = true := beq_iff_eq.mpr c44
                      have c44b1 : (((rd_T36 t368 0).f1) != a1) = false := bne_eq_false_iff_eq.mpr c44
                      clear c44
                      by_cases c45 : ((rd_T36 t368 0).f2) = x13_37
                      ·rw [if_pos c45] at H
                       have c45b0 : (((rd_T36 t368 0).f2) == x13_37) = true := beq_iff_eq.mpr c45
                       have c45b1 : (((rd_T36 t368 0).f2) != x13_37) = false := bne_eq_false_iff_eq.mpr c45
                       clear c45
                       have H' := Aside0.mk H
                       clear H
                       obtain ⟨Ao46, co46, eo46⟩ := Kd.S_slice HO_11.out
                       subst eo46
                       have p373 : 0 ≤ (0 : Int) := (by omega)
                       have q373 := dT (0 < (t368.length : Int))
                       obtain ⟨ad373, A373_0, c373_0, e373, hx373_0, hx373_1, hx373_2, hx373_3, hl373_0, hi373_0⟩ := at_T36 (Kd.S_reads' HO_11.out).2.2 0 p373 q373
                       cases e373
                       obtain ⟨ce373, hce373, hMe373, hcc373⟩ := Kd.S_get HO_11.out z36 0 p373 (by first | exact q373 | exact of_decide_eq_true (by first | (with_reducible assumption) | assumption) | (have e_ := (Kd.S_reads' HO_11.out).1; omega))
                       obtain ⟨ve373_0, rfl, ge373_0⟩ := k36_openM hMe373
                       have hv373_0 := hcc373 0 _ rfl
                       rw [Nat.add_zero] at hv373_0
                       replace hv373_0 := Option.some.inj (hv373_0.symm.trans hx373_0)
                       rw [hv373_0] at ge373_0
                       have HL373_0 := Aside0.mk (show Kd.R (Kd.int .i64) 3 _ _ _ _ ((rd_T36 t368 0).f0) from ge373_0)
                       clear hv373_0 ge373_0
                       clear hcc373 hce373
                       have qi373 : (0 < t368.length) = True := eq_true (by omega)
                       (try rw [show ((0 : Int)).toNat = 0 from rfl] at hx373_0)
                       (try rw [show 0 * 4 = 0 from rfl] at hx373_0)
                       (try rw [Addr.add_zero'] at hx373_0)
                       (try rw [show ((0 : Int)).toNat = 0 from rfl] at hx373_1)
                       (try rw [show 0 * 4 = 0 from rfl] at hx373_1)
                       (try rw [Addr.add_zero'] at hx373_1)
                       (try rw [show ((0 : Int)).toNat = 0 from rfl] at hx373_2)
                       (try rw [show 0 * 4 = 0 from rfl] at hx373_2)
                       (try rw [Addr.add_zero'] at hx373_2)
                       (try rw [show ((0 : Int)).toNat = 0 from rfl] at hx373_3)
                       (try rw [show 0 * 4 = 0 from rfl] at hx373_3)
                       (try rw [Addr.add_zero'] at hx373_3)
                       have HR373_0 := Aside0.mk hi373_0
                       have HC373_0 := Aside0.mk hl373_0
                       clear hi373_0 hl373_0
                       replace p373 := eq_true p373
                       replace q373 := eq_true q373
                       have p374 : 0 ≤ (0 : Int) := (by omega)
                       have q374 := dT (0 < (t368.length : Int))
                       obtain ⟨ad374, A374_0, c374_0, e374, hx374_0, hx374_1, hx374_2, hx374_3, hl374_0, hi374_0⟩ := at_T36 (Kd.S_reads' HO_11.out).2.2 0 p374 q374
                       obtain rfl : ad373 = ad374 := (by injection e374)
                       obtain ⟨ce374, hce374, hMe374, hcc374⟩ := Kd.S_get HO_11.out z36 0 p374 (by first | exact q374 | exact of_decide_eq_true (by first | (with_reducible assumption) | assumption) | (have e_ := (Kd.S_reads' HO_11.out).1; omega))
                       obtain ⟨ve374_0, rfl, ge374_0⟩ := k36_openM hMe374
                       have hv374_0 := hcc374 0 _ rfl
                       rw [Nat.add_zero] at hv374_0
                       replace hv374_0 := Option.some.inj (hv374_0.symm.trans hx374_0)
                       rw [hv374_0] at ge374_0
                       have HL374_0 := Aside0.mk (show Kd.R (Kd.int .i64) 3 _ _ _ _ ((rd_T36 t368 0).f0) from ge374_0)
                       clear hv374_0 ge374_0
                       clear hcc374 hce374
                       have qi374 : (0 < t368.length) = True := eq_true (by omega)
                       (try rw [show ((0 : Int)).toNat = 0 from rfl] at hx374_0)
                       (try rw [show 0 * 4 = 0 from rfl] at hx374_0)
                       (try rw [Addr.add_zero'] at hx374_0)
                       (try rw [show ((0 : Int)).toNat = 0 from rfl] at hx374_1)
                       (try rw [show 0 * 4 = 0 from rfl] at hx374_1)
                       (try rw [Addr.add_zero'] at hx374_1)
                       (try rw [show ((0 : Int)).toNat = 0 from rfl] at hx374_2)
                       (try rw [show 0 * 4 = 0 from rfl] at hx374_2)
                       (try rw [Addr.add_zero'] at hx374_2)
                       (try rw [show ((0 : Int)).toNat = 0 from rfl] at hx374_3)
                       (try rw [show 0 * 4 = 0 from rfl] at hx374_3)
                       (try rw [Addr.add_zero'] at hx374_3)
                       have HR374_0 := Aside0.mk hi374_0
                       have HC374_0 := Aside0.mk hl374_0
                       clear hi374_0 hl374_0
                       replace p374 := eq_true p374
                       replace q374 := eq_true q374
                       have ea_ := Option.some.inj (hx373_0.symm.trans hx374_0)
                       injection ea_ with ea_ en_ ec_
                       subst ea_
                       subst ec_
                       clear en_
                       have p375 : 0 ≤ (0 : Int) := (by omega)
                       have q375 := dT (0 < (t368.length : Int))
                       obtain ⟨ad375, A375_0, c375_0, e375, hx375_0, hx375_1, hx375_2, hx375_3, hl375_0, hi375_0⟩ := at_T36 (Kd.S_reads' HO_11.out).2.2 0 p375 q375
                       obtain rfl : ad373 = ad375 := (by injection e375)
                       obtain ⟨ce375, hce375, hMe375, hcc375⟩ := Kd.S_get HO_11.out z36 0 p375 (by first | exact q375 | exact of_decide_eq_true (by first | (with_reducible assumption) | assumption) | (have e_ := (Kd.S_reads' HO_11.out).1; omega))
                       obtain ⟨ve375_0, rfl, ge375_0⟩ := k36_openM hMe375
                       have hv375_0 := hcc375 0 _ rfl
                       rw [Nat.add_zero] at hv375_0
                       replace hv375_0 := Option.some.inj (hv375_0.symm.trans hx375_0)
                       rw [hv375_0] at ge375_0
                       have HL375_0 := Aside0.mk (show Kd.R (Kd.int .i64) 3 _ _ _ _ ((rd_T36 t368 0).f0) from ge375_0)
                       clear hv375_0 ge375_0
                       clear hcc375 hce375
                       have qi375 : (0 < t368.length) = True := eq_true (by omega)
                       (try rw [show ((0 : Int)).toNat = 0 from rfl] at hx375_0)
                       (try rw [show 0 * 4 = 0 from rfl] at hx375_0)
                       (try rw [Addr.add_zero'] at hx375_0)
                       (try rw [show ((0 : Int)).toNat = 0 from rfl] at hx375_1)
                       (try rw [show 0 * 4 = 0 from rfl] at hx375_1)
                       (try rw [Addr.add_zero'] at hx375_1)
                       (try rw [show ((0 : Int)).toNat = 0 from rfl] at hx375_2)
                       (try rw [show 0 * 4 = 0 from rfl] at hx375_2)
                       (try rw [Addr.add_zero'] at hx375_2)
                       (try rw [show ((0 : Int)).toNat = 0 from rfl] at hx375_3)
                       (try rw [show 0 * 4 = 0 from rfl] at hx375_3)
                       (try rw [Addr.add_zero'] at hx375_3)
                       have HR375_0 := Aside0.mk hi375_0
                       have HC375_0 := Aside0.mk hl375_0
                       clear hi375_0 hl375_0
                       replace p375 := eq_true p375
                       replace q375 := eq_true q375
                       have ea_ := Option.some.inj (hx373_0.symm.trans hx375_0)
                       injection ea_ with ea_ en_ ec_
                       subst ea_
                       subst ec_
                       clear en_
                       have p376 : 0 ≤ (0 : Int) := (by omega)
                       have q376 := dT (0 < (t368.length : Int))
                       obtain ⟨ad376, A376_0, c376_0, e376, hx376_0, hx376_1, hx376_2, hx376_3, hl376_0, hi376_0⟩ := at_T36 (Kd.S_reads' HO_11.out).2.2 0 p376 q376
                       obtain rfl : ad373 = ad376 := (by injection e376)
                       obtain ⟨ce376, hce376, hMe376, hcc376⟩ := Kd.S_get HO_11.out z36 0 p376 (by first | exact q376 | exact of_decide_eq_true (by first | (with_reducible assumption) | assumption) | (have e_ := (Kd.S_reads' HO_11.out).1; omega))
                       obtain ⟨ve376_0, rfl, ge376_0⟩ := k36_openM hMe376
                       have hv376_0 := hcc376 0 _ rfl
                       rw [Nat.add_zero] at hv376_0
                       replace hv376_0 := Option.some.inj (hv376_0.symm.trans hx376_0)
                       rw [hv376_0] at ge376_0
                       have HL376_0 := Aside0.mk (show Kd.R (Kd.int .i64) 3 _ _ _ _ ((rd_T36 t368 0).f0) from ge376_0)
                       clear hv376_0 ge376_0
                       clear hcc376 hce376
                       have qi376 : (0 < t368.length) = True := eq_true (by omega)
                       (try rw [show ((0 : Int)).toNat = 0 from rfl] at hx376_0)
                       (try rw [show 0 * 4 = 0 from rfl] at hx376_0)
                       (try rw [Addr.add_zero'] at hx376_0)
                       (try rw [show ((0 : Int)).toNat = 0 from rfl] at hx376_1)
                       (try rw [show 0 * 4 = 0 from rfl] at hx376_1)
                       (try rw [Addr.add_zero'] at hx376_1)
                       (try rw [show ((0 : Int)).toNat = 0 from rfl] at hx376_2)
                       (try rw [show 0 * 4 = 0 from rfl] at hx376_2)
                       (try rw [Addr.add_zero'] at hx376_2)
                       (try rw [show ((0 : Int)).toNat = 0 from rfl] at hx376_3)
                       (try rw [show 0 * 4 = 0 from rfl] at hx376_3)
                       (try rw [Addr.add_zero'] at hx376_3)
                       have HR376_0 := Aside0.mk hi376_0
                       have HC376_0 := Aside0.mk hl376_0
                       clear hi376_0 hl376_0
                       replace p376 := eq_true p376
                       replace q376 := eq_true q376
                       have ea_ := Option.some.inj (hx373_0.symm.trans hx376_0)
                       injection ea_ with ea_ en_ ec_
                       subst ea_
                       subst ec_
                       clear en_
                       go_wp2
                       go_meet
                       case rel => exact ⟨_, ((((rd_T36 t368 0).f3) != x13_37)), (by first | rfl | (simp; done) | (simp [*]; done)), H', ⟨by have := HJ3.out; have := HK2.out; have := HK3.out; have := HJ26.out; have := HJ37.out; first | omega | exact Nat.le_refl _⟩, ⟨mvR HO_7⟩, ⟨by (with_reducible repeat (first | apply Kd.S_alloc | apply Kd.S_drewN | apply Kd.S_drew)); exact HO_11.out⟩, ⟨mvB HB⟩⟩
                      ·rw [if_neg c45] at H
                       have c45b0 : (((rd_T36 t368 0).f2) == x13_37) = false := beq_eq_false_iff_ne.mpr c45
                       have c45b1 : (((rd_T36 t368 0).f2) != x13_37) = true := bne_iff_ne.mpr c45
                       have H' := Aside0.mk H
                       clear H
                       obtain ⟨Ao47, co47, eo47⟩ := Kd.S_slice HO_11.out
                       subst eo47
                       have p373 : 0 ≤ (0 : Int) := (by omega)
                       have q373 := dT (0 < (t368.length : Int))
                       obtain ⟨ad373, A373_0, c373_0, e373, hx373_0, hx373_1, hx373_2, hx373_3, hl373_0, hi373_0⟩ := at_T36 (Kd.S_reads' HO_11.out).2.2 0 p373 q373
                       cases e373
                       obtain ⟨ce373, hce373, hMe373, hcc373⟩ := Kd.S_get HO_11.out z36 0 p373 (by first | exact q373 | exact of_decide_eq_true (by first | (with_reducible assumption) | assumption) | (have e_ := (Kd.S_reads' HO_11.out).1; omega))
                       obtain ⟨ve373_0, rfl, ge373_0⟩ := k36_openM hMe373
                       have hv373_0 := hcc373 0 _ rfl
                       rw [Nat.add_zero] at hv373_0
                       replace hv373_0 := Option.some.inj (hv373_0.symm.trans hx373_0)
                       rw [hv373_0] at ge373_0
                       have HL373_0 := Aside0.mk (show Kd.R (Kd.int .i64) 3 _ _ _ _ ((rd_T36 t368 0).f0) from ge373_0)
                       clear hv373_0 ge373_0
                       clear hcc373 hce373
                       have qi373 : (0 < t368.length) = True := eq_true (by omega)
                       (try rw [show ((0 : Int)).toNat = 0 from rfl] at hx373_0)
                       (try rw [show 0 * 4 = 0 from rfl] at hx373_0)
                       (try rw [Addr.add_zero'] at hx373_0)
                       (try rw [show ((0 : Int)).toNat = 0 from rfl] at hx373_1)
                       (try rw [show 0 * 4 = 0 from rfl] at hx373_1)
                       (try rw [Addr.add_zero'] at hx373_1)
                       (try rw [show ((0 : Int)).toNat = 0 from rfl] at hx373_2)
                       (try rw [show 0 * 4 = 0 from rfl] at hx373_2)
                       (try rw [Addr.add_zero'] at hx373_2)
                       (try rw [show ((0 : Int)).toNat = 0 from rfl] at hx373_3)
                       (try rw [show 0 * 4 = 0 from rfl] at hx373_3)
                       (try rw [Addr.add_zero'] at hx373_3)
                       have HR373_0 := Aside0.mk hi373_0
                       have HC373_0 := Aside0.mk hl373_0
                       clear hi373_0 hl373_0
                       replace p373 := eq_true p373
                       replace q373 := eq_true q373
                       have p374 : 0 ≤ (0 : Int) := (by omega)
                       have q374 := dT (0 < (t368.length : Int))
                       obtain ⟨ad374, A374_0, c374_0, e374, hx374_0, hx374_1, hx374_2, hx374_3, hl374_0, hi374_0⟩ := at_T36 (Kd.S_reads' HO_11.out).2.2 0 p374 q374
                       obtain rfl : ad373 = ad374 := (by injection e374)
                       obtain ⟨ce374, hce374, hMe374, hcc374⟩ := Kd.S_get HO_11.out z36 0 p374 (by first | exact q374 | exact of_decide_eq_true (by first | (with_reducible assumption) | assumption) | (have e_ := (Kd.S_reads' HO_11.out).1; omega))
                       obtain ⟨ve374_0, rfl, ge374_0⟩ := k36_openM hMe374
                       have hv374_0 := hcc374 0 _ rfl
                       rw [Nat.add_zero] at hv374_0
                       replace hv374_0 := Option.some.inj (hv374_0.symm.trans hx374_0)
                       rw [hv374_0] at ge374_0
                       have HL374_0 := Aside0.mk (show Kd.R (Kd.int .i64) 3 _ _ _ _ ((rd_T36 t368 0).f0) from ge374_0)
                       clear hv374_0 ge374_0
                       clear hcc374 hce374
                       have qi374 : (0 < t368.length) = True := eq_true (by omega)
                       (try rw [show ((0 : Int)).toNat = 0 from rfl] at hx374_0)
                       (try rw [show 0 * 4 = 0 from rfl] at hx374_0)
                       (try rw [Addr.add_zero'] at hx374_0)
                       (try rw [show ((0 : Int)).toNat = 0 from rfl] at hx374_1)
                       (try rw [show 0 * 4 = 0 from rfl] at hx374_1)
                       (try rw [Addr.add_zero'] at hx374_1)
                       (try rw [show ((0 : Int)).toNat = 0 from rfl] at hx374_2)
                       (try rw [show 0 * 4 = 0 from rfl] at hx374_2)
                       (try rw [Addr.add_zero'] at hx374_2)
                       (try rw [show ((0 : Int)).toNat = 0 from rfl] at hx374_3)
                       (try rw [show 0 * 4 = 0 from rfl] at hx374_3)
                       (try rw [Addr.add_zero'] at hx374_3)
                       have HR374_0 := Aside0.mk hi374_0
                       have HC374_0 := Aside0.mk hl374_0
                       clear hi374_0 hl374_0
                       replace p374 := eq_true p374
                       replace q374 := eq_true q374
                       have ea_ := Option.some.inj (hx373_0.symm.trans hx374_0)
                       injection ea_ with ea_ en_ ec_
                       subst ea_
                       subst ec_
                       clear en_
                       have p375 : 0 ≤ (0 : Int) := (by omega)
                       have q375 := dT (0 < (t368.length : Int))
                       obtain ⟨ad375, A375_0, c375_0, e375, hx375_0, hx375_1, hx375_2, hx375_3, hl375_0, hi375_0⟩ := at_T36 (Kd.S_reads' HO_11.out).2.2 0 p375 q375
                       obtain rfl : ad373 = ad375 := (by injection e375)
                       obtain ⟨ce375, hce375, hMe375, hcc375⟩ := Kd.S_get HO_11.out z36 0 p375 (by first | exact q375 | exact of_decide_eq_true (by first | (with_reducible assumption) | assumption) | (have e_ := (Kd.S_reads' HO_11.out).1; omega))
                       obtain ⟨ve375_0, rfl, ge375_0⟩ := k36_openM hMe375
                       have hv375_0 := hcc375 0 _ rfl
                       rw [Nat.add_zero] at hv375_0
                       replace hv375_0 := Option.some.inj (hv375_0.symm.trans hx375_0)
                       rw [hv375_0] at ge375_0
                       have HL375_0 := Aside0.mk (show Kd.R (Kd.int .i64) 3 _ _ _ _ ((rd_T36 t368 0).f0) from ge375_0)
                       clear hv375_0 ge375_0
                       clear hcc375 hce375
                       have qi375 : (0 < t368.length) = True := eq_true (by omega)
                       (try rw [show ((0 : Int)).toNat = 0 from rfl] at hx375_0)
                       (try rw [show 0 * 4 = 0 from rfl] at hx375_0)
                       (try rw [Addr.add_zero'] at hx375_0)
                       (try rw [show ((0 : Int)).toNat = 0 from rfl] at hx375_1)
                       (try rw [show 0 * 4 = 0 from rfl] at hx375_1)
                       (try rw [Addr.add_zero'] at hx375_1)
                       (try rw [show ((0 : Int)).toNat = 0 from rfl] at hx375_2)
                       (try rw [show 0 * 4 = 0 from rfl] at hx375_2)
                       (try rw [Addr.add_zero'] at hx375_2)
                       (try rw [show ((0 : Int)).toNat = 0 from rfl] at hx375_3)
                       (try rw [show 0 * 4 = 0 from rfl] at hx375_3)
                       (try rw [Addr.add_zero'] at hx375_3)
                       have HR375_0 := Aside0.mk hi375_0
                       have HC375_0 := Aside0.mk hl375_0
                       clear hi375_0 hl375_0
                       replace p375 := eq_true p375
                       replace q375 := eq_true q375
                       have ea_ := Option.some.inj (hx373_0.symm.trans hx375_0)
                       injection ea_ with ea_ en_ ec_
                       subst ea_
                       subst ec_
                       clear en_
                       go_wp2
                       go_meet
                       case rel => exact ⟨_, (true), (by first | rfl | (simp; done) | (simp [*]; done)), H', ⟨by have := HJ3.out; have := HK2.out; have := HK3.out; have := HJ26.out; have := HJ37.out; first | omega | exact Nat.le_refl _⟩, ⟨mvR HO_7⟩, ⟨by (with_reducible repeat (first | apply Kd.S_alloc | apply Kd.S_drewN | apply Kd.S_drew)); exact HO_11.out⟩, ⟨mvB HB⟩⟩
                     ·rw [if_neg c44] at H
                      have c44b0 : (((rd_T36 t368 0).f1) == a1) = false := beq_eq_false_iff_ne.mpr c44
                      have c44b1 : (((rd_T36 t368 0).f1) != a1) = true := bne_iff_ne.mpr c44
                      have H' := Aside0.mk H
                      clear H
                      obtain ⟨Ao48, co48, eo48⟩ := Kd.S_slice HO_11.out
                      subst eo48
                      have p373 : 0 ≤ (0 : Int) := (by omega)
                      have q373 := dT (0 < (t368.length : Int))
                      obtain ⟨ad373, A373_0, c373_0, e373, hx373_0, hx373_1, hx373_2, hx373_3, hl373_0, hi373_0⟩ := at_T36 (Kd.S_reads' HO_11.out).2.2 0 p373 q373
                      cases e373
                      obtain ⟨ce373, hce373, hMe373, hcc373⟩ := Kd.S_get HO_11.out z36 0 p373 (by first | exact q373 | exact of_decide_eq_true (by first | (with_reducible assumption) | assumption) | (have e_ := (Kd.S_reads' HO_11.out).1; omega))
                      obtain ⟨ve373_0, rfl, ge373_0⟩ := k36_openM hMe373
                      have hv373_0 := hcc373 0 _ rfl
                      rw [Nat.add_zero] at hv373_0
                      replace hv373_0 := Option.some.inj (hv373_0.symm.trans hx373_0)
                      rw [hv373_0] at ge373_0
                      have HL373_0 := Aside0.mk (show Kd.R (Kd.int .i64) 3 _ _ _ _ ((rd_T36 t368 0).f0) from ge373_0)
                      clear hv373_0 ge373_0
                      clear hcc373 hce373
                      have qi373 : (0 < t368.length) = True := eq_true (by omega)
                      (try rw [show ((0 : Int)).toNat = 0 from rfl] at hx373_0)
                      (try rw [show 0 * 4 = 0 from rfl] at hx373_0)
                      (try rw [Addr.add_zero'] at hx373_0)
                      (try rw [show ((0 : Int)).toNat = 0 from rfl] at hx373_1)
                      (try rw [show 0 * 4 = 0 from rfl] at hx373_1)
                      (try rw [Addr.add_zero'] at hx373_1)
                      (try rw [show ((0 : Int)).toNat = 0 from rfl] at hx373_2)
                      (try rw [show 0 * 4 = 0 from rfl] at hx373_2)
                      (try rw [Addr.add_zero'] at hx373_2)
                      (try rw [show ((0 : Int)).toNat = 0 from rfl] at hx373_3)
                      (try rw [show 0 * 4 = 0 from rfl] at hx373_3)
                      (try rw [Addr.add_zero'] at hx373_3)
                      have HR373_0 := Aside0.mk hi373_0
                      have HC373_0 := Aside0.mk hl373_0
                      clear hi373_0 hl373_0
                      replace p373 := eq_true p373
                      replace q373 := eq_true q373
                      have p374 : 0 ≤ (0 : Int) := (by omega)
                      have q374 := dT (0 < (t368.length : Int))
                      obtain ⟨ad374, A374_0, c374_0, e374, hx374_0, hx374_1, hx374_2, hx374_3, hl374_0, hi374_0⟩ := at_T36 (Kd.S_reads' HO_11.out).2.2 0 p374 q374
                      obtain rfl : ad373 = ad374 := (by injection e374)
                      obtain ⟨ce374, hce374, hMe374, hcc374⟩ := Kd.S_get HO_11.out z36 0 p374 (by first | exact q374 | exact of_decide_eq_true (by first | (with_reducible assumption) | assumption) | (have e_ := (Kd.S_reads' HO_11.out).1; omega))
                      obtain ⟨ve374_0, rfl, ge374_0⟩ := k36_openM hMe374
                      have hv374_0 := hcc374 0 _ rfl
                      rw [Nat.add_zero] at hv374_0
                      replace hv374_0 := Option.some.inj (hv374_0.symm.trans hx374_0)
                      rw [hv374_0] at ge374_0
                      have HL374_0 := Aside0.mk (show Kd.R (Kd.int .i64) 3 _ _ _ _ ((rd_T36 t368 0).f0) from ge374_0)
                      clear hv374_0 ge374_0
                      clear hcc374 hce374
                      have qi374 : (0 < t368.length) = True := eq_true (by omega)
                      (try rw [show ((0 : Int)).toNat = 0 from rfl] at hx374_0)
                      (try rw [show 0 * 4 = 0 from rfl] at hx374_0)
                      (try rw [Addr.add_zero'] at hx374_0)
                      (try rw [show ((0 : Int)).toNat = 0 from rfl] at hx374_1)
                      (try rw [show 0 * 4 = 0 from rfl] at hx374_1)
                      (try rw [Addr.add_zero'] at hx374_1)
                      (try rw [show ((0 : Int)).toNat = 0 from rfl] at hx374_2)
                      (try rw [show 0 * 4 = 0 from rfl] at hx374_2)
                      (try rw [Addr.add_zero'] at hx374_2)
                      (try rw [show ((0 : Int)).toNat = 0 from rfl] at hx374_3)
                      (try rw [show 0 * 4 = 0 from rfl] at hx374_3)
                      (try rw [Addr.add_zero'] at hx374_3)
                      have HR374_0 := Aside0.mk hi374_0
                      have HC374_0 := Aside0.mk hl374_0
                      clear hi374_0 hl374_0
                      replace p374 := eq_true p374
                      replace q374 := eq_true q374
                      have ea_ := Option.some.inj (hx373_0.symm.trans hx374_0)
                      injection ea_ with ea_ en_ ec_
                      subst ea_
                      subst ec_
                      clear en_
                      go_wp2
                      go_meet
                      case rel => exact ⟨_, (true), (by first | rfl | (simp; done) | (simp [*]; done)), H', ⟨by have := HJ3.out; have := HK2.out; have := HK3.out; have := HJ26.out; have := HJ37.out; first | omega | exact Nat.le_refl _⟩, ⟨mvR HO_7⟩, ⟨by (with_reducible repeat (first | apply Kd.S_alloc | apply Kd.S_drewN | apply Kd.S_drew)); exact HO_11.out⟩, ⟨mvB HB⟩⟩
                    ·rw [if_neg c43] at H
                     have c43b0 : ((((rd_T36 t368 0).f0).length : Int) == (x7_2.length : Int)) = false := beq_eq_false_iff_ne.mpr c43
                     have c43b1 : ((((rd_T36 t368 0).f0).length : Int) != (x7_2.length : Int)) = true := bne_iff_ne.mpr c43
                     have c43b2 : (((rd_T36 t368 0).f0).length == x7_2.length) = false := by first | simpa using c43 | (simp at c43 ⊢; omega)
                     have H' := Aside0.mk H
                     clear H
                     obtain ⟨Ao49, co49, eo49⟩ := Kd.S_slice HO_11.out
                     subst eo49
                     have p373 : 0 ≤ (0 : Int) := (by omega)
                     have q373 := dT (0 < (t368.length : Int))
                     obtain ⟨ad373, A373_0, c373_0, e373, hx373_0, hx373_1, hx373_2, hx373_3, hl373_0, hi373_0⟩ := at_T36 (Kd.S_reads' HO_11.out).2.2 0 p373 q373
                     cases e373
                     obtain ⟨ce373, hce373, hMe373, hcc373⟩ := Kd.S_get HO_11.out z36 0 p373 (by first | exact q373 | exact of_decide_eq_true (by first | (with_reducible assumption) | assumption) | (have e_ := (Kd.S_reads' HO_11.out).1; omega))
                     obtain ⟨ve373_0, rfl, ge373_0⟩ := k36_openM hMe373
                     have hv373_0 := hcc373 0 _ rfl
                     rw [Nat.add_zero] at hv373_0
                     replace hv373_0 := Option.some.inj (hv373_0.symm.trans hx373_0)
                     rw [hv373_0] at ge373_0
                     have HL373_0 := Aside0.mk (show Kd.R (Kd.int .i64) 3 _ _ _ _ ((rd_T36 t368 0).f0) from ge373_0)
                     clear hv373_0 ge373_0
                     clear hcc373 hce373
                     have qi373 : (0 < t368.length) = True := eq_true (by omega)
                     (try rw [show ((0 : Int)).toNat = 0 from rfl] at hx373_0)
                     (try rw [show 0 * 4 = 0 from rfl] at hx373_0)
                     (try rw [Addr.add_zero'] at hx373_0)
                     (try rw [show ((0 : Int)).toNat = 0 from rfl] at hx373_1)
                     (try rw [show 0 * 4 = 0 from rfl] at hx373_1)
                     (try rw [Addr.add_zero'] at hx373_1)
                     (try rw [show ((0 : Int)).toNat = 0 from rfl] at hx373_2)
                     (try rw [show 0 * 4 = 0 from rfl] at hx373_2)
                     (try rw [Addr.add_zero'] at hx373_2)
                     (try rw [show ((0 : Int)).toNat = 0 from rfl] at hx373_3)
                     (try rw [show 0 * 4 = 0 from rfl] at hx373_3)
                     (try rw [Addr.add_zero'] at hx373_3)
                     have HR373_0 := Aside0.mk hi373_0
                     have HC373_0 := Aside0.mk hl373_0
                     clear hi373_0 hl373_0
                     replace p373 := eq_true p373
                     replace q373 := eq_true q373
                     go_wp2
                     go_meet
                     case rel => exact ⟨_, (true), (by first | rfl | (simp; done) | (simp [*]; done)), H', ⟨by have := HJ3.out; have := HK2.out; have := HK3.out; have := HJ26.out; have := HJ37.out; first | omega | exact Nat.le_refl _⟩, ⟨mvR HO_7⟩, ⟨by (with_reducible repeat (first | apply Kd.S_alloc | apply Kd.S_drewN | apply Kd.S_drew)); exact HO_11.out⟩, ⟨mvB HB⟩⟩
                   ·rw [if_neg c42] at H
                    exact absurd H (by simp)
                  ·rw [if_neg c41] at H
                   have c41b0 : ((t368.length : Int) == 1) = false := beq_eq_false_iff_ne.mpr c41
                   have c41b1 : ((t368.length : Int) != 1) = true := bne_iff_ne.mpr c41
                   (first | rw [c41b0] | (simp only [i64_w, i32_w]; rw [c41b0]) | skip)
                   have H' := Aside0.mk H
                   clear H
                   obtain ⟨Ao50, co50, eo50⟩ := Kd.S_slice HO_11.out
                   subst eo50
                   go_wp2
                   go_meet
                   case rel => exact ⟨_, (true), (by first | rfl | (simp; done) | (simp [*]; done)), H', ⟨by have := HJ3.out; have := HK2.out; have := HK3.out; have := HJ26.out; have := HJ37.out; first | omega | exact Nat.le_refl _⟩, ⟨mvR HO_7⟩, ⟨by (with_reducible repeat (first | apply Kd.S_alloc | apply Kd.S_drewN | apply Kd.S_drew)); exact HO_11.out⟩, ⟨mvB HB⟩⟩
                 case rest =>
                  clear HC40
                  try clear c1
                  try clear c2
                  try clear p2
                  try clear q2
                  try clear hx2
                  try clear c3
                  try clear p3
                  try clear q3
                  try clear hx3
                  try clear qi3
                  try clear c4
                  try clear c5
                  try clear c5b0
                  try clear c5b1
                  try clear c6
                  try clear p6
                  try clear c8
                  try clear c9
                  try clear c9b0
                  try clear c10
                  try clear c10b0
                  try clear c12
                  try clear c13
                  try clear c14
                  try clear c15
                  try clear c15b0
                  try clear c15b1
                  try clear c16
                  try clear c16b0
                  try clear c16b1
                  try clear c20
                  try clear c20b0
                  try clear c21
                  try clear c21b0
                  try clear p22
                  try clear q22
                  try clear hx22
                  try clear hf22
                  try clear c30
                  try clear c30b0
                  try clear c30b1
                  try clear c31
                  try clear c32
                  try clear c32b0
                  try clear c32b1
                  try clear c33
                  try clear c33b0
                  try clear c33b1
                  try clear c33b2
                  try clear p35
                  try clear q35
                  try clear hx35
                  try clear p36
                  try clear q36
                  try clear hx36
                  try clear c37
                  try clear p37
                  try clear q37
                  try clear hx37
                  try clear qi37
                  try clear c39
                  try clear c39b0
                  try clear c39b1
                  try clear c41
                  try clear c41b0
                  try clear c41b1
                  try clear c42
                  try clear c42b0
                  try clear c42b1
                  try clear c43
                  try clear c43b0
                  try clear c43b1
                  try clear c43b2
                  try clear c44
                  try clear c44b0
                  try clear c44b1
                  try clear c45
                  try clear c45b0
                  try clear c45b1
                  try clear hx22_0
                  try clear hx358_0
                  try clear hx360_0
                  try clear hx373_0
                  try clear hx373_1
                  try clear hx373_2
                  try clear hx373_3
                  try clear hx374_0
                  try clear hx374_1
                  try clear hx374_2
                  try clear hx374_3
                  try clear hx375_0
                  try clear hx375_1
                  try clear hx375_2
                  try clear hx375_3
                  try clear hx376_0
                  try clear hx376_1
                  try clear hx376_2
                  try clear hx376_3
                  try clear p2
                  try clear p22
                  try clear p3
                  try clear p35
                  try clear p358
                  try clear p36
                  try clear p360
                  try clear p373
                  try clear p374
                  try clear p375
                  try clear p376
                  try clear p6
                  try clear q2
                  try clear q22
                  try clear q3
                  try clear q35
                  try clear q358
                  try clear q36
                  try clear q360
                  try clear q373
                  try clear q374
                  try clear q375
                  try clear q376
                  obtain ⟨kq, x119_39, rfl, HA, HJ39, HO_7, HO_11, HB⟩ := hcut
                  cases kq with
                  | zero => exact absurd HA.out (by simp [selvedgelaw15_RunsPlain.j5])
                  | succ kj39 =>
                   have H := HA.out
                   clear HA
                   simp only [selvedgelaw15_RunsPlain.j5] at H
                   by_cases c51 : x119_39 = true
                   ·subst c51
                    have H1 : (some false) = some r := by rw [if_pos rfl] at H; exact H
                    clear H
                    have H := H1
                    clear H1
                    obtain rfl := Option.some.inj H
                    go_wp2
                    go_ret
                    exact ⟨by first | rfl | (simp [errW_none, errW_some] <;> rfl) | (simp [*, errW_none, errW_some] <;> rfl), mvB HB⟩
                   ·replace c51 := Bool.eq_false_iff.mpr c51
                    subst c51
                    have H1 : (selvedgelaw15_RunsPlain.l2 kj39 x7_2 t368 0) = some r := by rw [if_neg (show ¬ (false = true) by decide)] at H; exact H
                    clear H
                    have H := H1
                    clear H1
                    have H' := Aside0.mk H
                    clear H
                    go_wp2
                    go_loopg [14] kj39 (fun kq v14 w' => ∃ (x14_7 : Int), v14 = .int .i64 x14_7 ∧ Aside0 (selvedgelaw15_RunsPlain.l2 kq x7_2 t368 x14_7 = some r) ∧ Aside0 (kq ≤ kj39) ∧ Aside0 (Kd.R (Kd.int .u8) 34 w' w.heap.size (fun _ => True) (.slice Ao17 x7_2.length co17) x7_2) ∧ Aside0 (Kd.S k36 36 w' w.heap.size (fun _ => True) v370 t368) ∧ Aside0 (Below w.heap.size w w'))
                    case atStart => exact ⟨(0), (by first | rfl | (simp; done) | (simp [*]; done)), H', ⟨Nat.le_refl _⟩, ⟨mvR HO_7⟩, ⟨by (with_reducible repeat (first | apply Kd.S_alloc | apply Kd.S_drewN | apply Kd.S_drew)); exact HO_11.out⟩, ⟨mvB HB⟩⟩
                    case round =>
                     clear H'
                     try clear c1
                     try clear c2
                     try clear p2
                     try clear q2
                     try clear hx2
                     try clear c3
                     try clear p3
                     try clear q3
                     try clear hx3
                     try clear qi3
                     try clear c4
                     try clear c5
                     try clear c5b0
                     try clear c5b1
                     try clear c6
                     try clear p6
                     try clear c8
                     try clear c9
                     try clear c9b0
                     try clear c10
                     try clear c10b0
                     try clear c12
                     try clear c13
                     try clear c14
                     try clear c15
                     try clear c15b0
                     try clear c15b1
                     try clear c16
                     try clear c16b0
                     try clear c16b1
                     try clear c20
                     try clear c20b0
                     try clear c21
                     try clear c21b0
                     try clear p22
                     try clear q22
                     try clear hx22
                     try clear hf22
                     try clear c30
                     try clear c30b0
                     try clear c30b1
                     try clear c31
                     try clear c32
                     try clear c32b0
                     try clear c32b1
                     try clear c33
                     try clear c33b0
                     try clear c33b1
                     try clear c33b2
                     try clear p35
                     try clear q35
                     try clear hx35
                     try clear p36
                     try clear q36
                     try clear hx36
                     try clear c37
                     try clear p37
                     try clear q37
                     try clear hx37
                     try clear qi37
                     try clear c39
                     try clear c39b0
                     try clear c39b1
                     try clear c41
                     try clear c41b0
                     try clear c41b1
                     try clear c42
                     try clear c42b0
                     try clear c42b1
                     try clear c43
                     try clear c43b0
                     try clear c43b1
                     try clear c43b2
                     try clear c44
                     try clear c44b0
                     try clear c44b1
                     try clear c45
                     try clear c45b0
                     try clear c45b1
                     try clear c51
                     try clear hx22_0
                     try clear hx358_0
                     try clear hx360_0
                     try clear hx373_0
                     try clear hx373_1
                     try clear hx373_2
                     try clear hx373_3
                     try clear hx374_0
                     try clear hx374_1
                     try clear hx374_2
                     try clear hx374_3
                     try clear hx375_0
                     try clear hx375_1
                     try clear hx375_2
                     try clear hx375_3
                     try clear hx376_0
                     try clear hx376_1
                     try clear hx376_2
                     try clear hx376_3
                     try clear p2
                     try clear p22
                     try clear p3
                     try clear p35
                     try clear p358
                     try clear p36
                     try clear p360
                     try clear p37
                     try clear p373
                     try clear p374
                     try clear p375
                     try clear p376
                     try clear p6
                     try clear q2
                     try clear q22
                     try clear q3
                     try clear q35
                     try clear q358
                     try clear q36
                     try clear q360
                     try clear q37
                     try clear q373
                     try clear q374
                     try clear q375
                     try clear q376
                     obtain ⟨x14_7, rfl, HA, HK7, HO_7, HO_11, HB⟩ := hrel
                     cases gk with
                     | zero => exact absurd HA.out (by simp [selvedgelaw15_RunsPlain.l2])
                     | succ k7 =>
                      have H := HA.out
                      clear HA
                      simp only [selvedgelaw15_RunsPlain.l2] at H
                      by_cases c52 : x14_7 < (x7_2.length : Int)
                      ·rw [if_pos c52] at H
                       have c52b0 : decide (x14_7 < (x7_2.length : Int)) = true := decide_eq_true c52
                       clear c52
                       by_cases c53 : 0 < (t368.length : Int)
                       ·rw [if_pos c53] at H
                        have c53b0 : decide (0 < (t368.length : Int)) = true := decide_eq_true c53
                        have c53b1 : decide (0 < t368.length) = true := decide_eq_true (by omega)
                        clear c53
                        by_cases c54 : 0 ≤ x14_7
                        ·rw [if_pos c54] at H
                         have c54b0 : decide (0 ≤ x14_7) = true := decide_eq_true c54
                         clear c54
                         by_cases c55 : x14_7 < (((rd_T36 t368 0).f0).length : Int)
                         ·rw [if_pos c55] at H
                          have c55b0 : decide (x14_7 < (((rd_T36 t368 0).f0).length : Int)) = true := decide_eq_true c55
                          clear c55
                          by_cases c56 : (rd ((rd_T36 t368 0).f0) x14_7) = x14_7
                          ·rw [if_pos c56] at H
                           have c56b0 : ((rd ((rd_T36 t368 0).f0) x14_7) == x14_7) = true := beq_iff_eq.mpr c56
                           have c56b1 : ((rd ((rd_T36 t368 0).f0) x14_7) != x14_7) = false := bne_eq_false_iff_eq.mpr c56
                           clear c56
                           have H' := Aside0.mk H
                           clear H
                           obtain ⟨Ao57, co57, eo57⟩ := Kd.S_slice HO_11.out
                           subst eo57
                           have p377 : 0 ≤ (0 : Int) := (by omega)
                           have q377 := dT (0 < (t368.length : Int))
                           obtain ⟨ad377, A377_0, c377_0, e377, hx377_0, hx377_1, hx377_2, hx377_3, hl377_0, hi377_0⟩ := at_T36 (Kd.S_reads' HO_11.out).2.2 0 p377 q377
                           cases e377
                           obtain ⟨ce377, hce377, hMe377, hcc377⟩ := Kd.S_get HO_11.out z36 0 p377 (by first | exact q377 | exact of_decide_eq_true (by first | (with_reducible assumption) | assumption) | (have e_ := (Kd.S_reads' HO_11.out).1; omega))
                           obtain ⟨ve377_0, rfl, ge377_0⟩ := k36_openM hMe377
                           have hv377_0 := hcc377 0 _ rfl
                           rw [Nat.add_zero] at hv377_0
                           replace hv377_0 := Option.some.inj (hv377_0.symm.trans hx377_0)
                           rw [hv377_0] at ge377_0
                           have HL377_0 := Aside0.mk (show Kd.R (Kd.int .i64) 3 _ _ _ _ ((rd_T36 t368 0).f0) from ge377_0)
                           clear hv377_0 ge377_0
                           clear hcc377 hce377
                           have qi377 : (0 < t368.length) = True := eq_true (by omega)
                           (try rw [show ((0 : Int)).toNat = 0 from rfl] at hx377_0)
                           (try rw [show 0 * 4 = 0 from rfl] at hx377_0)
                           (try rw [Addr.add_zero'] at hx377_0)
                           (try rw [show ((0 : Int)).toNat = 0 from rfl] at hx377_1)
                           (try rw [show 0 * 4 = 0 from rfl] at hx377_1)
                           (try rw [Addr.add_zero'] at hx377_1)
                           (try rw [show ((0 : Int)).toNat = 0 from rfl] at hx377_2)
                           (try rw [show 0 * 4 = 0 from rfl] at hx377_2)
                           (try rw [Addr.add_zero'] at hx377_2)
                           (try rw [show ((0 : Int)).toNat = 0 from rfl] at hx377_3)
                           (try rw [show 0 * 4 = 0 from rfl] at hx377_3)
                           (try rw [Addr.add_zero'] at hx377_3)
                           have HR377_0 := Aside0.mk hi377_0
                           have HC377_0 := Aside0.mk hl377_0
                           clear hi377_0 hl377_0
                           replace p377 := eq_true p377
                           replace q377 := eq_true q377
                           obtain ⟨ad378, e378, hx378_0, p378, q378⟩ := atI (by repeat (first | (with_reducible exact HR377_0.out) | (with_reducible refine Kd.C_alloc ?_ _) | (with_reducible refine Kd.C_drewN ?_ _) | (with_reducible refine Kd.C_drew ?_) | exact HR377_0.out)) x14_7
                           cases e378
                           go_wp2
                           go_roundg k7
                           case measure => have := HJ3.out; have := HK2.out; have := HK3.out; have := HJ26.out; have := HJ37.out; have := HJ39.out; have := HK7.out; omega
                           case rel => exact ⟨(wrap64 (x14_7 + 1)), (by first | rfl | (simp; done) | (simp [*]; done)), H', ⟨by have := HJ3.out; have := HK2.out; have := HK3.out; have := HJ26.out; have := HJ37.out; have := HJ39.out; have := HK7.out; omega⟩, ⟨mvR HO_7⟩, ⟨by (with_reducible repeat (first | apply Kd.S_alloc | apply Kd.S_drewN | apply Kd.S_drew)); exact HO_11.out⟩, ⟨mvB HB⟩⟩
                          ·rw [if_neg c56] at H
                           have c56b0 : ((rd ((rd_T36 t368 0).f0) x14_7) == x14_7) = false := beq_eq_false_iff_ne.mpr c56
                           have c56b1 : ((rd ((rd_T36 t368 0).f0) x14_7) != x14_7) = true := bne_iff_ne.mpr c56
                           obtain rfl := Option.some.inj H
                           obtain ⟨Ao58, co58, eo58⟩ := Kd.S_slice HO_11.out
                           subst eo58
                           have p377 : 0 ≤ (0 : Int) := (by omega)
                           have q377 := dT (0 < (t368.length : Int))
                           obtain ⟨ad377, A377_0, c377_0, e377, hx377_0, hx377_1, hx377_2, hx377_3, hl377_0, hi377_0⟩ := at_T36 (Kd.S_reads' HO_11.out).2.2 0 p377 q377
                           cases e377
                           obtain ⟨ce377, hce377, hMe377, hcc377⟩ := Kd.S_get HO_11.out z36 0 p377 (by first | exact q377 | exact of_decide_eq_true (by first | (with_reducible assumption) | assumption) | (have e_ := (Kd.S_reads' HO_11.out).1; omega))
                           obtain ⟨ve377_0, rfl, ge377_0⟩ := k36_openM hMe377
                           have hv377_0 := hcc377 0 _ rfl
                           rw [Nat.add_zero] at hv377_0
                           replace hv377_0 := Option.some.inj (hv377_0.symm.trans hx377_0)
                           rw [hv377_0] at ge377_0
                           have HL377_0 := Aside0.mk (show Kd.R (Kd.int .i64) 3 _ _ _ _ ((rd_T36 t368 0).f0) from ge377_0)
                           clear hv377_0 ge377_0
                           clear hcc377 hce377
                           have qi377 : (0 < t368.length) = True := eq_true (by omega)
                           (try rw [show ((0 : Int)).toNat = 0 from rfl] at hx377_0)
                           (try rw [show 0 * 4 = 0 from rfl] at hx377_0)
                           (try rw [Addr.add_zero'] at hx377_0)
                           (try rw [show ((0 : Int)).toNat = 0 from rfl] at hx377_1)
                           (try rw [show 0 * 4 = 0 from rfl] at hx377_1)
                           (try rw [Addr.add_zero'] at hx377_1)
                           (try rw [show ((0 : Int)).toNat = 0 from rfl] at hx377_2)
                           (try rw [show 0 * 4 = 0 from rfl] at hx377_2)
                           (try rw [Addr.add_zero'] at hx377_2)
                           (try rw [show ((0 : Int)).toNat = 0 from rfl] at hx377_3)
                           (try rw [show 0 * 4 = 0 from rfl] at hx377_3)
                           (try rw [Addr.add_zero'] at hx377_3)
                           have HR377_0 := Aside0.mk hi377_0
                           have HC377_0 := Aside0.mk hl377_0
                           clear hi377_0 hl377_0
                           replace p377 := eq_true p377
                           replace q377 := eq_true q377
                           obtain ⟨ad378, e378, hx378_0, p378, q378⟩ := atI (by repeat (first | (with_reducible exact HR377_0.out) | (with_reducible refine Kd.C_alloc ?_ _) | (with_reducible refine Kd.C_drewN ?_ _) | (with_reducible refine Kd.C_drew ?_) | exact HR377_0.out)) x14_7
                           cases e378
                           go_wp2
                           go_ret
                           exact ⟨by first | rfl | (simp [errW_none, errW_some] <;> rfl) | (simp [*, errW_none, errW_some] <;> rfl), mvB HB⟩
                         ·rw [if_neg c55] at H
                          exact absurd H (by simp)
                        ·rw [if_neg c54] at H
                         exact absurd H (by simp)
                       ·rw [if_neg c53] at H
                        exact absurd H (by simp)
                      ·rw [if_neg c52] at H
                       have c52b0 : decide (x14_7 < (x7_2.length : Int)) = false := decide_eq_false c52
                       clear c52
                       replace H := Option.bind_eq_some_iff.mp H
                       obtain ⟨t379, A590, H⟩ := H
                       replace H : (some t379) = some r := H
                       have A59 := Aside0.mk A590
                       clear A590
                       obtain rfl := Option.some.inj H
                       go_wp2_with (first | ((with_reducible refine gate_callee (f := 8) rfl ?_); refine goesL_ (some 135) rfl rfl Try.func8 (by kernel_rfl) rfl #[] rfl (by (try simp only [List.map_toArray, List.map_cons, List.map_nil]); first | done | rfl | (simp only [List.length_drop, List.length_take]; rfl)) ?_; (with_reducible refine (selvedgelaw15_works.calls k7  t379 _ A59.out).mono ?_); rintro e w60 ⟨rfl, hb⟩; refine ⟨_, rfl, ?_⟩; have n0_ := Aside0.mk (Kd.R_below (mvR HO_7) hb); have n1_ := Aside0.mk (Kd.S_below (by (with_reducible repeat (first | apply Kd.S_alloc | apply Kd.S_drewN | apply Kd.S_drew)); exact HO_11.out) hb); have n2_ := Aside0.mk (below_step (mvB HB) hb); clear HO_7; clear HO_11; clear HB; have HO_7 := n0_; have HO_11 := n1_; have HB := n2_; clear n0_ n1_ n2_; (try clear hb); (try clear hb2); (try clear hk); (try clear hi)))
                       go_ret
                       exact ⟨by first | rfl | (simp [errW_none, errW_some] <;> rfl) | (simp [*, errW_none, errW_some] <;> rfl), mvB HB⟩
        ·rw [if_neg c16] at H
         exact absurd H (by simp)
       ·rw [if_neg c15] at H
        exact absurd H (by simp)

/-- THE ONE PURE STATEMENT of selvedgelaw15_RunsPlain: yours. -/
def selvedgelaw15_RunsPlain.Pure : Prop := ∀ (l0 : List Int) (a1 : Int) (a2 : Int), l0.length ≤ maxLen → l0.length * 1 ≤ 140737488351232 → (∀ x ∈ l0, (Lit.int .u8 x).wf = true) → (Lit.int .u8 a1).wf = true → (Lit.int .u8 a2).wf = true → ∃ k, selvedgelaw15_RunsPlain.f k l0 a1 a2 = some true
theorem selvedgelaw15_RunsPlain.walk (P : selvedgelaw15_RunsPlain.Pure) (a0 : Option Addr) (len0 cap0 : Nat) (z0 : List Int) (a1 : Int) (a2 : Int) (w : World) (w0 : (a0 = none ∧ len0 = 0 ∧ cap0 = 0 ∧ z0 = []) ∨ ∃ x, a0 = some x ∧ len0 ≤ cap0 ∧ cap0 ≤ maxLen ∧ z0.length = cap0 ∧ (∀ i, i < z0.length → w.cell? (x.add i) = some (.int .u8 (z0.getD i 0))) ∧ ∀ n ∈ z0, (Lit.int .u8 n).wf = true) (y0 : len0 * 1 ≤ 140737488351232) (w1 : (Lit.int .u8 a1).wf = true) (w2 : (Lit.int .u8 a2).wf = true) :
  Calls Try.prog 6 #[.slice a0 len0 cap0, .int .u8 a1, .int .u8 a2] w fun e w' => e = .returned (.bool true) ∧ Below w.heap.size w w' := by
 obtain ⟨l0, rfl, hr0, hm0, hw0, hc0⟩ := ReadsInt.ofRowC w0
 obtain ⟨k, h⟩ := P l0 a1 a2 hm0 y0 hw0 w1 w2
 refine (selvedgelaw15_RunsPlain.calls k _ _ l0 a1 a2 true w (Kd.C_of_reads (d := (0 : Int)) (h1 := fun _ => rfl) hr0) hc0 h).mono ?_
 rintro e w' ⟨rfl, hd⟩
 exact ⟨rfl, hd⟩

end Go.Proofs.Ytofiflhjlohakaa.X
