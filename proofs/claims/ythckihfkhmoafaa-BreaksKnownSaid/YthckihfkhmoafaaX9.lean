-- by xprint.py: the kit's printer over texts of this session
import Derived.Test.YthckihfkhmoafaaX0
import Derived.Test.YthckihfkhmoafaaX1
import Derived.Test.YthckihfkhmoafaaX2
import Derived.Test.YthckihfkhmoafaaX4
import Derived.Test.YthckihfkhmoafaaX8
import Derived.Test.YthckihfkhmoafaaT10
import Derived.Test.YthckihfkhmoafaaT8
namespace Go.Proofs.Ythckihfkhmoafaa.X
open Go.RowKit Go.Proofs.YthckihfkhmoafaaW.PrintWords Go.Proofs.YthckihfkhmoafaaW.PrintLast Go.Proofs.YthckihfkhmoafaaW.PrintMore
attribute [local go_sem] max2_int min2_int max_two min_two max_three min_three max_four min_four   -- for this text's walks alone
set_option linter.unusedVariables false
set_option linter.unusedSimpArgs false

attribute [local go_sem high] eqA36
/-! ### selvedgelaw21_BreaksLines: function 7 -/
mutual
def selvedgelaw21_BreaksLines.j0 : Nat → List (S36) → Int → Bool → Option (Bool)
 | 0, _, _, _ => none
 | k + 1, x0, x1, x22 => if x22 = true then ((selvedgelaw21_works.f k).bind fun t246 => (some t246)) else (if ([] : List (S36)).length + x0.length < 4398046511104 then ((some (([] : List (S36)) ++ x0 : List (S36))).bind fun y247 => ((breaks_Lines.f y247 x1).bind fun bt250 => ((selvedgelaw21_ref.f k x0).bind fun t254 => ((selvedgeref21_Lines.f k t254 x1).bind fun bt257 => ((breaks_Places.f y247).bind fun bt261 => ((selvedgelaw21_ref.f k x0).bind fun t265 => ((selvedgeref21_Places.f k t265).bind fun bt268 => (if bt250.2 = bt257.2 then (if bt261.2 = bt268.2 then ((selvedgekit_SameInts.f k bt250.1 bt257.1).bind fun t272 => (if t272 = true then ((selvedgekit_SameInts.f k bt261.1 bt268.1).bind fun t273 => (selvedgelaw21_BreaksLines.j1 k x0 y247 (!t273))) else (selvedgelaw21_BreaksLines.j1 k x0 y247 true))) else (selvedgelaw21_BreaksLines.j1 k x0 y247 true)) else (selvedgelaw21_BreaksLines.j1 k x0 y247 true))))))))) else (none))
def selvedgelaw21_BreaksLines.j1 : Nat → List (S36) → List (S36) → Bool → Option (Bool)
 | 0, _, _, _ => none
 | k + 1, x0, x5, x70 => if x70 = true then (some false) else (selvedgelaw21_BreaksLines.l0 k x0 x5 0)
def selvedgelaw21_BreaksLines.l0 : Nat → List (S36) → List (S36) → Int → Option (Bool)
 | 0, _, _, _ => none
 | k + 1, x0, x5, x14 => if x14 < (x0.length : Int) then (if 0 ≤ x14 then (if x14 < (x5.length : Int) then (if (!(((rd_T36 x5 x14).f0) == ((rd_T36 x0 x14).f0)) || (!(((rd_T36 x5 x14).f1) == ((rd_T36 x0 x14).f1)) || (!(((rd_T36 x5 x14).f2) == ((rd_T36 x0 x14).f2)) || (!(((rd_T36 x5 x14).f3) == ((rd_T36 x0 x14).f3)))))) = true then (some false) else (selvedgelaw21_BreaksLines.l0 k x0 x5 (wrap64 (x14 + 1)))) else (none)) else (none)) else ((selvedgelaw21_works.f k).bind fun t276 => (some t276))
end
def selvedgelaw21_BreaksLines.f (k : Nat) (l0 : List (S36)) (a1 : Int) : Option (Bool) := if (l0.length : Int) > 400 then (selvedgelaw21_BreaksLines.j0 k l0 a1 (decide ((l0.length : Int) ≤ 65536))) else (selvedgelaw21_BreaksLines.j0 k l0 a1 false)
theorem selvedgelaw21_BreaksLines.mono_l : ∀ k, (∀ y0 y1 y2, LeO (selvedgelaw21_BreaksLines.j0 k y0 y1 y2) (selvedgelaw21_BreaksLines.j0 (k + 1) y0 y1 y2)) ∧ (∀ y0 y1 y2, LeO (selvedgelaw21_BreaksLines.j1 k y0 y1 y2) (selvedgelaw21_BreaksLines.j1 (k + 1) y0 y1 y2)) ∧ (∀ y0 y1 y2, LeO (selvedgelaw21_BreaksLines.l0 k y0 y1 y2) (selvedgelaw21_BreaksLines.l0 (k + 1) y0 y1 y2))
 | 0 => ⟨fun _ _ _ r h => by simp [selvedgelaw21_BreaksLines.j0] at h, fun _ _ _ r h => by simp [selvedgelaw21_BreaksLines.j1] at h, fun _ _ _ r h => by simp [selvedgelaw21_BreaksLines.l0] at h⟩
 | k + 1 => by
  obtain ⟨ih0, ih1, ih2⟩ := selvedgelaw21_BreaksLines.mono_l k
  refine ⟨?_, ?_, ?_⟩
  ·intro y0 y1 y2
   unfold selvedgelaw21_BreaksLines.j0
   repeat' first
   | (with_reducible exact ih0 _ _ _)
   | (with_reducible exact ih1 _ _ _)
   | (with_reducible exact ih2 _ _ _)
   | (with_reducible exact selvedgekit_SameInts.mono _ _ _)
   | (with_reducible exact selvedgelaw21_ref.mono _ _)
   | (with_reducible exact selvedgelaw21_works.mono _)
   | (with_reducible exact selvedgeref21_Lines.mono _ _ _)
   | (with_reducible exact selvedgeref21_Places.mono _ _)
   | (with_reducible exact LeO.refl _)
   | (with_reducible exact LeO.none _)
   | (with_reducible refine LeO.ite ?_ ?_)
   | (with_reducible refine LeO.bind ?_ (fun _ => ?_))
   | exact ih0 _ _ _
   | exact ih1 _ _ _
   | exact ih2 _ _ _
   | exact selvedgekit_SameInts.mono _ _ _
   | exact selvedgelaw21_ref.mono _ _
   | exact selvedgelaw21_works.mono _
   | exact selvedgeref21_Lines.mono _ _ _
   | exact selvedgeref21_Places.mono _ _
   | exact LeO.none _
   | refine LeO.ite ?_ ?_
   | refine LeO.bind ?_ (fun _ => ?_)
  ·intro y0 y1 y2
   unfold selvedgelaw21_BreaksLines.j1
   repeat' first
   | (with_reducible exact ih0 _ _ _)
   | (with_reducible exact ih1 _ _ _)
   | (with_reducible exact ih2 _ _ _)
   | (with_reducible exact selvedgekit_SameInts.mono _ _ _)
   | (with_reducible exact selvedgelaw21_ref.mono _ _)
   | (with_reducible exact selvedgelaw21_works.mono _)
   | (with_reducible exact selvedgeref21_Lines.mono _ _ _)
   | (with_reducible exact selvedgeref21_Places.mono _ _)
   | (with_reducible exact LeO.refl _)
   | (with_reducible exact LeO.none _)
   | (with_reducible refine LeO.ite ?_ ?_)
   | (with_reducible refine LeO.bind ?_ (fun _ => ?_))
   | exact ih0 _ _ _
   | exact ih1 _ _ _
   | exact ih2 _ _ _
   | exact selvedgekit_SameInts.mono _ _ _
   | exact selvedgelaw21_ref.mono _ _
   | exact selvedgelaw21_works.mono _
   | exact selvedgeref21_Lines.mono _ _ _
   | exact selvedgeref21_Places.mono _ _
   | exact LeO.none _
   | refine LeO.ite ?_ ?_
   | refine LeO.bind ?_ (fun _ => ?_)
  ·intro y0 y1 y2
   unfold selvedgelaw21_BreaksLines.l0
   repeat' first
   | (with_reducible exact ih0 _ _ _)
   | (with_reducible exact ih1 _ _ _)
   | (with_reducible exact ih2 _ _ _)
   | (with_reducible exact selvedgekit_SameInts.mono _ _ _)
   | (with_reducible exact selvedgelaw21_ref.mono _ _)
   | (with_reducible exact selvedgelaw21_works.mono _)
   | (with_reducible exact selvedgeref21_Lines.mono _ _ _)
   | (with_reducible exact selvedgeref21_Places.mono _ _)
   | (with_reducible exact LeO.refl _)
   | (with_reducible exact LeO.none _)
   | (with_reducible refine LeO.ite ?_ ?_)
   | (with_reducible refine LeO.bind ?_ (fun _ => ?_))
   | exact ih0 _ _ _
   | exact ih1 _ _ _
   | exact ih2 _ _ _
   | exact selvedgekit_SameInts.mono _ _ _
   | exact selvedgelaw21_ref.mono _ _
   | exact selvedgelaw21_works.mono _
   | exact selvedgeref21_Lines.mono _ _ _
   | exact selvedgeref21_Places.mono _ _
   | exact LeO.none _
   | refine LeO.ite ?_ ?_
   | refine LeO.bind ?_ (fun _ => ?_)
theorem selvedgelaw21_BreaksLines.mono : ∀ a0 a1 k, LeO (selvedgelaw21_BreaksLines.f k a0 a1) (selvedgelaw21_BreaksLines.f (k + 1) a0 a1) := by
 intro a0 a1 k
 obtain ⟨ih0, ih1, ih2⟩ := selvedgelaw21_BreaksLines.mono_l k
 unfold selvedgelaw21_BreaksLines.f
 repeat' first
   | (with_reducible exact ih0 _ _ _)
   | (with_reducible exact ih1 _ _ _)
   | (with_reducible exact ih2 _ _ _)
   | (with_reducible exact selvedgekit_SameInts.mono _ _ _)
   | (with_reducible exact selvedgelaw21_ref.mono _ _)
   | (with_reducible exact selvedgelaw21_works.mono _)
   | (with_reducible exact selvedgeref21_Lines.mono _ _ _)
   | (with_reducible exact selvedgeref21_Places.mono _ _)
   | (with_reducible exact LeO.refl _)
   | (with_reducible exact LeO.none _)
   | (with_reducible refine LeO.ite ?_ ?_)
   | (with_reducible refine LeO.bind ?_ (fun _ => ?_))
   | exact ih0 _ _ _
   | exact ih1 _ _ _
   | exact ih2 _ _ _
   | exact selvedgekit_SameInts.mono _ _ _
   | exact selvedgelaw21_ref.mono _ _
   | exact selvedgelaw21_works.mono _
   | exact selvedgeref21_Lines.mono _ _ _
   | exact selvedgeref21_Places.mono _ _
   | exact LeO.none _
   | refine LeO.ite ?_ ?_
   | refine LeO.bind ?_ (fun _ => ?_)
set_option maxHeartbeats 8000000 in
set_option maxRecDepth 100000 in
theorem selvedgelaw21_BreaksLines.calls (k : Nat) (A0 : Option Addr) (c0 : Nat) (l0 : List (S36)) (a1 : Int) (r : Bool) (w : World) (hr0 : Kd.C k36 w A0 l0.length l0) (hc0 : l0.length ≤ c0) (h : selvedgelaw21_BreaksLines.f k l0 a1 = some r) :
  Calls Try.prog 7 #[.slice A0 l0.length c0, .int .i64 a1] w fun e w' => e = .returned (.bool r) ∧ Below w.heap.size w w' := by
 have hu36 := Try.underlying36
 have HR0 := Aside0.mk hr0
 have HC0 := Aside0.mk hc0
 clear hr0 hc0
 have HB := Aside0.mk (Below.refl w.heap.size w)
 have H : (if (l0.length : Int) > 400 then (selvedgelaw21_BreaksLines.j0 k l0 a1 (decide ((l0.length : Int) ≤ 65536))) else (selvedgelaw21_BreaksLines.j0 k l0 a1 false)) = some r := h
 clear h
 have HC3 := Aside0.mk H
 clear H
 go_enter Try.func7, Try.ntmps7
 go_upto_region 1 with (fail)
 repeat (go_quiet (fail); go_upto_region 1 with (fail))
 go_cut [22] (fun v22 wc => ∃ (kq : Nat) (x22_2 : Bool), v22 = .bool x22_2 ∧ Aside0 (selvedgelaw21_BreaksLines.j0 kq l0 a1 x22_2 = some r) ∧ Aside0 (kq ≤ k) ∧ Aside0 (Below w.heap.size w wc))
 case first =>
  have H := HC3.out
  clear HC3
  by_cases c4 : (l0.length : Int) > 400
  ·rw [if_pos c4] at H
   have c4b0 : decide (400 < (l0.length : Int)) = true := decide_eq_true c4
   have c4b1 : decide (400 < l0.length) = true := decide_eq_true (by omega)
   clear c4
   (first | rw [c4b0] | (simp only [i64_w, i32_w]; rw [c4b0]) | skip)
   have H' := Aside0.mk H
   clear H
   go_wp2
   repeat (go_quiet (fail); try go_wp2)
   go_meet
   case rel => exact ⟨_, (decide ((l0.length : Int) ≤ 65536)), (by first | rfl | (simp; done) | (simp [*]; done)), H', ⟨by first | omega | exact Nat.le_refl _⟩, ⟨mvB HB⟩⟩
  ·rw [if_neg c4] at H
   have c4b0 : decide (400 < (l0.length : Int)) = false := decide_eq_false c4
   have c4b1 : decide (400 < l0.length) = false := decide_eq_false (by omega)
   clear c4
   (first | rw [c4b0] | (simp only [i64_w, i32_w]; rw [c4b0]) | skip)
   have H' := Aside0.mk H
   clear H
   go_wp2
   repeat (go_quiet (fail); try go_wp2)
   go_meet
   case rel => exact ⟨_, (false), (by first | rfl | (simp; done) | (simp [*]; done)), H', ⟨by first | omega | exact Nat.le_refl _⟩, ⟨mvB HB⟩⟩
 case rest =>
  clear HC3
  try clear p2
  try clear c4
  try clear c4b0
  try clear c4b1
  obtain ⟨kq, x22_2, rfl, HA, HJ2, HB⟩ := hcut
  cases kq with
  | zero => exact absurd HA.out (by simp [selvedgelaw21_BreaksLines.j0])
  | succ kj2 =>
   have H := HA.out
   clear HA
   simp only [selvedgelaw21_BreaksLines.j0] at H
   by_cases c5 : x22_2 = true
   ·subst c5
    have H1 : ((selvedgelaw21_works.f kj2).bind fun t246 => (some t246)) = some r := by rw [if_pos rfl] at H; exact H
    clear H
    have H := H1
    clear H1
    replace H := Option.bind_eq_some_iff.mp H
    obtain ⟨t246, A60, H⟩ := H
    replace H : (some t246) = some r := H
    have A6 := Aside0.mk A60
    clear A60
    obtain rfl := Option.some.inj H
    go_wp2_with (first | (go_at_call 10; (with_reducible refine (selvedgelaw21_works.calls kj2  t246 _ A6.out).mono ?_); rintro e w7 ⟨rfl, hb⟩; have n0_ := Aside0.mk (below_step (mvB HB) hb); clear HB; have HB := n0_; clear n0_; (try clear hb); (try clear hb2); (try clear hk); (try clear hi)))
    repeat (go_quiet (fail))
    go_ret
    exact ⟨by first | rfl | (simp [errW_none, errW_some] <;> rfl) | (simp [*, errW_none, errW_some] <;> rfl), mvB HB⟩
   ·replace c5 := Bool.eq_false_iff.mpr c5
    subst c5
    have H1 : (if ([] : List (S36)).length + l0.length < 4398046511104 then ((some (([] : List (S36)) ++ l0 : List (S36))).bind fun y247 => ((breaks_Lines.f y247 a1).bind fun bt250 => ((selvedgelaw21_ref.f kj2 l0).bind fun t254 => ((selvedgeref21_Lines.f kj2 t254 a1).bind fun bt257 => ((breaks_Places.f y247).bind fun bt261 => ((selvedgelaw21_ref.f kj2 l0).bind fun t265 => ((selvedgeref21_Places.f kj2 t265).bind fun bt268 => (if bt250.2 = bt257.2 then (if bt261.2 = bt268.2 then ((selvedgekit_SameInts.f kj2 bt250.1 bt257.1).bind fun t272 => (if t272 = true then ((selvedgekit_SameInts.f kj2 bt261.1 bt268.1).bind fun t273 => (selvedgelaw21_BreaksLines.j1 kj2 l0 y247 (!t273))) else (selvedgelaw21_BreaksLines.j1 kj2 l0 y247 true))) else (selvedgelaw21_BreaksLines.j1 kj2 l0 y247 true)) else (selvedgelaw21_BreaksLines.j1 kj2 l0 y247 true))))))))) else (none)) = some r := by rw [if_neg (show ¬ (false = true) by decide)] at H; exact H
    clear H
    have H := H1
    clear H1
    by_cases c8 : ([] : List (S36)).length + l0.length < 4398046511104
    ·rw [if_pos c8] at H
     have LMc8 := Aside0.mk c8
     clear c8
     obtain ⟨y247, hy247⟩ : ∃ y_ : List (S36), y_ = (([] : List (S36)) ++ l0) := ⟨_, rfl⟩
     replace H : ((breaks_Lines.f y247 a1).bind fun bt250 => ((selvedgelaw21_ref.f kj2 l0).bind fun t254 => ((selvedgeref21_Lines.f kj2 t254 a1).bind fun bt257 => ((breaks_Places.f y247).bind fun bt261 => ((selvedgelaw21_ref.f kj2 l0).bind fun t265 => ((selvedgeref21_Places.f kj2 t265).bind fun bt268 => (if bt250.2 = bt257.2 then (if bt261.2 = bt268.2 then ((selvedgekit_SameInts.f kj2 bt250.1 bt257.1).bind fun t272 => (if t272 = true then ((selvedgekit_SameInts.f kj2 bt261.1 bt268.1).bind fun t273 => (selvedgelaw21_BreaksLines.j1 kj2 l0 y247 (!t273))) else (selvedgelaw21_BreaksLines.j1 kj2 l0 y247 true))) else (selvedgelaw21_BreaksLines.j1 kj2 l0 y247 true)) else (selvedgelaw21_BreaksLines.j1 kj2 l0 y247 true)))))))) = some r := by first | (rw [hy247]; with_reducible exact H) | (have H2_ := (Option.bind_some _ _).symm.trans H; rw [hy247]; with_reducible exact H2_) | (have H2_ := (Option.bind_some _ _).symm.trans H; with_reducible exact H2_) | with_reducible exact H | (rw [hy247]; exact H) | exact H
     have Ny247 := Aside0.mk hy247
     clear hy247
     replace H := Option.bind_eq_some_iff.mp H
     obtain ⟨⟨t250, t251⟩, A90, H⟩ := H
     replace H : ((selvedgelaw21_ref.f kj2 l0).bind fun t254 => ((selvedgeref21_Lines.f kj2 t254 a1).bind fun bt257 => ((breaks_Places.f y247).bind fun bt261 => ((selvedgelaw21_ref.f kj2 l0).bind fun t265 => ((selvedgeref21_Places.f kj2 t265).bind fun bt268 => (if t251 = bt257.2 then (if bt261.2 = bt268.2 then ((selvedgekit_SameInts.f kj2 t250 bt257.1).bind fun t272 => (if t272 = true then ((selvedgekit_SameInts.f kj2 bt261.1 bt268.1).bind fun t273 => (selvedgelaw21_BreaksLines.j1 kj2 l0 y247 (!t273))) else (selvedgelaw21_BreaksLines.j1 kj2 l0 y247 true))) else (selvedgelaw21_BreaksLines.j1 kj2 l0 y247 true)) else (selvedgelaw21_BreaksLines.j1 kj2 l0 y247 true))))))) = some r := H
     have A9 := Aside0.mk A90
     clear A90
     replace H := Option.bind_eq_some_iff.mp H
     obtain ⟨t254, A100, H⟩ := H
     replace H : ((selvedgeref21_Lines.f kj2 t254 a1).bind fun bt257 => ((breaks_Places.f y247).bind fun bt261 => ((selvedgelaw21_ref.f kj2 l0).bind fun t265 => ((selvedgeref21_Places.f kj2 t265).bind fun bt268 => (if t251 = bt257.2 then (if bt261.2 = bt268.2 then ((selvedgekit_SameInts.f kj2 t250 bt257.1).bind fun t272 => (if t272 = true then ((selvedgekit_SameInts.f kj2 bt261.1 bt268.1).bind fun t273 => (selvedgelaw21_BreaksLines.j1 kj2 l0 y247 (!t273))) else (selvedgelaw21_BreaksLines.j1 kj2 l0 y247 true))) else (selvedgelaw21_BreaksLines.j1 kj2 l0 y247 true)) else (selvedgelaw21_BreaksLines.j1 kj2 l0 y247 true)))))) = some r := H
     have A10 := Aside0.mk A100
     clear A100
     replace H := Option.bind_eq_some_iff.mp H
     obtain ⟨⟨t257, t258⟩, A110, H⟩ := H
     replace H : ((breaks_Places.f y247).bind fun bt261 => ((selvedgelaw21_ref.f kj2 l0).bind fun t265 => ((selvedgeref21_Places.f kj2 t265).bind fun bt268 => (if t251 = t258 then (if bt261.2 = bt268.2 then ((selvedgekit_SameInts.f kj2 t250 t257).bind fun t272 => (if t272 = true then ((selvedgekit_SameInts.f kj2 bt261.1 bt268.1).bind fun t273 => (selvedgelaw21_BreaksLines.j1 kj2 l0 y247 (!t273))) else (selvedgelaw21_BreaksLines.j1 kj2 l0 y247 true))) else (selvedgelaw21_BreaksLines.j1 kj2 l0 y247 true)) else (selvedgelaw21_BreaksLines.j1 kj2 l0 y247 true))))) = some r := H
     have A11 := Aside0.mk A110
     clear A110
     replace H := Option.bind_eq_some_iff.mp H
     obtain ⟨⟨t261, t262⟩, A120, H⟩ := H
     replace H : ((selvedgelaw21_ref.f kj2 l0).bind fun t265 => ((selvedgeref21_Places.f kj2 t265).bind fun bt268 => (if t251 = t258 then (if t262 = bt268.2 then ((selvedgekit_SameInts.f kj2 t250 t257).bind fun t272 => (if t272 = true then ((selvedgekit_SameInts.f kj2 t261 bt268.1).bind fun t273 => (selvedgelaw21_BreaksLines.j1 kj2 l0 y247 (!t273))) else (selvedgelaw21_BreaksLines.j1 kj2 l0 y247 true))) else (selvedgelaw21_BreaksLines.j1 kj2 l0 y247 true)) else (selvedgelaw21_BreaksLines.j1 kj2 l0 y247 true)))) = some r := H
     have A12 := Aside0.mk A120
     clear A120
     replace H := Option.bind_eq_some_iff.mp H
     obtain ⟨t265, A130, H⟩ := H
     replace H : ((selvedgeref21_Places.f kj2 t265).bind fun bt268 => (if t251 = t258 then (if t262 = bt268.2 then ((selvedgekit_SameInts.f kj2 t250 t257).bind fun t272 => (if t272 = true then ((selvedgekit_SameInts.f kj2 t261 bt268.1).bind fun t273 => (selvedgelaw21_BreaksLines.j1 kj2 l0 y247 (!t273))) else (selvedgelaw21_BreaksLines.j1 kj2 l0 y247 true))) else (selvedgelaw21_BreaksLines.j1 kj2 l0 y247 true)) else (selvedgelaw21_BreaksLines.j1 kj2 l0 y247 true))) = some r := H
     have A13 := Aside0.mk A130
     clear A130
     replace H := Option.bind_eq_some_iff.mp H
     obtain ⟨⟨t268, t269⟩, A140, H⟩ := H
     replace H : (if t251 = t258 then (if t262 = t269 then ((selvedgekit_SameInts.f kj2 t250 t257).bind fun t272 => (if t272 = true then ((selvedgekit_SameInts.f kj2 t261 t268).bind fun t273 => (selvedgelaw21_BreaksLines.j1 kj2 l0 y247 (!t273))) else (selvedgelaw21_BreaksLines.j1 kj2 l0 y247 true))) else (selvedgelaw21_BreaksLines.j1 kj2 l0 y247 true)) else (selvedgelaw21_BreaksLines.j1 kj2 l0 y247 true)) = some r := H
     have A14 := Aside0.mk A140
     clear A140
     have HC15 := Aside0.mk H
     clear H
     go_upto_region 9 with (first | ((with_reducible refine gate_builtin (b := .append) (xs := #[.tmp 24, .tmp 25]) rfl ?_); (try (refine gate_guard (by rfl) ?_; dsimp only)); at_builtin; refine Kd.R_append_rows k36 (w0 := w) w.heap.size rfl (.tmp 24) (.tmp 25) 22 36 (.agg #[(.int .i32 0), (.int .i64 0), (.int .i64 0), (.int .i64 0)]) 32 rfl Try.underlying22 info36 rfl (by decide) (by omega) (.slice none 0 0) ([] : List (S36)) l0 _ _ _ (fun _ => True) (fun _ => False) rfl rfl ?aO ?aR (fun _ _ h => h) (fun _ h => h.elim) ?aF ?aB ?aS ?aL ?_; (case aR => repeat (first | exact (Kd.C_below HR0.out HB.out) | (with_reducible refine Kd.C_alloc ?_ _) | (with_reducible refine Kd.C_drewN ?_ _) | (with_reducible refine Kd.C_drew ?_))); (case aB => exact (mvB HB)); (case aF => exact (fun _ _ => trivial)); (case aO => exact ((Kd.R_nil _ _ _ _ (fun _ => True)))); (case aS => exact (below_size (mvB HB))); (case aL => have := LMc8.out; omega); intro v248 w16 ho hb hg hat; rw [← Ny247.out] at ho; have n0_ := Aside0.mk (hb); have n1_ := Aside0.mk (ho); clear HB; have HB := n0_; have HO249 := n1_; clear n0_ n1_; clear ho hb hg hat; obtain ⟨Ao17, co17, eo17⟩ := Kd.R_slice HO249.out; subst eo17) | (go_at_call 14; (with_reducible refine (breaks_Lines.calls _ _ y247 a1 t250 t251 _ ?side1 ?side2 A9.out).mono ?_); (case side1 => repeat (first | exact (Kd.R_reads' HO249.out).2.2 | (with_reducible refine Kd.C_alloc ?_ _) | (with_reducible refine Kd.C_drewN ?_ _) | (with_reducible refine Kd.C_drew ?_))); (case side2 => exact (Kd.R_reads' HO249.out).2.1); rintro e w18 ⟨v252, rfl, ho0, hb⟩; have n0_ := Aside0.mk (Kd.R_below (mvR HO249) hb); have n1_ := Aside0.mk (Kd.R_lower ho0 (below_size (mvB HB))); have n2_ := Aside0.mk (below_step (mvB HB) hb); clear HO249; clear HB; have HO249 := n0_; have HO253 := n1_; have HB := n2_; clear n0_ n1_ n2_; (try clear hb); (try clear hb2); (try clear hk); (try clear hi); (try clear ho0)) | ((fail_if_success (have h_ := HO256)); go_at_call 13; (with_reducible refine (selvedgelaw21_ref.calls kj2 _ _ l0 t254 _ ?side1 ?side2 A10.out).mono ?_); (case side1 => repeat (first | exact (Kd.C_below HR0.out HB.out) | (with_reducible refine Kd.C_alloc ?_ _) | (with_reducible refine Kd.C_drewN ?_ _) | (with_reducible refine Kd.C_drew ?_))); (case side2 => exact HC0.out); rintro e w19 ⟨v255, rfl, ho0, hb⟩; have n0_ := Aside0.mk (Kd.R_below (mvR HO249) hb); have n1_ := Aside0.mk (Kd.R_below (mvR HO253) hb); have n2_ := Aside0.mk (Kd.R_lower ho0 (below_size (mvB HB))); have n3_ := Aside0.mk (below_step (mvB HB) hb); clear HO249; clear HO253; clear HB; have HO249 := n0_; have HO253 := n1_; have HO256 := n2_; have HB := n3_; clear n0_ n1_ n2_ n3_; (try clear hb); (try clear hb2); (try clear hk); (try clear hi); (try clear ho0); obtain ⟨Ao20, co20, eo20⟩ := Kd.R_slice HO256.out; subst eo20) | (go_at_call 17; (with_reducible refine (selvedgeref21_Lines.calls kj2 _ _ t254 a1 t257 t258 _ ?side1 ?side2 A11.out).mono ?_); (case side1 => repeat (first | exact (Kd.R_reads' HO256.out).2.2 | (with_reducible refine Kd.C_alloc ?_ _) | (with_reducible refine Kd.C_drewN ?_ _) | (with_reducible refine Kd.C_drew ?_))); (case side2 => exact (Kd.R_reads' HO256.out).2.1); rintro e w21 ⟨v259, rfl, ho0, hb⟩; have n0_ := Aside0.mk (Kd.R_below (mvR HO249) hb); have n1_ := Aside0.mk (Kd.R_elder' (mvR HO253) (Kd.R_base ho0) hb); have n2_ := Aside0.mk (Kd.R_below (mvR HO256) hb); have n3_ := Aside0.mk (Kd.R_lower (Kd.R_new' ho0 (Kd.R_lt (mvR HO253))) (below_size (mvB HB))); have n4_ := Aside0.mk (below_step (mvB HB) hb); clear HO249; clear HO253; clear HO256; clear HB; have HO249 := n0_; have HO253 := n1_; have HO256 := n2_; have HO260 := n3_; have HB := n4_; clear n0_ n1_ n2_ n3_ n4_; (try clear hb); (try clear hb2); (try clear hk); (try clear hi); (try clear ho0)) | (go_at_call 18; (with_reducible refine (breaks_Places.calls _ _ y247 t261 t262 _ ?side1 ?side2 A12.out).mono ?_); (case side1 => repeat (first | exact (Kd.R_reads' HO249.out).2.2 | (with_reducible refine Kd.C_alloc ?_ _) | (with_reducible refine Kd.C_drewN ?_ _) | (with_reducible refine Kd.C_drew ?_))); (case side2 => exact (Kd.R_reads' HO249.out).2.1); rintro e w22 ⟨v263, rfl, ho0, hb⟩; have n0_ := Aside0.mk (Kd.R_below (mvR HO249) hb); have n1_ := Aside0.mk (Kd.R_elder' (mvR HO253) (Kd.R_base ho0) hb); have n2_ := Aside0.mk (Kd.R_below (mvR HO256) hb); have n3_ := Aside0.mk (Kd.R_elder' (mvR HO260) (Kd.R_base ho0) hb); have n4_ := Aside0.mk (Kd.R_lower (Kd.R_new' (Kd.R_new' ho0 (Kd.R_lt (mvR HO253))) (Kd.R_lt (mvR HO260))) (below_size (mvB HB))); have n5_ := Aside0.mk (below_step (mvB HB) hb); clear HO249; clear HO253; clear HO256; clear HO260; clear HB; have HO249 := n0_; have HO253 := n1_; have HO256 := n2_; have HO260 := n3_; have HO264 := n4_; have HB := n5_; clear n0_ n1_ n2_ n3_ n4_ n5_; (try clear hb); (try clear hb2); (try clear hk); (try clear hi); (try clear ho0)) | (go_at_call 13; (with_reducible refine (selvedgelaw21_ref.calls kj2 _ _ l0 t265 _ ?side1 ?side2 A13.out).mono ?_); (case side1 => repeat (first | exact (Kd.C_below HR0.out HB.out) | (with_reducible refine Kd.C_alloc ?_ _) | (with_reducible refine Kd.C_drewN ?_ _) | (with_reducible refine Kd.C_drew ?_))); (case side2 => exact HC0.out); rintro e w23 ⟨v266, rfl, ho0, hb⟩; have n0_ := Aside0.mk (Kd.R_below (mvR HO249) hb); have n1_ := Aside0.mk (Kd.R_below (mvR HO253) hb); have n2_ := Aside0.mk (Kd.R_elder' (mvR HO256) (Kd.R_base ho0) hb); have n3_ := Aside0.mk (Kd.R_below (mvR HO260) hb); have n4_ := Aside0.mk (Kd.R_below (mvR HO264) hb); have n5_ := Aside0.mk (Kd.R_lower (Kd.R_new' ho0 (Kd.R_lt (mvR HO256))) (below_size (mvB HB))); have n6_ := Aside0.mk (below_step (mvB HB) hb); clear HO249; clear HO253; clear HO256; clear HO260; clear HO264; clear HB; have HO249 := n0_; have HO253 := n1_; have HO256 := n2_; have HO260 := n3_; have HO264 := n4_; have HO267 := n5_; have HB := n6_; clear n0_ n1_ n2_ n3_ n4_ n5_ n6_; (try clear hb); (try clear hb2); (try clear hk); (try clear hi); (try clear ho0); obtain ⟨Ao24, co24, eo24⟩ := Kd.R_slice HO267.out; subst eo24) | (go_at_call 19; (with_reducible refine (selvedgeref21_Places.calls kj2 _ _ t265 t268 t269 _ ?side1 ?side2 A14.out).mono ?_); (case side1 => repeat (first | exact (Kd.R_reads' HO267.out).2.2 | (with_reducible refine Kd.C_alloc ?_ _) | (with_reducible refine Kd.C_drewN ?_ _) | (with_reducible refine Kd.C_drew ?_))); (case side2 => exact (Kd.R_reads' HO267.out).2.1); rintro e w25 ⟨v270, rfl, ho0, hb⟩; have n0_ := Aside0.mk (Kd.R_below (mvR HO249) hb); have n1_ := Aside0.mk (Kd.R_elder' (mvR HO253) (Kd.R_base ho0) hb); have n2_ := Aside0.mk (Kd.R_below (mvR HO256) hb); have n3_ := Aside0.mk (Kd.R_elder' (mvR HO260) (Kd.R_base ho0) hb); have n4_ := Aside0.mk (Kd.R_elder' (mvR HO264) (Kd.R_base ho0) hb); have n5_ := Aside0.mk (Kd.R_below (mvR HO267) hb); have n6_ := Aside0.mk (Kd.R_lower (Kd.R_new' (Kd.R_new' (Kd.R_new' ho0 (Kd.R_lt (mvR HO253))) (Kd.R_lt (mvR HO260))) (Kd.R_lt (mvR HO264))) (below_size (mvB HB))); have n7_ := Aside0.mk (below_step (mvB HB) hb); clear HO249; clear HO253; clear HO256; clear HO260; clear HO264; clear HO267; clear HB; have HO249 := n0_; have HO253 := n1_; have HO256 := n2_; have HO260 := n3_; have HO264 := n4_; have HO267 := n5_; have HO271 := n6_; have HB := n7_; clear n0_ n1_ n2_ n3_ n4_ n5_ n6_ n7_; (try clear hb); (try clear hb2); (try clear hk); (try clear hi); (try clear ho0)))
     repeat (go_quiet (fail))
     (try simp only [Act.put, List.setIfInBounds_toArray, List.set_cons_zero, List.set_cons_succ])
     go_cut [70] (fun v70 wc => ∃ (kq : Nat) (x70_14 : Bool), v70 = .bool x70_14 ∧ Aside0 (selvedgelaw21_BreaksLines.j1 kq l0 y247 x70_14 = some r) ∧ Aside0 (kq ≤ kj2) ∧ Aside0 (Kd.R k36 36 wc w.heap.size (fun _ => True) (.slice Ao17 y247.length co17) y247) ∧ Aside0 (Below w.heap.size w wc))
     case first =>
      have H := HC15.out
      clear HC15
      by_cases c26 : t251 = t258
      ·rw [if_pos c26] at H
       have c26b0 : (t251 == t258) = true := beq_iff_eq.mpr c26
       have c26b1 : (t251 != t258) = false := bne_eq_false_iff_eq.mpr c26
       clear c26
       (first | rw [c26b0] | (simp only [i64_w, i32_w]; rw [c26b0]) | skip)
       by_cases c27 : t262 = t269
       ·rw [if_pos c27] at H
        have c27b0 : (t262 == t269) = true := beq_iff_eq.mpr c27
        have c27b1 : (t262 != t269) = false := bne_eq_false_iff_eq.mpr c27
        clear c27
        replace H := Option.bind_eq_some_iff.mp H
        obtain ⟨t272, A280, H⟩ := H
        replace H : (if t272 = true then ((selvedgekit_SameInts.f kj2 t261 t268).bind fun t273 => (selvedgelaw21_BreaksLines.j1 kj2 l0 y247 (!t273))) else (selvedgelaw21_BreaksLines.j1 kj2 l0 y247 true)) = some r := H
        have A28 := Aside0.mk A280
        clear A280
        by_cases c29 : t272 = true
        ·subst c29
         have H1 : ((selvedgekit_SameInts.f kj2 t261 t268).bind fun t273 => (selvedgelaw21_BreaksLines.j1 kj2 l0 y247 (!t273))) = some r := by rw [if_pos rfl] at H; exact H
         clear H
         have H := H1
         clear H1
         replace H := Option.bind_eq_some_iff.mp H
         obtain ⟨t273, A300, H⟩ := H
         replace H : (selvedgelaw21_BreaksLines.j1 kj2 l0 y247 (!t273)) = some r := H
         have A30 := Aside0.mk A300
         clear A300
         have H' := Aside0.mk H
         clear H
         obtain ⟨Ao31, co31, eo31⟩ := Kd.R_slice HO253.out
         subst eo31
         obtain ⟨Ao32, co32, eo32⟩ := Kd.R_slice HO260.out
         subst eo32
         go_wp2_with (first | (go_at_call 16; (with_reducible refine (selvedgekit_SameInts.calls kj2 _ _ t250 _ _ t257 true _ ?side1 ?side2 ?side3 ?side4 A28.out).mono ?_); (case side1 => repeat (first | exact (Kd.R_reads' HO253.out).2.2 | (with_reducible refine Kd.C_alloc ?_ _) | (with_reducible refine Kd.C_drewN ?_ _) | (with_reducible refine Kd.C_drew ?_))); (case side2 => exact (Kd.R_reads' HO253.out).2.1); (case side3 => repeat (first | exact (Kd.R_reads' HO260.out).2.2 | (with_reducible refine Kd.C_alloc ?_ _) | (with_reducible refine Kd.C_drewN ?_ _) | (with_reducible refine Kd.C_drew ?_))); (case side4 => exact (Kd.R_reads' HO260.out).2.1); rintro e w' ⟨rfl, ⟨nd, rfl⟩⟩; (try first | exact ⟨rfl, _, World.drewN_drewN _ _ _⟩ | exact ⟨rfl, _, Eq.trans (World.drewN_drewN _ _ _) (congrArg (World.drewN _) (Nat.add_assoc _ _ _))⟩); obtain ⟨Ao33, co33, eo33⟩ := Kd.R_slice HO264.out; subst eo33; obtain ⟨Ao34, co34, eo34⟩ := Kd.R_slice HO271.out; subst eo34) | (go_at_call 16; (with_reducible refine (selvedgekit_SameInts.calls kj2 _ _ t261 _ _ t268 t273 _ ?side1 ?side2 ?side3 ?side4 A30.out).mono ?_); (case side1 => repeat (first | exact (Kd.R_reads' HO264.out).2.2 | (with_reducible refine Kd.C_alloc ?_ _) | (with_reducible refine Kd.C_drewN ?_ _) | (with_reducible refine Kd.C_drew ?_))); (case side2 => exact (Kd.R_reads' HO264.out).2.1); (case side3 => repeat (first | exact (Kd.R_reads' HO271.out).2.2 | (with_reducible refine Kd.C_alloc ?_ _) | (with_reducible refine Kd.C_drewN ?_ _) | (with_reducible refine Kd.C_drew ?_))); (case side4 => exact (Kd.R_reads' HO271.out).2.1); rintro e w' ⟨rfl, ⟨nd, rfl⟩⟩; (try first | exact ⟨rfl, _, World.drewN_drewN _ _ _⟩ | exact ⟨rfl, _, Eq.trans (World.drewN_drewN _ _ _) (congrArg (World.drewN _) (Nat.add_assoc _ _ _))⟩)))
         repeat (go_quiet (first | (go_at_call 16; (with_reducible refine (selvedgekit_SameInts.calls kj2 _ _ t250 _ _ t257 true _ ?side1 ?side2 ?side3 ?side4 A28.out).mono ?_); (case side1 => repeat (first | exact (Kd.R_reads' HO253.out).2.2 | (with_reducible refine Kd.C_alloc ?_ _) | (with_reducible refine Kd.C_drewN ?_ _) | (with_reducible refine Kd.C_drew ?_))); (case side2 => exact (Kd.R_reads' HO253.out).2.1); (case side3 => repeat (first | exact (Kd.R_reads' HO260.out).2.2 | (with_reducible refine Kd.C_alloc ?_ _) | (with_reducible refine Kd.C_drewN ?_ _) | (with_reducible refine Kd.C_drew ?_))); (case side4 => exact (Kd.R_reads' HO260.out).2.1); rintro e w' ⟨rfl, ⟨nd, rfl⟩⟩; (try first | exact ⟨rfl, _, World.drewN_drewN _ _ _⟩ | exact ⟨rfl, _, Eq.trans (World.drewN_drewN _ _ _) (congrArg (World.drewN _) (Nat.add_assoc _ _ _))⟩); obtain ⟨Ao33, co33, eo33⟩ := Kd.R_slice HO264.out; subst eo33; obtain ⟨Ao34, co34, eo34⟩ := Kd.R_slice HO271.out; subst eo34) | (go_at_call 16; (with_reducible refine (selvedgekit_SameInts.calls kj2 _ _ t261 _ _ t268 t273 _ ?side1 ?side2 ?side3 ?side4 A30.out).mono ?_); (case side1 => repeat (first | exact (Kd.R_reads' HO264.out).2.2 | (with_reducible refine Kd.C_alloc ?_ _) | (with_reducible refine Kd.C_drewN ?_ _) | (with_reducible refine Kd.C_drew ?_))); (case side2 => exact (Kd.R_reads' HO264.out).2.1); (case side3 => repeat (first | exact (Kd.R_reads' HO271.out).2.2 | (with_reducible refine Kd.C_alloc ?_ _) | (with_reducible refine Kd.C_drewN ?_ _) | (with_reducible refine Kd.C_drew ?_))); (case side4 => exact (Kd.R_reads' HO271.out).2.1); rintro e w' ⟨rfl, ⟨nd, rfl⟩⟩; (try first | exact ⟨rfl, _, World.drewN_drewN _ _ _⟩ | exact ⟨rfl, _, Eq.trans (World.drewN_drewN _ _ _) (congrArg (World.drewN _) (Nat.add_assoc _ _ _))⟩))); try go_wp2_with (first | (go_at_call 16; (with_reducible refine (selvedgekit_SameInts.calls kj2 _ _ t250 _ _ t257 true _ ?side1 ?side2 ?side3 ?side4 A28.out).mono ?_); (case side1 => repeat (first | exact (Kd.R_reads' HO253.out).2.2 | (with_reducible refine Kd.C_alloc ?_ _) | (with_reducible refine Kd.C_drewN ?_ _) | (with_reducible refine Kd.C_drew ?_))); (case side2 => exact (Kd.R_reads' HO253.out).2.1); (case side3 => repeat (first | exact (Kd.R_reads' HO260.out).2.2 | (with_reducible refine Kd.C_alloc ?_ _) | (with_reducible refine Kd.C_drewN ?_ _) | (with_reducible refine Kd.C_drew ?_))); (case side4 => exact (Kd.R_reads' HO260.out).2.1); rintro e w' ⟨rfl, ⟨nd, rfl⟩⟩; (try first | exact ⟨rfl, _, World.drewN_drewN _ _ _⟩ | exact ⟨rfl, _, Eq.trans (World.drewN_drewN _ _ _) (congrArg (World.drewN _) (Nat.add_assoc _ _ _))⟩); obtain ⟨Ao33, co33, eo33⟩ := Kd.R_slice HO264.out; subst eo33; obtain ⟨Ao34, co34, eo34⟩ := Kd.R_slice HO271.out; subst eo34) | (go_at_call 16; (with_reducible refine (selvedgekit_SameInts.calls kj2 _ _ t261 _ _ t268 t273 _ ?side1 ?side2 ?side3 ?side4 A30.out).mono ?_); (case side1 => repeat (first | exact (Kd.R_reads' HO264.out).2.2 | (with_reducible refine Kd.C_alloc ?_ _) | (with_reducible refine Kd.C_drewN ?_ _) | (with_reducible refine Kd.C_drew ?_))); (case side2 => exact (Kd.R_reads' HO264.out).2.1); (case side3 => repeat (first | exact (Kd.R_reads' HO271.out).2.2 | (with_reducible refine Kd.C_alloc ?_ _) | (with_reducible refine Kd.C_drewN ?_ _) | (with_reducible refine Kd.C_drew ?_))); (case side4 => exact (Kd.R_reads' HO271.out).2.1); rintro e w' ⟨rfl, ⟨nd, rfl⟩⟩; (try first | exact ⟨rfl, _, World.drewN_drewN _ _ _⟩ | exact ⟨rfl, _, Eq.trans (World.drewN_drewN _ _ _) (congrArg (World.drewN _) (Nat.add_assoc _ _ _))⟩))))
         go_meet
         case rel => exact ⟨_, (!t273), (by first | rfl | (simp; done) | (simp [*]; done)), H', ⟨by have := HJ2.out; first | omega | exact Nat.le_refl _⟩, ⟨mvR HO249⟩, ⟨mvB HB⟩⟩
        ·replace c29 := Bool.eq_false_iff.mpr c29
         subst c29
         have H1 : (selvedgelaw21_BreaksLines.j1 kj2 l0 y247 true) = some r := by rw [if_neg (show ¬ (false = true) by decide)] at H; exact H
         clear H
         have H := H1
         clear H1
         have H' := Aside0.mk H
         clear H
         obtain ⟨Ao35, co35, eo35⟩ := Kd.R_slice HO253.out
         subst eo35
         obtain ⟨Ao36, co36, eo36⟩ := Kd.R_slice HO260.out
         subst eo36
         go_wp2_with (first | (go_at_call 16; (with_reducible refine (selvedgekit_SameInts.calls kj2 _ _ t250 _ _ t257 false _ ?side1 ?side2 ?side3 ?side4 A28.out).mono ?_); (case side1 => repeat (first | exact (Kd.R_reads' HO253.out).2.2 | (with_reducible refine Kd.C_alloc ?_ _) | (with_reducible refine Kd.C_drewN ?_ _) | (with_reducible refine Kd.C_drew ?_))); (case side2 => exact (Kd.R_reads' HO253.out).2.1); (case side3 => repeat (first | exact (Kd.R_reads' HO260.out).2.2 | (with_reducible refine Kd.C_alloc ?_ _) | (with_reducible refine Kd.C_drewN ?_ _) | (with_reducible refine Kd.C_drew ?_))); (case side4 => exact (Kd.R_reads' HO260.out).2.1); rintro e w' ⟨rfl, ⟨nd, rfl⟩⟩; (try first | exact ⟨rfl, _, World.drewN_drewN _ _ _⟩ | exact ⟨rfl, _, Eq.trans (World.drewN_drewN _ _ _) (congrArg (World.drewN _) (Nat.add_assoc _ _ _))⟩)))
         repeat (go_quiet (first | (go_at_call 16; (with_reducible refine (selvedgekit_SameInts.calls kj2 _ _ t250 _ _ t257 false _ ?side1 ?side2 ?side3 ?side4 A28.out).mono ?_); (case side1 => repeat (first | exact (Kd.R_reads' HO253.out).2.2 | (with_reducible refine Kd.C_alloc ?_ _) | (with_reducible refine Kd.C_drewN ?_ _) | (with_reducible refine Kd.C_drew ?_))); (case side2 => exact (Kd.R_reads' HO253.out).2.1); (case side3 => repeat (first | exact (Kd.R_reads' HO260.out).2.2 | (with_reducible refine Kd.C_alloc ?_ _) | (with_reducible refine Kd.C_drewN ?_ _) | (with_reducible refine Kd.C_drew ?_))); (case side4 => exact (Kd.R_reads' HO260.out).2.1); rintro e w' ⟨rfl, ⟨nd, rfl⟩⟩; (try first | exact ⟨rfl, _, World.drewN_drewN _ _ _⟩ | exact ⟨rfl, _, Eq.trans (World.drewN_drewN _ _ _) (congrArg (World.drewN _) (Nat.add_assoc _ _ _))⟩))); try go_wp2_with (first | (go_at_call 16; (with_reducible refine (selvedgekit_SameInts.calls kj2 _ _ t250 _ _ t257 false _ ?side1 ?side2 ?side3 ?side4 A28.out).mono ?_); (case side1 => repeat (first | exact (Kd.R_reads' HO253.out).2.2 | (with_reducible refine Kd.C_alloc ?_ _) | (with_reducible refine Kd.C_drewN ?_ _) | (with_reducible refine Kd.C_drew ?_))); (case side2 => exact (Kd.R_reads' HO253.out).2.1); (case side3 => repeat (first | exact (Kd.R_reads' HO260.out).2.2 | (with_reducible refine Kd.C_alloc ?_ _) | (with_reducible refine Kd.C_drewN ?_ _) | (with_reducible refine Kd.C_drew ?_))); (case side4 => exact (Kd.R_reads' HO260.out).2.1); rintro e w' ⟨rfl, ⟨nd, rfl⟩⟩; (try first | exact ⟨rfl, _, World.drewN_drewN _ _ _⟩ | exact ⟨rfl, _, Eq.trans (World.drewN_drewN _ _ _) (congrArg (World.drewN _) (Nat.add_assoc _ _ _))⟩))))
         go_meet
         case rel => exact ⟨_, (true), (by first | rfl | (simp; done) | (simp [*]; done)), H', ⟨by have := HJ2.out; first | omega | exact Nat.le_refl _⟩, ⟨mvR HO249⟩, ⟨mvB HB⟩⟩
       ·rw [if_neg c27] at H
        have c27b0 : (t262 == t269) = false := beq_eq_false_iff_ne.mpr c27
        have c27b1 : (t262 != t269) = true := bne_iff_ne.mpr c27
        have H' := Aside0.mk H
        clear H
        go_wp2
        repeat (go_quiet (fail); try go_wp2)
        go_meet
        case rel => exact ⟨_, (true), (by first | rfl | (simp; done) | (simp [*]; done)), H', ⟨by have := HJ2.out; first | omega | exact Nat.le_refl _⟩, ⟨mvR HO249⟩, ⟨mvB HB⟩⟩
      ·rw [if_neg c26] at H
       have c26b0 : (t251 == t258) = false := beq_eq_false_iff_ne.mpr c26
       have c26b1 : (t251 != t258) = true := bne_iff_ne.mpr c26
       (first | rw [c26b0] | (simp only [i64_w, i32_w]; rw [c26b0]) | skip)
       have H' := Aside0.mk H
       clear H
       go_wp2
       repeat (go_quiet (fail); try go_wp2)
       go_meet
       case rel => exact ⟨_, (true), (by first | rfl | (simp; done) | (simp [*]; done)), H', ⟨by have := HJ2.out; first | omega | exact Nat.le_refl _⟩, ⟨mvR HO249⟩, ⟨mvB HB⟩⟩
     case rest =>
      clear HC15
      try clear c2
      try clear p2
      try clear c4
      try clear c4b0
      try clear c4b1
      try clear c5
      try clear c7
      try clear c8
      try clear c26
      try clear c26b0
      try clear c26b1
      try clear c27
      try clear c27b0
      try clear c27b1
      try clear c29
      try clear p2
      obtain ⟨kq, x70_14, rfl, HA, HJ14, HO_5, HB⟩ := hcut
      cases kq with
      | zero => exact absurd HA.out (by simp [selvedgelaw21_BreaksLines.j1])
      | succ kj14 =>
       have H := HA.out
       clear HA
       simp only [selvedgelaw21_BreaksLines.j1] at H
       by_cases c37 : x70_14 = true
       ·subst c37
        have H1 : (some false) = some r := by rw [if_pos rfl] at H; exact H
        clear H
        have H := H1
        clear H1
        obtain rfl := Option.some.inj H
        go_wp2
        repeat (go_quiet (fail); try go_wp2)
        go_ret
        exact ⟨by first | rfl | (simp [errW_none, errW_some] <;> rfl) | (simp [*, errW_none, errW_some] <;> rfl), mvB HB⟩
       ·replace c37 := Bool.eq_false_iff.mpr c37
        subst c37
        have H1 : (selvedgelaw21_BreaksLines.l0 kj14 l0 y247 0) = some r := by rw [if_neg (show ¬ (false = true) by decide)] at H; exact H
        clear H
        have H := H1
        clear H1
        have H' := Aside0.mk H
        clear H
        go_wp2
        repeat (go_quiet (fail); try go_wp2)
        go_loopg [14] kj14 (fun kq v14 w' => ∃ (x14_3 : Int), v14 = .int .i64 x14_3 ∧ Aside0 (selvedgelaw21_BreaksLines.l0 kq l0 y247 x14_3 = some r) ∧ Aside0 (kq ≤ kj14) ∧ Aside0 (Kd.R k36 36 w' w.heap.size (fun _ => True) (.slice Ao17 y247.length co17) y247) ∧ Aside0 (Below w.heap.size w w'))
        case atStart => exact ⟨(0), (by first | rfl | (simp; done) | (simp [*]; done)), H', ⟨Nat.le_refl _⟩, ⟨mvR HO_5⟩, ⟨mvB HB⟩⟩
        case round =>
         clear H'
         try clear c2
         try clear p2
         try clear c3
         try clear c4
         try clear c4b0
         try clear c4b1
         try clear c5
         try clear c7
         try clear c8
         try clear c26
         try clear c26b0
         try clear c26b1
         try clear c27
         try clear c27b0
         try clear c27b1
         try clear c29
         try clear c37
         try clear p2
         obtain ⟨x14_3, rfl, HA, HK3, HO_5, HB⟩ := hrel
         cases gk with
         | zero => exact absurd HA.out (by simp [selvedgelaw21_BreaksLines.l0])
         | succ k3 =>
          have H := HA.out
          clear HA
          simp only [selvedgelaw21_BreaksLines.l0] at H
          by_cases c38 : x14_3 < (l0.length : Int)
          ·rw [if_pos c38] at H
           have c38b0 : decide (x14_3 < (l0.length : Int)) = true := decide_eq_true c38
           clear c38
           by_cases c39 : 0 ≤ x14_3
           ·rw [if_pos c39] at H
            have c39b0 : decide (0 ≤ x14_3) = true := decide_eq_true c39
            clear c39
            by_cases c40 : x14_3 < (y247.length : Int)
            ·rw [if_pos c40] at H
             have c40b0 : decide (x14_3 < (y247.length : Int)) = true := decide_eq_true c40
             clear c40
             by_cases c41 : (!(((rd_T36 y247 x14_3).f0) == ((rd_T36 l0 x14_3).f0)) || (!(((rd_T36 y247 x14_3).f1) == ((rd_T36 l0 x14_3).f1)) || (!(((rd_T36 y247 x14_3).f2) == ((rd_T36 l0 x14_3).f2)) || (!(((rd_T36 y247 x14_3).f3) == ((rd_T36 l0 x14_3).f3)))))) = true
             ·rw [if_pos c41] at H
              have c41b0 : (!(((rd_T36 y247 x14_3).f0) == ((rd_T36 l0 x14_3).f0)) || (!(((rd_T36 y247 x14_3).f1) == ((rd_T36 l0 x14_3).f1)) || (!(((rd_T36 y247 x14_3).f2) == ((rd_T36 l0 x14_3).f2)) || (!(((rd_T36 y247 x14_3).f3) == ((rd_T36 l0 x14_3).f3)))))) = true := c41
              clear c41
              obtain rfl := Option.some.inj H
              have p274 := dT (0 ≤ (x14_3 : Int))
              have q274 := dT (x14_3 < (y247.length : Int))
              obtain ⟨ad274, e274, hx274_0, hx274_1, hx274_2, hx274_3⟩ := at_T36 (Kd.R_reads' HO_5.out).2.2 x14_3 p274 q274
              cases e274
              replace p274 := eq_true p274
              replace q274 := eq_true q274
              have p275 := dT (0 ≤ (x14_3 : Int))
              have q275 := dT (x14_3 < (l0.length : Int))
              obtain ⟨ad275, e275, hx275_0, hx275_1, hx275_2, hx275_3⟩ := at_T36 HR0.out x14_3 p275 q275
              cases e275
              replace hx275_0 := (HB.out.cell (World.block_lt_of_cell? w _ hx275_0)).trans hx275_0
              replace hx275_1 := (HB.out.cell (World.block_lt_of_cell? w _ hx275_1)).trans hx275_1
              replace hx275_2 := (HB.out.cell (World.block_lt_of_cell? w _ hx275_2)).trans hx275_2
              replace hx275_3 := (HB.out.cell (World.block_lt_of_cell? w _ hx275_3)).trans hx275_3
              replace p275 := eq_true p275
              replace q275 := eq_true q275
              go_wp2
              repeat (go_quiet (fail); try go_wp2)
              go_ret
              exact ⟨by first | rfl | (simp [errW_none, errW_some] <;> rfl) | (simp [*, errW_none, errW_some] <;> rfl), mvB HB⟩
             ·rw [if_neg c41] at H
              have c41b0 : (!(((rd_T36 y247 x14_3).f0) == ((rd_T36 l0 x14_3).f0)) || (!(((rd_T36 y247 x14_3).f1) == ((rd_T36 l0 x14_3).f1)) || (!(((rd_T36 y247 x14_3).f2) == ((rd_T36 l0 x14_3).f2)) || (!(((rd_T36 y247 x14_3).f3) == ((rd_T36 l0 x14_3).f3)))))) = false := by simpa using c41
              clear c41
              have H' := Aside0.mk H
              clear H
              have p274 := dT (0 ≤ (x14_3 : Int))
              have q274 := dT (x14_3 < (y247.length : Int))
              obtain ⟨ad274, e274, hx274_0, hx274_1, hx274_2, hx274_3⟩ := at_T36 (Kd.R_reads' HO_5.out).2.2 x14_3 p274 q274
              cases e274
              replace p274 := eq_true p274
              replace q274 := eq_true q274
              have p275 := dT (0 ≤ (x14_3 : Int))
              have q275 := dT (x14_3 < (l0.length : Int))
              obtain ⟨ad275, e275, hx275_0, hx275_1, hx275_2, hx275_3⟩ := at_T36 HR0.out x14_3 p275 q275
              cases e275
              replace hx275_0 := (HB.out.cell (World.block_lt_of_cell? w _ hx275_0)).trans hx275_0
              replace hx275_1 := (HB.out.cell (World.block_lt_of_cell? w _ hx275_1)).trans hx275_1
              replace hx275_2 := (HB.out.cell (World.block_lt_of_cell? w _ hx275_2)).trans hx275_2
              replace hx275_3 := (HB.out.cell (World.block_lt_of_cell? w _ hx275_3)).trans hx275_3
              replace p275 := eq_true p275
              replace q275 := eq_true q275
              go_wp2
              repeat (go_quiet (fail); try go_wp2)
              go_roundg k3
              case measure => have := HJ2.out; have := HJ14.out; have := HK3.out; omega
              case rel => exact ⟨(wrap64 (x14_3 + 1)), (by first | rfl | (simp; done) | (simp [*]; done)), H', ⟨by have := HJ2.out; have := HJ14.out; have := HK3.out; omega⟩, ⟨mvR HO_5⟩, ⟨mvB HB⟩⟩
            ·rw [if_neg c40] at H
             exact absurd H (by simp)
           ·rw [if_neg c39] at H
            exact absurd H (by simp)
          ·rw [if_neg c38] at H
           have c38b0 : decide (x14_3 < (l0.length : Int)) = false := decide_eq_false c38
           clear c38
           replace H := Option.bind_eq_some_iff.mp H
           obtain ⟨t276, A420, H⟩ := H
           replace H : (some t276) = some r := H
           have A42 := Aside0.mk A420
           clear A420
           obtain rfl := Option.some.inj H
           go_wp2_with (first | (go_at_call 10; (with_reducible refine (selvedgelaw21_works.calls k3  t276 _ A42.out).mono ?_); rintro e w43 ⟨rfl, hb⟩; have n0_ := Aside0.mk (Kd.R_below (mvR HO_5) hb); have n1_ := Aside0.mk (below_step (mvB HB) hb); clear HO_5; clear HB; have HO_5 := n0_; have HB := n1_; clear n0_ n1_; (try clear hb); (try clear hb2); (try clear hk); (try clear hi)))
           repeat (go_quiet (fail))
           go_ret
           exact ⟨by first | rfl | (simp [errW_none, errW_some] <;> rfl) | (simp [*, errW_none, errW_some] <;> rfl), mvB HB⟩
    ·rw [if_neg c8] at H
     exact absurd H (by simp)

end Go.Proofs.Ythckihfkhmoafaa.X
