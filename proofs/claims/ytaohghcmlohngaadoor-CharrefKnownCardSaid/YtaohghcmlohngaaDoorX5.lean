-- by xprint.py: the kit's printer over texts of this session
import Derived.Test.YtaohghcmlohngaaDoorX0
import Derived.Test.YtaohghcmlohngaaDoorX4
namespace Go.Proofs.YtaohghcmlohngaaDoor.X
open Go.RowKit Go.Proofs.YtaohghcmlohngaaDoorW.PrintWords Go.Proofs.YtaohghcmlohngaaDoorW.PrintLast Go.Proofs.YtaohghcmlohngaaDoorW.PrintMore
attribute [local go_sem] max2_int min2_int max_two min_two max_three min_three max_four min_four   -- for this text's walks alone
set_option linter.unusedVariables false
set_option linter.unusedSimpArgs false

/-! ### selvedgeref03_number: function 25 -/
mutual
def selvedgeref03_number.j0 : Nat → ByteArray → Int → Int → Bool → Option (Int × Int × Bool)
 | 0, _, _, _, _ => none
 | k + 1, x0, x5, x6, x16 => if x16 = true then (selvedgeref03_number.j1 k x0 16 1) else (selvedgeref03_number.j1 k x0 x5 x6)
def selvedgeref03_number.j1 : Nat → ByteArray → Int → Int → Option (Int × Int × Bool)
 | 0, _, _, _ => none
 | k + 1, x0, x5, x6 => selvedgeref03_number.l0 k x0 x5 x6 x6 0
def selvedgeref03_number.j3 : Nat → ByteArray → Int → Int → Int → Option (Int × Int × Bool)
 | 0, _, _, _, _ => none
 | k + 1, x0, x6, x7, x8 => if x6 = x7 then (some (0, 0, false)) else (if x6 < (x0.size : Int) then (if 0 ≤ x6 then (selvedgeref03_number.j4 k x6 x8 ((bt x0 x6) == 59)) else (none)) else (selvedgeref03_number.j4 k x6 x8 false))
def selvedgeref03_number.j4 : Nat → Int → Int → Bool → Option (Int × Int × Bool)
 | 0, _, _, _ => none
 | k + 1, x6, x8, x60 => if x60 = true then (selvedgeref03_number.j5 k (wrap64 (x6 + 1)) x8) else (selvedgeref03_number.j5 k x6 x8)
def selvedgeref03_number.j5 : Nat → Int → Int → Option (Int × Int × Bool)
 | 0, _, _ => none
 | k + 1, x6, x8 => if x8 = 0 then (selvedgeref03_number.j6 k x6 x8 true) else (if x8 > 1114111 then (selvedgeref03_number.j6 k x6 x8 true) else (if x8 ≥ 55296 then (selvedgeref03_number.j6 k x6 x8 (decide (x8 ≤ 57343))) else (selvedgeref03_number.j6 k x6 x8 false)))
def selvedgeref03_number.j6 : Nat → Int → Int → Bool → Option (Int × Int × Bool)
 | 0, _, _, _ => none
 | k + 1, x6, x8, x76 => if x76 = true then (selvedgeref03_number.j7 k x6 65533) else (selvedgeref03_number.j7 k x6 x8)
def selvedgeref03_number.j7 : Nat → Int → Int → Option (Int × Int × Bool)
 | 0, _, _ => none
 | k + 1, x6, x8 => (selvedgeref03_replaced.f).bind fun t135 => (selvedgeref03_number.l1 k x6 x8 t135 0)
def selvedgeref03_number.l1 : Nat → Int → Int → List (S73) → Int → Option (Int × Int × Bool)
 | 0, _, _, _, _ => none
 | k + 1, x6, x8, x9, x10 => if x10 < (x9.length : Int) then (if 0 ≤ x10 then (if ((rd_T73 x9 x10).f0) = x8 then (some ((rd_T73 x9 x10).f1, x6, true)) else (selvedgeref03_number.l1 k x6 x8 x9 (wrap64 (x10 + 1)))) else (none)) else (some (x8, x6, true))
def selvedgeref03_number.l0 : Nat → ByteArray → Int → Int → Int → Int → Option (Int × Int × Bool)
 | 0, _, _, _, _, _ => none
 | k + 1, x0, x5, x6, x7, x8 => if x6 < (x0.size : Int) then (if 0 ≤ x6 then ((selvedgeref03_digit.f k (bt x0 x6)).bind fun t132 => (if t132 ≥ 0 then ((selvedgeref03_digit.f k (bt x0 x6)).bind fun t133 => (if t133 < x5 then ((selvedgeref03_digit.f k (bt x0 x6)).bind fun t134 => (selvedgeref03_number.l0 k x0 x5 (wrap64 (x6 + 1)) x7 (mn (wrap32 ((wrap32 (x8 * x5)) + t134)) 1114112))) else (selvedgeref03_number.j3 k x0 x6 x7 x8))) else (selvedgeref03_number.j3 k x0 x6 x7 x8))) else (none)) else (selvedgeref03_number.j3 k x0 x6 x7 x8)
end
def selvedgeref03_number.f (k : Nat) (a0 : ByteArray) : Option (Int × Int × Bool) := (selvedgeref03_begins.f a0 (⟨#[120]⟩ : ByteArray)).bind fun t130 => (if t130 = true then (selvedgeref03_number.j0 k a0 10 0 true) else ((selvedgeref03_begins.f a0 (⟨#[88]⟩ : ByteArray)).bind fun t131 => (selvedgeref03_number.j0 k a0 10 0 t131)))
theorem selvedgeref03_number.mono_l : ∀ k, (∀ y0 y1 y2 y3, LeO (selvedgeref03_number.j0 k y0 y1 y2 y3) (selvedgeref03_number.j0 (k + 1) y0 y1 y2 y3)) ∧ (∀ y0 y1 y2, LeO (selvedgeref03_number.j1 k y0 y1 y2) (selvedgeref03_number.j1 (k + 1) y0 y1 y2)) ∧ (∀ y0 y1 y2 y3, LeO (selvedgeref03_number.j3 k y0 y1 y2 y3) (selvedgeref03_number.j3 (k + 1) y0 y1 y2 y3)) ∧ (∀ y0 y1 y2, LeO (selvedgeref03_number.j4 k y0 y1 y2) (selvedgeref03_number.j4 (k + 1) y0 y1 y2)) ∧ (∀ y0 y1, LeO (selvedgeref03_number.j5 k y0 y1) (selvedgeref03_number.j5 (k + 1) y0 y1)) ∧ (∀ y0 y1 y2, LeO (selvedgeref03_number.j6 k y0 y1 y2) (selvedgeref03_number.j6 (k + 1) y0 y1 y2)) ∧ (∀ y0 y1, LeO (selvedgeref03_number.j7 k y0 y1) (selvedgeref03_number.j7 (k + 1) y0 y1)) ∧ (∀ y0 y1 y2 y3, LeO (selvedgeref03_number.l1 k y0 y1 y2 y3) (selvedgeref03_number.l1 (k + 1) y0 y1 y2 y3)) ∧ (∀ y0 y1 y2 y3 y4, LeO (selvedgeref03_number.l0 k y0 y1 y2 y3 y4) (selvedgeref03_number.l0 (k + 1) y0 y1 y2 y3 y4))
 | 0 => ⟨fun _ _ _ _ r h => by simp [selvedgeref03_number.j0] at h, fun _ _ _ r h => by simp [selvedgeref03_number.j1] at h, fun _ _ _ _ r h => by simp [selvedgeref03_number.j3] at h, fun _ _ _ r h => by simp [selvedgeref03_number.j4] at h, fun _ _ r h => by simp [selvedgeref03_number.j5] at h, fun _ _ _ r h => by simp [selvedgeref03_number.j6] at h, fun _ _ r h => by simp [selvedgeref03_number.j7] at h, fun _ _ _ _ r h => by simp [selvedgeref03_number.l1] at h, fun _ _ _ _ _ r h => by simp [selvedgeref03_number.l0] at h⟩
 | k + 1 => by
  obtain ⟨ih0, ih1, ih2, ih3, ih4, ih5, ih6, ih7, ih8⟩ := selvedgeref03_number.mono_l k
  refine ⟨?_, ?_, ?_, ?_, ?_, ?_, ?_, ?_, ?_⟩
  ·intro y0 y1 y2 y3
   unfold selvedgeref03_number.j0
   repeat' first
   | (with_reducible exact ih0 _ _ _ _)
   | (with_reducible exact ih1 _ _ _)
   | (with_reducible exact ih2 _ _ _ _)
   | (with_reducible exact ih3 _ _ _)
   | (with_reducible exact ih4 _ _)
   | (with_reducible exact ih5 _ _ _)
   | (with_reducible exact ih6 _ _)
   | (with_reducible exact ih7 _ _ _ _)
   | (with_reducible exact ih8 _ _ _ _ _)
   | (with_reducible exact selvedgeref03_digit.mono _ _)
   | (with_reducible exact LeO.refl _)
   | (with_reducible exact LeO.none _)
   | (with_reducible refine LeO.ite ?_ ?_)
   | (with_reducible refine LeO.bind ?_ (fun _ => ?_))
   | exact ih0 _ _ _ _
   | exact ih1 _ _ _
   | exact ih2 _ _ _ _
   | exact ih3 _ _ _
   | exact ih4 _ _
   | exact ih5 _ _ _
   | exact ih6 _ _
   | exact ih7 _ _ _ _
   | exact ih8 _ _ _ _ _
   | exact selvedgeref03_digit.mono _ _
   | exact LeO.none _
   | refine LeO.ite ?_ ?_
   | refine LeO.bind ?_ (fun _ => ?_)
  ·intro y0 y1 y2
   unfold selvedgeref03_number.j1
   repeat' first
   | (with_reducible exact ih0 _ _ _ _)
   | (with_reducible exact ih1 _ _ _)
   | (with_reducible exact ih2 _ _ _ _)
   | (with_reducible exact ih3 _ _ _)
   | (with_reducible exact ih4 _ _)
   | (with_reducible exact ih5 _ _ _)
   | (with_reducible exact ih6 _ _)
   | (with_reducible exact ih7 _ _ _ _)
   | (with_reducible exact ih8 _ _ _ _ _)
   | (with_reducible exact selvedgeref03_digit.mono _ _)
   | (with_reducible exact LeO.refl _)
   | (with_reducible exact LeO.none _)
   | (with_reducible refine LeO.ite ?_ ?_)
   | (with_reducible refine LeO.bind ?_ (fun _ => ?_))
   | exact ih0 _ _ _ _
   | exact ih1 _ _ _
   | exact ih2 _ _ _ _
   | exact ih3 _ _ _
   | exact ih4 _ _
   | exact ih5 _ _ _
   | exact ih6 _ _
   | exact ih7 _ _ _ _
   | exact ih8 _ _ _ _ _
   | exact selvedgeref03_digit.mono _ _
   | exact LeO.none _
   | refine LeO.ite ?_ ?_
   | refine LeO.bind ?_ (fun _ => ?_)
  ·intro y0 y1 y2 y3
   unfold selvedgeref03_number.j3
   repeat' first
   | (with_reducible exact ih0 _ _ _ _)
   | (with_reducible exact ih1 _ _ _)
   | (with_reducible exact ih2 _ _ _ _)
   | (with_reducible exact ih3 _ _ _)
   | (with_reducible exact ih4 _ _)
   | (with_reducible exact ih5 _ _ _)
   | (with_reducible exact ih6 _ _)
   | (with_reducible exact ih7 _ _ _ _)
   | (with_reducible exact ih8 _ _ _ _ _)
   | (with_reducible exact selvedgeref03_digit.mono _ _)
   | (with_reducible exact LeO.refl _)
   | (with_reducible exact LeO.none _)
   | (with_reducible refine LeO.ite ?_ ?_)
   | (with_reducible refine LeO.bind ?_ (fun _ => ?_))
   | exact ih0 _ _ _ _
   | exact ih1 _ _ _
   | exact ih2 _ _ _ _
   | exact ih3 _ _ _
   | exact ih4 _ _
   | exact ih5 _ _ _
   | exact ih6 _ _
   | exact ih7 _ _ _ _
   | exact ih8 _ _ _ _ _
   | exact selvedgeref03_digit.mono _ _
   | exact LeO.none _
   | refine LeO.ite ?_ ?_
   | refine LeO.bind ?_ (fun _ => ?_)
  ·intro y0 y1 y2
   unfold selvedgeref03_number.j4
   repeat' first
   | (with_reducible exact ih0 _ _ _ _)
   | (with_reducible exact ih1 _ _ _)
   | (with_reducible exact ih2 _ _ _ _)
   | (with_reducible exact ih3 _ _ _)
   | (with_reducible exact ih4 _ _)
   | (with_reducible exact ih5 _ _ _)
   | (with_reducible exact ih6 _ _)
   | (with_reducible exact ih7 _ _ _ _)
   | (with_reducible exact ih8 _ _ _ _ _)
   | (with_reducible exact selvedgeref03_digit.mono _ _)
   | (with_reducible exact LeO.refl _)
   | (with_reducible exact LeO.none _)
   | (with_reducible refine LeO.ite ?_ ?_)
   | (with_reducible refine LeO.bind ?_ (fun _ => ?_))
   | exact ih0 _ _ _ _
   | exact ih1 _ _ _
   | exact ih2 _ _ _ _
   | exact ih3 _ _ _
   | exact ih4 _ _
   | exact ih5 _ _ _
   | exact ih6 _ _
   | exact ih7 _ _ _ _
   | exact ih8 _ _ _ _ _
   | exact selvedgeref03_digit.mono _ _
   | exact LeO.none _
   | refine LeO.ite ?_ ?_
   | refine LeO.bind ?_ (fun _ => ?_)
  ·intro y0 y1
   unfold selvedgeref03_number.j5
   repeat' first
   | (with_reducible exact ih0 _ _ _ _)
   | (with_reducible exact ih1 _ _ _)
   | (with_reducible exact ih2 _ _ _ _)
   | (with_reducible exact ih3 _ _ _)
   | (with_reducible exact ih4 _ _)
   | (with_reducible exact ih5 _ _ _)
   | (with_reducible exact ih6 _ _)
   | (with_reducible exact ih7 _ _ _ _)
   | (with_reducible exact ih8 _ _ _ _ _)
   | (with_reducible exact selvedgeref03_digit.mono _ _)
   | (with_reducible exact LeO.refl _)
   | (with_reducible exact LeO.none _)
   | (with_reducible refine LeO.ite ?_ ?_)
   | (with_reducible refine LeO.bind ?_ (fun _ => ?_))
   | exact ih0 _ _ _ _
   | exact ih1 _ _ _
   | exact ih2 _ _ _ _
   | exact ih3 _ _ _
   | exact ih4 _ _
   | exact ih5 _ _ _
   | exact ih6 _ _
   | exact ih7 _ _ _ _
   | exact ih8 _ _ _ _ _
   | exact selvedgeref03_digit.mono _ _
   | exact LeO.none _
   | refine LeO.ite ?_ ?_
   | refine LeO.bind ?_ (fun _ => ?_)
  ·intro y0 y1 y2
   unfold selvedgeref03_number.j6
   repeat' first
   | (with_reducible exact ih0 _ _ _ _)
   | (with_reducible exact ih1 _ _ _)
   | (with_reducible exact ih2 _ _ _ _)
   | (with_reducible exact ih3 _ _ _)
   | (with_reducible exact ih4 _ _)
   | (with_reducible exact ih5 _ _ _)
   | (with_reducible exact ih6 _ _)
   | (with_reducible exact ih7 _ _ _ _)
   | (with_reducible exact ih8 _ _ _ _ _)
   | (with_reducible exact selvedgeref03_digit.mono _ _)
   | (with_reducible exact LeO.refl _)
   | (with_reducible exact LeO.none _)
   | (with_reducible refine LeO.ite ?_ ?_)
   | (with_reducible refine LeO.bind ?_ (fun _ => ?_))
   | exact ih0 _ _ _ _
   | exact ih1 _ _ _
   | exact ih2 _ _ _ _
   | exact ih3 _ _ _
   | exact ih4 _ _
   | exact ih5 _ _ _
   | exact ih6 _ _
   | exact ih7 _ _ _ _
   | exact ih8 _ _ _ _ _
   | exact selvedgeref03_digit.mono _ _
   | exact LeO.none _
   | refine LeO.ite ?_ ?_
   | refine LeO.bind ?_ (fun _ => ?_)
  ·intro y0 y1
   unfold selvedgeref03_number.j7
   repeat' first
   | (with_reducible exact ih0 _ _ _ _)
   | (with_reducible exact ih1 _ _ _)
   | (with_reducible exact ih2 _ _ _ _)
   | (with_reducible exact ih3 _ _ _)
   | (with_reducible exact ih4 _ _)
   | (with_reducible exact ih5 _ _ _)
   | (with_reducible exact ih6 _ _)
   | (with_reducible exact ih7 _ _ _ _)
   | (with_reducible exact ih8 _ _ _ _ _)
   | (with_reducible exact selvedgeref03_digit.mono _ _)
   | (with_reducible exact LeO.refl _)
   | (with_reducible exact LeO.none _)
   | (with_reducible refine LeO.ite ?_ ?_)
   | (with_reducible refine LeO.bind ?_ (fun _ => ?_))
   | exact ih0 _ _ _ _
   | exact ih1 _ _ _
   | exact ih2 _ _ _ _
   | exact ih3 _ _ _
   | exact ih4 _ _
   | exact ih5 _ _ _
   | exact ih6 _ _
   | exact ih7 _ _ _ _
   | exact ih8 _ _ _ _ _
   | exact selvedgeref03_digit.mono _ _
   | exact LeO.none _
   | refine LeO.ite ?_ ?_
   | refine LeO.bind ?_ (fun _ => ?_)
  ·intro y0 y1 y2 y3
   unfold selvedgeref03_number.l1
   repeat' first
   | (with_reducible exact ih0 _ _ _ _)
   | (with_reducible exact ih1 _ _ _)
   | (with_reducible exact ih2 _ _ _ _)
   | (with_reducible exact ih3 _ _ _)
   | (with_reducible exact ih4 _ _)
   | (with_reducible exact ih5 _ _ _)
   | (with_reducible exact ih6 _ _)
   | (with_reducible exact ih7 _ _ _ _)
   | (with_reducible exact ih8 _ _ _ _ _)
   | (with_reducible exact selvedgeref03_digit.mono _ _)
   | (with_reducible exact LeO.refl _)
   | (with_reducible exact LeO.none _)
   | (with_reducible refine LeO.ite ?_ ?_)
   | (with_reducible refine LeO.bind ?_ (fun _ => ?_))
   | exact ih0 _ _ _ _
   | exact ih1 _ _ _
   | exact ih2 _ _ _ _
   | exact ih3 _ _ _
   | exact ih4 _ _
   | exact ih5 _ _ _
   | exact ih6 _ _
   | exact ih7 _ _ _ _
   | exact ih8 _ _ _ _ _
   | exact selvedgeref03_digit.mono _ _
   | exact LeO.none _
   | refine LeO.ite ?_ ?_
   | refine LeO.bind ?_ (fun _ => ?_)
  ·intro y0 y1 y2 y3 y4
   unfold selvedgeref03_number.l0
   repeat' first
   | (with_reducible exact ih0 _ _ _ _)
   | (with_reducible exact ih1 _ _ _)
   | (with_reducible exact ih2 _ _ _ _)
   | (with_reducible exact ih3 _ _ _)
   | (with_reducible exact ih4 _ _)
   | (with_reducible exact ih5 _ _ _)
   | (with_reducible exact ih6 _ _)
   | (with_reducible exact ih7 _ _ _ _)
   | (with_reducible exact ih8 _ _ _ _ _)
   | (with_reducible exact selvedgeref03_digit.mono _ _)
   | (with_reducible exact LeO.refl _)
   | (with_reducible exact LeO.none _)
   | (with_reducible refine LeO.ite ?_ ?_)
   | (with_reducible refine LeO.bind ?_ (fun _ => ?_))
   | exact ih0 _ _ _ _
   | exact ih1 _ _ _
   | exact ih2 _ _ _ _
   | exact ih3 _ _ _
   | exact ih4 _ _
   | exact ih5 _ _ _
   | exact ih6 _ _
   | exact ih7 _ _ _ _
   | exact ih8 _ _ _ _ _
   | exact selvedgeref03_digit.mono _ _
   | exact LeO.none _
   | refine LeO.ite ?_ ?_
   | refine LeO.bind ?_ (fun _ => ?_)
theorem selvedgeref03_number.mono : ∀ a0 k, LeO (selvedgeref03_number.f k a0) (selvedgeref03_number.f (k + 1) a0) := by
 intro a0 k
 obtain ⟨ih0, ih1, ih2, ih3, ih4, ih5, ih6, ih7, ih8⟩ := selvedgeref03_number.mono_l k
 unfold selvedgeref03_number.f
 repeat' first
   | (with_reducible exact ih0 _ _ _ _)
   | (with_reducible exact ih1 _ _ _)
   | (with_reducible exact ih2 _ _ _ _)
   | (with_reducible exact ih3 _ _ _)
   | (with_reducible exact ih4 _ _)
   | (with_reducible exact ih5 _ _ _)
   | (with_reducible exact ih6 _ _)
   | (with_reducible exact ih7 _ _ _ _)
   | (with_reducible exact ih8 _ _ _ _ _)
   | (with_reducible exact selvedgeref03_digit.mono _ _)
   | (with_reducible exact LeO.refl _)
   | (with_reducible exact LeO.none _)
   | (with_reducible refine LeO.ite ?_ ?_)
   | (with_reducible refine LeO.bind ?_ (fun _ => ?_))
   | exact ih0 _ _ _ _
   | exact ih1 _ _ _
   | exact ih2 _ _ _ _
   | exact ih3 _ _ _
   | exact ih4 _ _
   | exact ih5 _ _ _
   | exact ih6 _ _
   | exact ih7 _ _ _ _
   | exact ih8 _ _ _ _ _
   | exact selvedgeref03_digit.mono _ _
   | exact LeO.none _
   | refine LeO.ite ?_ ?_
   | refine LeO.bind ?_ (fun _ => ?_)
set_option maxHeartbeats 8000000 in
set_option maxRecDepth 100000 in
theorem selvedgeref03_number.calls (k : Nat) (a0 : ByteArray) (r1 : Int) (r2 : Int) (r3 : Bool) (w : World) (h : selvedgeref03_number.f k a0 = some (r1, r2, r3)) :
  Calls Tryd.prog 25 #[.string a0] w fun e w' => e = .returned (.tuple #[.int .i32 r1, .int .i64 r2, .bool r3]) ∧ Below w.heap.size w w' := by
 have HB := Aside0.mk (Below.refl w.heap.size w)
 have H : ((selvedgeref03_begins.f a0 (⟨#[120]⟩ : ByteArray)).bind fun t130 => (if t130 = true then (selvedgeref03_number.j0 k a0 10 0 true) else ((selvedgeref03_begins.f a0 (⟨#[88]⟩ : ByteArray)).bind fun t131 => (selvedgeref03_number.j0 k a0 10 0 t131)))) = some (r1, r2, r3) := h
 clear h
 have HC2 := Aside0.mk H
 clear H
 go_enter Tryd.func25, Tryd.ntmps25
 go_upto_region 2 with (fail)
 go_cut [16] (fun v16 wc => ∃ (kq : Nat) (x16_1 : Bool), v16 = .bool x16_1 ∧ Aside0 (selvedgeref03_number.j0 kq a0 10 0 x16_1 = some (r1, r2, r3)) ∧ Aside0 (kq ≤ k) ∧ Aside0 (Below w.heap.size w wc))
 case first =>
  have H := HC2.out
  clear HC2
  replace H := Option.bind_eq_some_iff.mp H
  obtain ⟨t130, A30, H⟩ := H
  replace H : (if t130 = true then (selvedgeref03_number.j0 k a0 10 0 true) else ((selvedgeref03_begins.f a0 (⟨#[88]⟩ : ByteArray)).bind fun t131 => (selvedgeref03_number.j0 k a0 10 0 t131))) = some (r1, r2, r3) := H
  have A3 := Aside0.mk A30
  clear A30
  by_cases c4 : t130 = true
  ·subst c4
   have H1 : (selvedgeref03_number.j0 k a0 10 0 true) = some (r1, r2, r3) := by rw [if_pos rfl] at H; exact H
   clear H
   have H := H1
   clear H1
   have H' := Aside0.mk H
   clear H
   go_wp2_with (first | ((with_reducible refine gate_callee (f := 24) rfl ?_); refine goesL_ (some 12) rfl rfl Tryd.func24 (by kernel_rfl) rfl #[.string a0, .string (⟨#[120]⟩ : ByteArray)] rfl (by (try simp only [List.map_toArray, List.map_cons, List.map_nil]); first | done | rfl | (simp only [List.length_drop, List.length_take]; rfl)) ?_; (with_reducible refine (selvedgeref03_begins.calls a0 (⟨#[120]⟩ : ByteArray) true _ A3.out).mono ?_); rintro e w' ⟨rfl, ⟨nd, rfl⟩⟩; refine ⟨_, rfl, ?_⟩))
   go_meet
   case rel => exact ⟨_, (true), (by first | rfl | (simp; done) | (simp [*]; done)), H', ⟨by first | omega | exact Nat.le_refl _⟩, ⟨mvB HB⟩⟩
  ·replace c4 := Bool.eq_false_iff.mpr c4
   subst c4
   have H1 : ((selvedgeref03_begins.f a0 (⟨#[88]⟩ : ByteArray)).bind fun t131 => (selvedgeref03_number.j0 k a0 10 0 t131)) = some (r1, r2, r3) := by rw [if_neg (show ¬ (false = true) by decide)] at H; exact H
   clear H
   have H := H1
   clear H1
   replace H := Option.bind_eq_some_iff.mp H
   obtain ⟨t131, A50, H⟩ := H
   replace H : (selvedgeref03_number.j0 k a0 10 0 t131) = some (r1, r2, r3) := H
   have A5 := Aside0.mk A50
   clear A50
   have H' := Aside0.mk H
   clear H
   go_wp2_with (first | ((with_reducible refine gate_callee (f := 24) rfl ?_); refine goesL_ (some 12) rfl rfl Tryd.func24 (by kernel_rfl) rfl #[.string a0, .string (⟨#[120]⟩ : ByteArray)] rfl (by (try simp only [List.map_toArray, List.map_cons, List.map_nil]); first | done | rfl | (simp only [List.length_drop, List.length_take]; rfl)) ?_; (with_reducible refine (selvedgeref03_begins.calls a0 (⟨#[120]⟩ : ByteArray) false _ A3.out).mono ?_); rintro e w' ⟨rfl, ⟨nd, rfl⟩⟩; refine ⟨_, rfl, ?_⟩) | (go_at_call 24; (with_reducible refine (selvedgeref03_begins.calls a0 (⟨#[88]⟩ : ByteArray) t131 _ A5.out).mono ?_); rintro e w' ⟨rfl, ⟨nd, rfl⟩⟩))
   go_meet
   case rel => exact ⟨_, (t131), (by first | rfl | (simp; done) | (simp [*]; done)), H', ⟨by first | omega | exact Nat.le_refl _⟩, ⟨mvB HB⟩⟩
 case rest =>
  clear HC2
  try clear c2
  try clear p2
  try clear c4
  obtain ⟨kq, x16_1, rfl, HA, HJ1, HB⟩ := hcut
  cases kq with
  | zero => exact absurd HA.out (by simp [selvedgeref03_number.j0])
  | succ kj1 =>
   have H := HA.out
   clear HA
   simp only [selvedgeref03_number.j0] at H
   have HC6 := Aside0.mk H
   clear H
   go_upto_if 16 with (fail)
   go_cut [5, 6] (fun v5 v6 wc => ∃ (kq : Nat) (x5_5 : Int) (x6_5 : Int), v5 = .int .i32 x5_5 ∧ v6 = .int .i64 x6_5 ∧ Aside0 (selvedgeref03_number.j1 kq a0 x5_5 x6_5 = some (r1, r2, r3)) ∧ Aside0 (kq ≤ kj1) ∧ Aside0 (Below w.heap.size w wc))
   case first =>
    have H := HC6.out
    clear HC6
    by_cases c7 : x16_1 = true
    ·subst c7
     have H1 : (selvedgeref03_number.j1 kj1 a0 16 1) = some (r1, r2, r3) := by rw [if_pos rfl] at H; exact H
     clear H
     have H := H1
     clear H1
     have H' := Aside0.mk H
     clear H
     go_wp2
     go_meet
     case rel => exact ⟨_, (16), (1), (by first | rfl | (simp; done) | (simp [*]; done)), (by first | rfl | (simp; done) | (simp [*]; done)), H', ⟨by have := HJ1.out; first | omega | exact Nat.le_refl _⟩, ⟨mvB HB⟩⟩
    ·replace c7 := Bool.eq_false_iff.mpr c7
     subst c7
     have H1 : (selvedgeref03_number.j1 kj1 a0 10 0) = some (r1, r2, r3) := by rw [if_neg (show ¬ (false = true) by decide)] at H; exact H
     clear H
     have H := H1
     clear H1
     have H' := Aside0.mk H
     clear H
     go_wp2
     go_meet
     case rel => exact ⟨_, (10), (0), (by first | rfl | (simp; done) | (simp [*]; done)), (by first | rfl | (simp; done) | (simp [*]; done)), H', ⟨by have := HJ1.out; first | omega | exact Nat.le_refl _⟩, ⟨mvB HB⟩⟩
   case rest =>
    clear HC6
    try clear c2
    try clear p2
    try clear c4
    try clear c7
    try clear p2
    obtain ⟨kq, x5_5, x6_5, rfl, rfl, HA, HJ5, HB⟩ := hcut
    cases kq with
    | zero => exact absurd HA.out (by simp [selvedgeref03_number.j1])
    | succ kj5 =>
     have H := HA.out
     clear HA
     simp only [selvedgeref03_number.j1] at H
     have HC8 := Aside0.mk H
     clear H
     go_upto_block 0 with (fail)
     go_cut [6, 8] (fun v6 v8 wc => ∃ (kq : Nat) (x6_7 : Int) (x8_7 : Int), v6 = .int .i64 x6_7 ∧ v8 = .int .i32 x8_7 ∧ Aside0 (selvedgeref03_number.j3 kq a0 x6_7 x6_5 x8_7 = some (r1, r2, r3)) ∧ Aside0 (kq ≤ kj5) ∧ Aside0 (Below w.heap.size w wc))
     case first =>
      have H := HC8.out
      clear HC8
      have H' := Aside0.mk H
      clear H
      go_wp2
      go_loopg [6, 8] kj5 (fun kq v6 v8 w' => ∃ (x6_3 : Int) (x8_3 : Int), v6 = .int .i64 x6_3 ∧ v8 = .int .i32 x8_3 ∧ Aside0 (selvedgeref03_number.l0 kq a0 x5_5 x6_3 x6_5 x8_3 = some (r1, r2, r3)) ∧ Aside0 (kq ≤ kj5) ∧ Aside0 (Below w.heap.size w w'))
      case atStart => exact ⟨(x6_5), (0), (by first | rfl | (simp; done) | (simp [*]; done)), (by first | rfl | (simp; done) | (simp [*]; done)), H', ⟨Nat.le_refl _⟩, ⟨mvB HB⟩⟩
      case round =>
       clear H'
       try clear c2
       try clear p2
       try clear c4
       try clear c7
       try clear p2
       obtain ⟨x6_3, x8_3, rfl, rfl, HA, HK3, HB⟩ := hrel
       cases gk with
       | zero => exact absurd HA.out (by simp [selvedgeref03_number.l0])
       | succ k3 =>
        have H := HA.out
        clear HA
        simp only [selvedgeref03_number.l0] at H
        by_cases c9 : x6_3 < (a0.size : Int)
        ·rw [if_pos c9] at H
         have c9b0 : decide (x6_3 < (a0.size : Int)) = true := decide_eq_true c9
         clear c9
         (first | rw [c9b0] | (simp only [i64_w, i32_w]; rw [c9b0]) | skip)
         by_cases c10 : 0 ≤ x6_3
         ·rw [if_pos c10] at H
          have c10b0 : decide (0 ≤ x6_3) = true := decide_eq_true c10
          clear c10
          replace H := Option.bind_eq_some_iff.mp H
          obtain ⟨t132, A120, H⟩ := H
          replace H : (if t132 ≥ 0 then ((selvedgeref03_digit.f k3 (bt a0 x6_3)).bind fun t133 => (if t133 < x5_5 then ((selvedgeref03_digit.f k3 (bt a0 x6_3)).bind fun t134 => (selvedgeref03_number.l0 k3 a0 x5_5 (wrap64 (x6_3 + 1)) x6_5 (mn (wrap32 ((wrap32 (x8_3 * x5_5)) + t134)) 1114112))) else (selvedgeref03_number.j3 k3 a0 x6_3 x6_5 x8_3))) else (selvedgeref03_number.j3 k3 a0 x6_3 x6_5 x8_3)) = some (r1, r2, r3) := H
          have A12 := Aside0.mk A120
          clear A120
          by_cases c13 : t132 ≥ 0
          ·rw [if_pos c13] at H
           have c13b0 : decide (0 ≤ t132) = true := decide_eq_true c13
           clear c13
           replace H := Option.bind_eq_some_iff.mp H
           obtain ⟨t133, A150, H⟩ := H
           replace H : (if t133 < x5_5 then ((selvedgeref03_digit.f k3 (bt a0 x6_3)).bind fun t134 => (selvedgeref03_number.l0 k3 a0 x5_5 (wrap64 (x6_3 + 1)) x6_5 (mn (wrap32 ((wrap32 (x8_3 * x5_5)) + t134)) 1114112))) else (selvedgeref03_number.j3 k3 a0 x6_3 x6_5 x8_3)) = some (r1, r2, r3) := H
           have A15 := Aside0.mk A150
           clear A150
           have e_ : t132 = t133 := Option.some.inj (A12.out.symm.trans A15.out)
           subst e_
           by_cases c16 : t132 < x5_5
           ·rw [if_pos c16] at H
            have c16b0 : decide (t132 < x5_5) = true := decide_eq_true c16
            clear c16
            replace H := Option.bind_eq_some_iff.mp H
            obtain ⟨t134, A180, H⟩ := H
            replace H : (selvedgeref03_number.l0 k3 a0 x5_5 (wrap64 (x6_3 + 1)) x6_5 (mn (wrap32 ((wrap32 (x8_3 * x5_5)) + t134)) 1114112)) = some (r1, r2, r3) := H
            have A18 := Aside0.mk A180
            clear A180
            have e_ : t132 = t134 := Option.some.inj (A12.out.symm.trans A18.out)
            subst e_
            obtain ⟨ji19, hji19⟩ : ∃ j_ : Int, (mn (wrap32 ((wrap32 (x8_3 * x5_5)) + t132)) 1114112) = j_ := ⟨_, rfl⟩
            replace H : (selvedgeref03_number.l0 k3 a0 x5_5 (wrap64 (x6_3 + 1)) x6_5 ji19) = some (r1, r2, r3) := by first | (rw [hji19] at H; exact H) | (simp only [hji19] at H ⊢; exact H)
            (try rw [hji19] at A12)
            (try rw [hji19] at A15)
            (try rw [hji19] at A18)
            have hji19_ : (if 1114112 < (wrap32 ((wrap32 (x8_3 * x5_5)) + t132)) then 1114112 else (wrap32 ((wrap32 (x8_3 * x5_5)) + t132))) = ji19 := hji19
            have H' := Aside0.mk H
            clear H
            have p11 := dT (0 ≤ (x6_3 : Int))
            have q11 := dT (x6_3 < (a0.size : Int))
            have hx11 := bt_at a0 x6_3
            replace p11 := eq_true p11
            replace q11 := eq_true q11
            go_wp2_with (first | (go_at_call 38; (with_reducible refine (selvedgeref03_digit.calls k3 (bt a0 x6_3) t132 _ A12.out).mono ?_); rintro e w' ⟨rfl, ⟨nd, rfl⟩⟩; have p14 := dT (0 ≤ (x6_3 : Int)); have q14 := dT (x6_3 < (a0.size : Int)); have hx14 := bt_at a0 x6_3; replace p14 := eq_true p14; replace q14 := eq_true q14) | (go_at_call 38; (with_reducible refine (selvedgeref03_digit.calls k3 (bt a0 x6_3) t132 _ A15.out).mono ?_); rintro e w' ⟨rfl, ⟨nd, rfl⟩⟩; have p17 := dT (0 ≤ (x6_3 : Int)); have q17 := dT (x6_3 < (a0.size : Int)); have hx17 := bt_at a0 x6_3; replace p17 := eq_true p17; replace q17 := eq_true q17) | ((with_reducible refine gate_callee (f := 38) rfl ?_); refine goesL_ (some 43) rfl rfl Tryd.func38 (by kernel_rfl) rfl #[.int .u8 (bt a0 x6_3)] rfl (by (try simp only [List.map_toArray, List.map_cons, List.map_nil]); first | done | rfl | (simp only [List.length_drop, List.length_take]; rfl)) ?_; (with_reducible refine (selvedgeref03_digit.calls k3 (bt a0 x6_3) t132 _ A18.out).mono ?_); rintro e w' ⟨rfl, ⟨nd, rfl⟩⟩; refine ⟨_, rfl, ?_⟩))
            go_roundg k3
            case measure => have := HJ1.out; have := HJ5.out; have := HK3.out; omega
            case rel => exact ⟨(wrap64 (x6_3 + 1)), (ji19), (by first | rfl | (simp; done) | (simp [*]; done)), (by first | rfl | (simp; done) | (simp only [← hji19] <;> (first | rfl | simp)) | (simp [*]; done)), H', ⟨by have := HJ1.out; have := HJ5.out; have := HK3.out; omega⟩, ⟨mvB HB⟩⟩
           ·rw [if_neg c16] at H
            have c16b0 : decide (t132 < x5_5) = false := decide_eq_false c16
            clear c16
            have H' := Aside0.mk H
            clear H
            have p11 := dT (0 ≤ (x6_3 : Int))
            have q11 := dT (x6_3 < (a0.size : Int))
            have hx11 := bt_at a0 x6_3
            replace p11 := eq_true p11
            replace q11 := eq_true q11
            go_wp2_with (first | (go_at_call 38; (with_reducible refine (selvedgeref03_digit.calls k3 (bt a0 x6_3) t132 _ A12.out).mono ?_); rintro e w' ⟨rfl, ⟨nd, rfl⟩⟩; have p14 := dT (0 ≤ (x6_3 : Int)); have q14 := dT (x6_3 < (a0.size : Int)); have hx14 := bt_at a0 x6_3; replace p14 := eq_true p14; replace q14 := eq_true q14) | (go_at_call 38; (with_reducible refine (selvedgeref03_digit.calls k3 (bt a0 x6_3) t132 _ A15.out).mono ?_); rintro e w' ⟨rfl, ⟨nd, rfl⟩⟩))
            go_meet
            case rel => exact ⟨_, (x6_3), (x8_3), (by first | rfl | (simp; done) | (simp [*]; done)), (by first | rfl | (simp; done) | (simp [*]; done)), H', ⟨by have := HJ1.out; have := HJ5.out; have := HK3.out; first | omega | exact Nat.le_refl _⟩, ⟨mvB HB⟩⟩
          ·rw [if_neg c13] at H
           have c13b0 : decide (0 ≤ t132) = false := decide_eq_false c13
           clear c13
           have H' := Aside0.mk H
           clear H
           have p11 := dT (0 ≤ (x6_3 : Int))
           have q11 := dT (x6_3 < (a0.size : Int))
           have hx11 := bt_at a0 x6_3
           replace p11 := eq_true p11
           replace q11 := eq_true q11
           go_wp2_with (first | (go_at_call 38; (with_reducible refine (selvedgeref03_digit.calls k3 (bt a0 x6_3) t132 _ A12.out).mono ?_); rintro e w' ⟨rfl, ⟨nd, rfl⟩⟩))
           go_meet
           case rel => exact ⟨_, (x6_3), (x8_3), (by first | rfl | (simp; done) | (simp [*]; done)), (by first | rfl | (simp; done) | (simp [*]; done)), H', ⟨by have := HJ1.out; have := HJ5.out; have := HK3.out; first | omega | exact Nat.le_refl _⟩, ⟨mvB HB⟩⟩
         ·rw [if_neg c10] at H
          exact absurd H (by simp)
        ·rw [if_neg c9] at H
         have c9b0 : decide (x6_3 < (a0.size : Int)) = false := decide_eq_false c9
         clear c9
         (first | rw [c9b0] | (simp only [i64_w, i32_w]; rw [c9b0]) | skip)
         have H' := Aside0.mk H
         clear H
         go_wp2
         go_meet
         case rel => exact ⟨_, (x6_3), (x8_3), (by first | rfl | (simp; done) | (simp [*]; done)), (by first | rfl | (simp; done) | (simp [*]; done)), H', ⟨by have := HJ1.out; have := HJ5.out; have := HK3.out; first | omega | exact Nat.le_refl _⟩, ⟨mvB HB⟩⟩
     case rest =>
      clear HC8
      try clear c1
      try clear p1
      try clear q1
      try clear hx1
      try clear c2
      try clear p2
      try clear c3
      try clear p3
      try clear c4
      try clear p6
      try clear c7
      try clear c9
      try clear c9b0
      try clear c10
      try clear c10b0
      try clear p11
      try clear q11
      try clear hx11
      try clear c13
      try clear c13b0
      try clear p14
      try clear q14
      try clear hx14
      try clear c16
      try clear c16b0
      try clear p17
      try clear q17
      try clear hx17
      try clear p11
      try clear p14
      try clear p17
      try clear p2
      try clear q11
      try clear q14
      try clear q17
      obtain ⟨kq, x6_7, x8_7, rfl, rfl, HA, HJ7, HB⟩ := hcut
      cases kq with
      | zero => exact absurd HA.out (by simp [selvedgeref03_number.j3])
      | succ kj7 =>
       have H := HA.out
       clear HA
       simp only [selvedgeref03_number.j3] at H
       by_cases c20 : x6_7 = x6_5
       ·rw [if_pos c20] at H
        have c20b0 : (x6_7 == x6_5) = true := beq_iff_eq.mpr c20
        have c20b1 : (x6_7 != x6_5) = false := bne_eq_false_iff_eq.mpr c20
        clear c20
        simp only [Option.some.injEq, Prod.mk.injEq] at H
        obtain ⟨rfl, rfl, rfl⟩ := H
        go_wp2
        go_ret3
        exact ⟨by first | rfl | (simp [errW_none, errW_some] <;> rfl) | (simp [*, errW_none, errW_some] <;> rfl), mvB HB⟩
       ·rw [if_neg c20] at H
        have c20b0 : (x6_7 == x6_5) = false := beq_eq_false_iff_ne.mpr c20
        have c20b1 : (x6_7 != x6_5) = true := bne_iff_ne.mpr c20
        have HC21 := Aside0.mk H
        clear H
        go_upto_region 11 with (fail)
        go_cut [60] (fun v60 wc => ∃ (kq : Nat) (x60_20 : Bool), v60 = .bool x60_20 ∧ Aside0 (selvedgeref03_number.j4 kq x6_7 x8_7 x60_20 = some (r1, r2, r3)) ∧ Aside0 (kq ≤ kj7) ∧ Aside0 (Below w.heap.size w wc))
        case first =>
         have H := HC21.out
         clear HC21
         by_cases c22 : x6_7 < (a0.size : Int)
         ·rw [if_pos c22] at H
          have c22b0 : decide (x6_7 < (a0.size : Int)) = true := decide_eq_true c22
          clear c22
          (first | rw [c22b0] | (simp only [i64_w, i32_w]; rw [c22b0]) | skip)
          by_cases c23 : 0 ≤ x6_7
          ·rw [if_pos c23] at H
           have c23b0 : decide (0 ≤ x6_7) = true := decide_eq_true c23
           clear c23
           have H' := Aside0.mk H
           clear H
           have p24 := dT (0 ≤ (x6_7 : Int))
           have q24 := dT (x6_7 < (a0.size : Int))
           have hx24 := bt_at a0 x6_7
           replace p24 := eq_true p24
           replace q24 := eq_true q24
           go_wp2
           go_meet
           case rel => exact ⟨_, (((bt a0 x6_7) == 59)), (by first | rfl | (simp; done) | (simp [*]; done)), H', ⟨by have := HJ1.out; have := HJ5.out; have := HJ7.out; first | omega | exact Nat.le_refl _⟩, ⟨mvB HB⟩⟩
          ·rw [if_neg c23] at H
           exact absurd H (by simp)
         ·rw [if_neg c22] at H
          have c22b0 : decide (x6_7 < (a0.size : Int)) = false := decide_eq_false c22
          clear c22
          (first | rw [c22b0] | (simp only [i64_w, i32_w]; rw [c22b0]) | skip)
          have H' := Aside0.mk H
          clear H
          go_wp2
          go_meet
          case rel => exact ⟨_, (false), (by first | rfl | (simp; done) | (simp [*]; done)), H', ⟨by have := HJ1.out; have := HJ5.out; have := HJ7.out; first | omega | exact Nat.le_refl _⟩, ⟨mvB HB⟩⟩
        case rest =>
         clear HC21
         try clear c1
         try clear p1
         try clear q1
         try clear hx1
         try clear c2
         try clear p2
         try clear q2
         try clear hx2
         try clear c3
         try clear p3
         try clear c4
         try clear p6
         try clear c7
         try clear c9
         try clear c9b0
         try clear c10
         try clear c10b0
         try clear p11
         try clear q11
         try clear hx11
         try clear c13
         try clear c13b0
         try clear p14
         try clear q14
         try clear hx14
         try clear c16
         try clear c16b0
         try clear p17
         try clear q17
         try clear hx17
         try clear c20
         try clear c20b0
         try clear c20b1
         try clear c22
         try clear c22b0
         try clear c23
         try clear c23b0
         try clear c24
         try clear p24
         try clear q24
         try clear hx24
         try clear p1
         try clear p11
         try clear p14
         try clear p17
         try clear p2
         try clear p24
         try clear p3
         try clear p6
         try clear q1
         try clear q11
         try clear q14
         try clear q17
         try clear q24
         obtain ⟨kq, x60_20, rfl, HA, HJ20, HB⟩ := hcut
         cases kq with
         | zero => exact absurd HA.out (by simp [selvedgeref03_number.j4])
         | succ kj20 =>
          have H := HA.out
          clear HA
          simp only [selvedgeref03_number.j4] at H
          have HC25 := Aside0.mk H
          clear H
          go_upto_if 60 with (fail)
          go_cut [6] (fun v6 wc => ∃ (kq : Nat) (x6_24 : Int), v6 = .int .i64 x6_24 ∧ Aside0 (selvedgeref03_number.j5 kq x6_24 x8_7 = some (r1, r2, r3)) ∧ Aside0 (kq ≤ kj20) ∧ Aside0 (Below w.heap.size w wc))
          case first =>
           have H := HC25.out
           clear HC25
           by_cases c26 : x60_20 = true
           ·subst c26
            have H1 : (selvedgeref03_number.j5 kj20 (wrap64 (x6_7 + 1)) x8_7) = some (r1, r2, r3) := by rw [if_pos rfl] at H; exact H
            clear H
            have H := H1
            clear H1
            have H' := Aside0.mk H
            clear H
            go_wp2
            go_meet
            case rel => exact ⟨_, (wrap64 (x6_7 + 1)), (by first | rfl | (simp; done) | (simp [*]; done)), H', ⟨by have := HJ1.out; have := HJ5.out; have := HJ7.out; have := HJ20.out; first | omega | exact Nat.le_refl _⟩, ⟨mvB HB⟩⟩
           ·replace c26 := Bool.eq_false_iff.mpr c26
            subst c26
            have H1 : (selvedgeref03_number.j5 kj20 x6_7 x8_7) = some (r1, r2, r3) := by rw [if_neg (show ¬ (false = true) by decide)] at H; exact H
            clear H
            have H := H1
            clear H1
            have H' := Aside0.mk H
            clear H
            go_wp2
            go_meet
            case rel => exact ⟨_, (x6_7), (by first | rfl | (simp; done) | (simp [*]; done)), H', ⟨by have := HJ1.out; have := HJ5.out; have := HJ7.out; have := HJ20.out; first | omega | exact Nat.le_refl _⟩, ⟨mvB HB⟩⟩
          case rest =>
           clear HC25
           try clear c1
           try clear p1
           try clear q1
           try clear hx1
           try clear c2
           try clear p2
           try clear q2
           try clear hx2
           try clear c3
           try clear p3
           try clear c4
           try clear p6
           try clear c7
           try clear c9
           try clear c9b0
           try clear c10
           try clear c10b0
           try clear p11
           try clear q11
           try clear hx11
           try clear c13
           try clear c13b0
           try clear p14
           try clear q14
           try clear hx14
           try clear c16
           try clear c16b0
           try clear p17
           try clear q17
           try clear hx17
           try clear c20
           try clear c20b0
           try clear c20b1
           try clear c22
           try clear c22b0
           try clear c23
           try clear c23b0
           try clear c24
           try clear p24
           try clear q24
           try clear hx24
           try clear c25
           try clear c26
           try clear p1
           try clear p11
           try clear p14
           try clear p17
           try clear p2
           try clear p24
           try clear p3
           try clear p6
           try clear q1
           try clear q11
           try clear q14
           try clear q17
           try clear q2
           try clear q24
           obtain ⟨kq, x6_24, rfl, HA, HJ24, HB⟩ := hcut
           cases kq with
           | zero => exact absurd HA.out (by simp [selvedgeref03_number.j5])
           | succ kj24 =>
            have H := HA.out
            clear HA
            simp only [selvedgeref03_number.j5] at H
            have HC27 := Aside0.mk H
            clear H
            go_upto_region 13 with (fail)
            go_cut [76] (fun v76 wc => ∃ (kq : Nat) (x76_26 : Bool), v76 = .bool x76_26 ∧ Aside0 (selvedgeref03_number.j6 kq x6_24 x8_7 x76_26 = some (r1, r2, r3)) ∧ Aside0 (kq ≤ kj24) ∧ Aside0 (Below w.heap.size w wc))
            case first =>
             have H := HC27.out
             clear HC27
             by_cases c28 : x8_7 = 0
             ·rw [if_pos c28] at H
              have c28b0 : (x8_7 == 0) = true := beq_iff_eq.mpr c28
              have c28b1 : (x8_7 != 0) = false := bne_eq_false_iff_eq.mpr c28
              clear c28
              (first | rw [c28b0] | (simp only [i64_w, i32_w]; rw [c28b0]) | skip)
              have H' := Aside0.mk H
              clear H
              go_wp2
              go_meet
              case rel => exact ⟨_, (true), (by first | rfl | (simp; done) | (simp [*]; done)), H', ⟨by have := HJ1.out; have := HJ5.out; have := HJ7.out; have := HJ20.out; have := HJ24.out; first | omega | exact Nat.le_refl _⟩, ⟨mvB HB⟩⟩
             ·rw [if_neg c28] at H
              have c28b0 : (x8_7 == 0) = false := beq_eq_false_iff_ne.mpr c28
              have c28b1 : (x8_7 != 0) = true := bne_iff_ne.mpr c28
              (first | rw [c28b0] | (simp only [i64_w, i32_w]; rw [c28b0]) | skip)
              by_cases c29 : x8_7 > 1114111
              ·rw [if_pos c29] at H
               have c29b0 : decide (1114111 < x8_7) = true := decide_eq_true c29
               clear c29
               have H' := Aside0.mk H
               clear H
               go_wp2
               go_meet
               case rel => exact ⟨_, (true), (by first | rfl | (simp; done) | (simp [*]; done)), H', ⟨by have := HJ1.out; have := HJ5.out; have := HJ7.out; have := HJ20.out; have := HJ24.out; first | omega | exact Nat.le_refl _⟩, ⟨mvB HB⟩⟩
              ·rw [if_neg c29] at H
               have c29b0 : decide (1114111 < x8_7) = false := decide_eq_false c29
               clear c29
               by_cases c30 : x8_7 ≥ 55296
               ·rw [if_pos c30] at H
                have c30b0 : decide (55296 ≤ x8_7) = true := decide_eq_true c30
                clear c30
                have H' := Aside0.mk H
                clear H
                go_wp2
                go_meet
                case rel => exact ⟨_, (decide (x8_7 ≤ 57343)), (by first | rfl | (simp; done) | (simp [*]; done)), H', ⟨by have := HJ1.out; have := HJ5.out; have := HJ7.out; have := HJ20.out; have := HJ24.out; first | omega | exact Nat.le_refl _⟩, ⟨mvB HB⟩⟩
               ·rw [if_neg c30] at H
                have c30b0 : decide (55296 ≤ x8_7) = false := decide_eq_false c30
                clear c30
                have H' := Aside0.mk H
                clear H
                go_wp2
                go_meet
                case rel => exact ⟨_, (false), (by first | rfl | (simp; done) | (simp [*]; done)), H', ⟨by have := HJ1.out; have := HJ5.out; have := HJ7.out; have := HJ20.out; have := HJ24.out; first | omega | exact Nat.le_refl _⟩, ⟨mvB HB⟩⟩
            case rest =>
             clear HC27
             try clear c1
             try clear p1
             try clear q1
             try clear hx1
             try clear c2
             try clear p2
             try clear q2
             try clear hx2
             try clear c3
             try clear p3
             try clear c4
             try clear p6
             try clear c7
             try clear c9
             try clear c9b0
             try clear c10
             try clear c10b0
             try clear p11
             try clear q11
             try clear hx11
             try clear c13
             try clear c13b0
             try clear p14
             try clear q14
             try clear hx14
             try clear c16
             try clear c16b0
             try clear p17
             try clear q17
             try clear hx17
             try clear c20
             try clear c20b0
             try clear c20b1
             try clear c22
             try clear c22b0
             try clear c23
             try clear c23b0
             try clear c24
             try clear p24
             try clear q24
             try clear hx24
             try clear c25
             try clear c26
             try clear c28
             try clear c28b0
             try clear c28b1
             try clear c29
             try clear c29b0
             try clear c30
             try clear c30b0
             try clear p1
             try clear p11
             try clear p14
             try clear p17
             try clear p2
             try clear p24
             try clear p3
             try clear p6
             try clear q1
             try clear q11
             try clear q14
             try clear q17
             try clear q2
             try clear q24
             obtain ⟨kq, x76_26, rfl, HA, HJ26, HB⟩ := hcut
             cases kq with
             | zero => exact absurd HA.out (by simp [selvedgeref03_number.j6])
             | succ kj26 =>
              have H := HA.out
              clear HA
              simp only [selvedgeref03_number.j6] at H
              have HC31 := Aside0.mk H
              clear H
              go_upto_if 76 with (fail)
              go_cut [8] (fun v8 wc => ∃ (kq : Nat) (x8_30 : Int), v8 = .int .i32 x8_30 ∧ Aside0 (selvedgeref03_number.j7 kq x6_24 x8_30 = some (r1, r2, r3)) ∧ Aside0 (kq ≤ kj26) ∧ Aside0 (Below w.heap.size w wc))
              case first =>
               have H := HC31.out
               clear HC31
               by_cases c32 : x76_26 = true
               ·subst c32
                have H1 : (selvedgeref03_number.j7 kj26 x6_24 65533) = some (r1, r2, r3) := by rw [if_pos rfl] at H; exact H
                clear H
                have H := H1
                clear H1
                have H' := Aside0.mk H
                clear H
                go_wp2
                go_meet
                case rel => exact ⟨_, (65533), (by first | rfl | (simp; done) | (simp [*]; done)), H', ⟨by have := HJ1.out; have := HJ5.out; have := HJ7.out; have := HJ20.out; have := HJ24.out; have := HJ26.out; first | omega | exact Nat.le_refl _⟩, ⟨mvB HB⟩⟩
               ·replace c32 := Bool.eq_false_iff.mpr c32
                subst c32
                have H1 : (selvedgeref03_number.j7 kj26 x6_24 x8_7) = some (r1, r2, r3) := by rw [if_neg (show ¬ (false = true) by decide)] at H; exact H
                clear H
                have H := H1
                clear H1
                have H' := Aside0.mk H
                clear H
                go_wp2
                go_meet
                case rel => exact ⟨_, (x8_7), (by first | rfl | (simp; done) | (simp [*]; done)), H', ⟨by have := HJ1.out; have := HJ5.out; have := HJ7.out; have := HJ20.out; have := HJ24.out; have := HJ26.out; first | omega | exact Nat.le_refl _⟩, ⟨mvB HB⟩⟩
              case rest =>
               clear HC31
               try clear c1
               try clear p1
               try clear q1
               try clear hx1
               try clear c2
               try clear p2
               try clear q2
               try clear hx2
               try clear c3
               try clear p3
               try clear c4
               try clear p6
               try clear c7
               try clear c9
               try clear c9b0
               try clear c10
               try clear c10b0
               try clear p11
               try clear q11
               try clear hx11
               try clear c13
               try clear c13b0
               try clear p14
               try clear q14
               try clear hx14
               try clear c16
               try clear c16b0
               try clear p17
               try clear q17
               try clear hx17
               try clear c20
               try clear c20b0
               try clear c20b1
               try clear c22
               try clear c22b0
               try clear c23
               try clear c23b0
               try clear c24
               try clear p24
               try clear q24
               try clear hx24
               try clear c25
               try clear c26
               try clear c28
               try clear c28b0
               try clear c28b1
               try clear c29
               try clear c29b0
               try clear c30
               try clear c30b0
               try clear c32
               try clear p32
               try clear p1
               try clear p11
               try clear p14
               try clear p17
               try clear p2
               try clear p24
               try clear p3
               try clear p6
               try clear q1
               try clear q11
               try clear q14
               try clear q17
               try clear q2
               try clear q24
               obtain ⟨kq, x8_30, rfl, HA, HJ30, HB⟩ := hcut
               cases kq with
               | zero => exact absurd HA.out (by simp [selvedgeref03_number.j7])
               | succ kj30 =>
                have H := HA.out
                clear HA
                simp only [selvedgeref03_number.j7] at H
                replace H := Option.bind_eq_some_iff.mp H
                obtain ⟨t135, A330, H⟩ := H
                replace H : (selvedgeref03_number.l1 kj30 x6_24 x8_30 t135 0) = some (r1, r2, r3) := H
                have A33 := Aside0.mk A330
                clear A330
                have H' := Aside0.mk H
                clear H
                go_wp2_with (first | ((with_reducible refine gate_callee (f := 39) rfl ?_); refine goesL_ (some 77) rfl rfl Tryd.func39 (by kernel_rfl) rfl #[] rfl (by (try simp only [List.map_toArray, List.map_cons, List.map_nil]); first | done | rfl | (simp only [List.length_drop, List.length_take]; rfl)) ?_; (with_reducible refine (selvedgeref03_replaced.calls  t135 _ A33.out).mono ?_); rintro e w34 ⟨v136, rfl, ho0, hb⟩; refine ⟨_, rfl, ?_⟩; have n0_ := Aside0.mk (Kd.R_lower ho0 (below_size (mvB HB))); have n1_ := Aside0.mk (below_step (mvB HB) hb); clear HB; have HO137 := n0_; have HB := n1_; clear n0_ n1_; (try clear hb); (try clear hb2); (try clear hk); (try clear hi); (try clear ho0)))
                go_loopg [10] kj30 (fun kq v10 w' => ∃ (x10_8 : Int), v10 = .int .i64 x10_8 ∧ Aside0 (selvedgeref03_number.l1 kq x6_24 x8_30 t135 x10_8 = some (r1, r2, r3)) ∧ Aside0 (kq ≤ kj30) ∧ Aside0 (Kd.R k73 73 w' w.heap.size (fun _ => True) v136 t135) ∧ Aside0 (Below w.heap.size w w'))
                case atStart => exact ⟨(0), (by first | rfl | (simp; done) | (simp [*]; done)), H', ⟨Nat.le_refl _⟩, ⟨mvR HO137⟩, ⟨mvB HB⟩⟩
                case round =>
                 clear H'
                 try clear c1
                 try clear p1
                 try clear q1
                 try clear hx1
                 try clear c2
                 try clear p2
                 try clear q2
                 try clear hx2
                 try clear c3
                 try clear p3
                 try clear c4
                 try clear p6
                 try clear c7
                 try clear c9
                 try clear c9b0
                 try clear c10
                 try clear c10b0
                 try clear p11
                 try clear q11
                 try clear hx11
                 try clear c13
                 try clear c13b0
                 try clear p14
                 try clear q14
                 try clear hx14
                 try clear c16
                 try clear c16b0
                 try clear p17
                 try clear q17
                 try clear hx17
                 try clear c20
                 try clear c20b0
                 try clear c20b1
                 try clear c22
                 try clear c22b0
                 try clear c23
                 try clear c23b0
                 try clear c24
                 try clear p24
                 try clear q24
                 try clear hx24
                 try clear c25
                 try clear c26
                 try clear c28
                 try clear c28b0
                 try clear c28b1
                 try clear c29
                 try clear c29b0
                 try clear c30
                 try clear c30b0
                 try clear c32
                 try clear p32
                 try clear p1
                 try clear p11
                 try clear p14
                 try clear p17
                 try clear p2
                 try clear p24
                 try clear p3
                 try clear p32
                 try clear p6
                 try clear q1
                 try clear q11
                 try clear q14
                 try clear q17
                 try clear q2
                 try clear q24
                 obtain ⟨x10_8, rfl, HA, HK8, HO_9, HB⟩ := hrel
                 cases gk with
                 | zero => exact absurd HA.out (by simp [selvedgeref03_number.l1])
                 | succ k8 =>
                  have H := HA.out
                  clear HA
                  simp only [selvedgeref03_number.l1] at H
                  by_cases c35 : x10_8 < (t135.length : Int)
                  ·rw [if_pos c35] at H
                   have c35b0 : decide (x10_8 < (t135.length : Int)) = true := decide_eq_true c35
                   clear c35
                   by_cases c36 : 0 ≤ x10_8
                   ·rw [if_pos c36] at H
                    have c36b0 : decide (0 ≤ x10_8) = true := decide_eq_true c36
                    clear c36
                    by_cases c37 : ((rd_T73 t135 x10_8).f0) = x8_30
                    ·rw [if_pos c37] at H
                     have c37b0 : (((rd_T73 t135 x10_8).f0) == x8_30) = true := beq_iff_eq.mpr c37
                     have c37b1 : (((rd_T73 t135 x10_8).f0) != x8_30) = false := bne_eq_false_iff_eq.mpr c37
                     clear c37
                     simp only [Option.some.injEq, Prod.mk.injEq] at H
                     obtain ⟨rfl, rfl, rfl⟩ := H
                     obtain ⟨Ao38, co38, eo38⟩ := Kd.R_slice HO_9.out
                     subst eo38
                     have p138 := dT (0 ≤ (x10_8 : Int))
                     have q138 := dT (x10_8 < (t135.length : Int))
                     obtain ⟨ad138, e138, hx138_0, hx138_1⟩ := at_T73 (Kd.R_reads' HO_9.out).2.2 x10_8 p138 q138
                     cases e138
                     replace p138 := eq_true p138
                     replace q138 := eq_true q138
                     have p139 := dT (0 ≤ (x10_8 : Int))
                     have q139 := dT (x10_8 < (t135.length : Int))
                     obtain ⟨ad139, e139, hx139_0, hx139_1⟩ := at_T73 (Kd.R_reads' HO_9.out).2.2 x10_8 p139 q139
                     obtain rfl : ad138 = ad139 := (by injection e139)
                     replace p139 := eq_true p139
                     replace q139 := eq_true q139
                     go_wp2
                     go_ret3
                     exact ⟨by first | rfl | (simp [errW_none, errW_some] <;> rfl) | (simp [*, errW_none, errW_some] <;> rfl), mvB HB⟩
                    ·rw [if_neg c37] at H
                     have c37b0 : (((rd_T73 t135 x10_8).f0) == x8_30) = false := beq_eq_false_iff_ne.mpr c37
                     have c37b1 : (((rd_T73 t135 x10_8).f0) != x8_30) = true := bne_iff_ne.mpr c37
                     have H' := Aside0.mk H
                     clear H
                     obtain ⟨Ao39, co39, eo39⟩ := Kd.R_slice HO_9.out
                     subst eo39
                     have p138 := dT (0 ≤ (x10_8 : Int))
                     have q138 := dT (x10_8 < (t135.length : Int))
                     obtain ⟨ad138, e138, hx138_0, hx138_1⟩ := at_T73 (Kd.R_reads' HO_9.out).2.2 x10_8 p138 q138
                     cases e138
                     replace p138 := eq_true p138
                     replace q138 := eq_true q138
                     go_wp2
                     go_roundg k8
                     case measure => have := HJ1.out; have := HJ5.out; have := HJ7.out; have := HJ20.out; have := HJ24.out; have := HJ26.out; have := HJ30.out; have := HK8.out; omega
                     case rel => exact ⟨(wrap64 (x10_8 + 1)), (by first | rfl | (simp; done) | (simp [*]; done)), H', ⟨by have := HJ1.out; have := HJ5.out; have := HJ7.out; have := HJ20.out; have := HJ24.out; have := HJ26.out; have := HJ30.out; have := HK8.out; omega⟩, ⟨mvR HO_9⟩, ⟨mvB HB⟩⟩
                   ·rw [if_neg c36] at H
                    exact absurd H (by simp)
                  ·rw [if_neg c35] at H
                   have c35b0 : decide (x10_8 < (t135.length : Int)) = false := decide_eq_false c35
                   clear c35
                   simp only [Option.some.injEq, Prod.mk.injEq] at H
                   obtain ⟨rfl, rfl, rfl⟩ := H
                   obtain ⟨Ao40, co40, eo40⟩ := Kd.R_slice HO_9.out
                   subst eo40
                   go_wp2
                   go_ret3
                   exact ⟨by first | rfl | (simp [errW_none, errW_some] <;> rfl) | (simp [*, errW_none, errW_some] <;> rfl), mvB HB⟩

end Go.Proofs.YtaohghcmlohngaaDoor.X
