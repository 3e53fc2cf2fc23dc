-- by xprint.py: the kit's printer over texts of this session
import Derived.Test.YtaohghcmlohngaaDoorX0
namespace Go.Proofs.YtaohghcmlohngaaDoor.X
open Go.RowKit Go.Proofs.YtaohghcmlohngaaDoorW.PrintWords Go.Proofs.YtaohghcmlohngaaDoorW.PrintLast Go.Proofs.YtaohghcmlohngaaDoorW.PrintMore
attribute [local go_sem] max2_int min2_int max_two min_two max_three min_three max_four min_four   -- for this text's walks alone
set_option linter.unusedVariables false
set_option linter.unusedSimpArgs false

/-! ### selvedgeref03_begins: function 24 -/
def selvedgeref03_begins.f (a0 : ByteArray) (a1 : ByteArray) : Option (Bool) := if (a0.size : Int) ≥ (a1.size : Int) then (if 0 ≤ (a1.size : Int) then (if (a1.size : Int) ≤ (a0.size : Int) then (some ((a0.extract 0 ((a1.size : Int) : Int).toNat).toList == a1.toList)) else (none)) else (none)) else (some false)
set_option maxHeartbeats 8000000 in
set_option maxRecDepth 100000 in
theorem selvedgeref03_begins.calls (a0 : ByteArray) (a1 : ByteArray) (r : Bool) (w : World) (h : selvedgeref03_begins.f a0 a1 = some r) :
  Calls Tryd.prog 24 #[.string a0, .string a1] w fun e w' => e = .returned (.bool r) ∧ Drawn0 w w' := by
 have H : (if (a0.size : Int) ≥ (a1.size : Int) then (if 0 ≤ (a1.size : Int) then (if (a1.size : Int) ≤ (a0.size : Int) then (some ((a0.extract 0 ((a1.size : Int) : Int).toNat).toList == a1.toList)) else (none)) else (none)) else (some false)) = some r := h
 clear h
 by_cases c3 : (a0.size : Int) ≥ (a1.size : Int)
 ·rw [if_pos c3] at H
  have c3b0 : decide ((a1.size : Int) ≤ (a0.size : Int)) = true := decide_eq_true c3
  have c3b1 : decide (a1.size ≤ a0.size) = true := decide_eq_true (Int.ofNat_le.mp c3)
  clear c3
  by_cases c4 : 0 ≤ (a1.size : Int)
  ·rw [if_pos c4] at H
   have c4b0 := eq_true c4
   have c4b1 : decide (0 ≤ (a1.size : Int)) = true := decide_eq_true c4
   clear c4
   by_cases c5 : (a1.size : Int) ≤ (a0.size : Int)
   ·rw [if_pos c5] at H
    have c5b0 := eq_true c5
    have c5b1 : decide ((a1.size : Int) ≤ (a0.size : Int)) = true := decide_eq_true c5
    clear c5
    obtain rfl := Option.some.inj H
    go_enter Tryd.func24, Tryd.ntmps24
    go_wp2
    go_ret
    exact ⟨by first | rfl | (simp; done) | (simp [*]; done), by repeat (first | exact Drawn0.refl _ | apply Drawn0.step)⟩
   ·rw [if_neg c5] at H
    exact absurd H (by simp)
  ·rw [if_neg c4] at H
   exact absurd H (by simp)
 ·rw [if_neg c3] at H
  have c3b0 : decide ((a1.size : Int) ≤ (a0.size : Int)) = false := decide_eq_false c3
  have c3b1 : decide (a1.size ≤ a0.size) = false := decide_eq_false (fun h => c3 (Int.ofNat_le.mpr h))
  clear c3
  obtain rfl := Option.some.inj H
  go_enter Tryd.func24, Tryd.ntmps24
  go_wp2
  go_ret
  exact ⟨by first | rfl | (simp; done) | (simp [*]; done), by repeat (first | exact Drawn0.refl _ | apply Drawn0.step)⟩

/-! ### selvedgeref03_digit: function 38 -/
mutual
def selvedgeref03_digit.j0 : Nat → Int → Bool → Option (Int)
 | 0, _, _ => none
 | k + 1, x0, x3 => if x3 = true then (some ((x0 - 48) % 256)) else (if x0 ≥ 97 then (selvedgeref03_digit.j1 k x0 (decide (x0 ≤ 102))) else (selvedgeref03_digit.j1 k x0 false))
def selvedgeref03_digit.j1 : Nat → Int → Bool → Option (Int)
 | 0, _, _ => none
 | k + 1, x0, x13 => if x13 = true then (some (((x0 - 97) % 256) + 10)) else (if x0 ≥ 65 then (if x0 ≤ 70 then (some (((x0 - 65) % 256) + 10)) else (some (-1))) else (some (-1)))
end
def selvedgeref03_digit.f (k : Nat) (a0 : Int) : Option (Int) := if a0 ≥ 48 then (selvedgeref03_digit.j0 k a0 (decide (a0 ≤ 57))) else (selvedgeref03_digit.j0 k a0 false)
theorem selvedgeref03_digit.mono_l : ∀ k, (∀ y0 y1, LeO (selvedgeref03_digit.j0 k y0 y1) (selvedgeref03_digit.j0 (k + 1) y0 y1)) ∧ (∀ y0 y1, LeO (selvedgeref03_digit.j1 k y0 y1) (selvedgeref03_digit.j1 (k + 1) y0 y1))
 | 0 => ⟨fun _ _ r h => by simp [selvedgeref03_digit.j0] at h, fun _ _ r h => by simp [selvedgeref03_digit.j1] at h⟩
 | k + 1 => by
  obtain ⟨ih0, ih1⟩ := selvedgeref03_digit.mono_l k
  refine ⟨?_, ?_⟩
  ·intro y0 y1
   unfold selvedgeref03_digit.j0
   repeat' first
   | (with_reducible exact ih0 _ _)
   | (with_reducible exact ih1 _ _)
   | (with_reducible exact LeO.refl _)
   | (with_reducible exact LeO.none _)
   | (with_reducible refine LeO.ite ?_ ?_)
   | (with_reducible refine LeO.bind ?_ (fun _ => ?_))
   | exact ih0 _ _
   | exact ih1 _ _
   | exact LeO.none _
   | refine LeO.ite ?_ ?_
   | refine LeO.bind ?_ (fun _ => ?_)
  ·intro y0 y1
   unfold selvedgeref03_digit.j1
   repeat' first
   | (with_reducible exact ih0 _ _)
   | (with_reducible exact ih1 _ _)
   | (with_reducible exact LeO.refl _)
   | (with_reducible exact LeO.none _)
   | (with_reducible refine LeO.ite ?_ ?_)
   | (with_reducible refine LeO.bind ?_ (fun _ => ?_))
   | exact ih0 _ _
   | exact ih1 _ _
   | exact LeO.none _
   | refine LeO.ite ?_ ?_
   | refine LeO.bind ?_ (fun _ => ?_)
theorem selvedgeref03_digit.mono : ∀ a0 k, LeO (selvedgeref03_digit.f k a0) (selvedgeref03_digit.f (k + 1) a0) := by
 intro a0 k
 obtain ⟨ih0, ih1⟩ := selvedgeref03_digit.mono_l k
 unfold selvedgeref03_digit.f
 repeat' first
   | (with_reducible exact ih0 _ _)
   | (with_reducible exact ih1 _ _)
   | (with_reducible exact LeO.refl _)
   | (with_reducible exact LeO.none _)
   | (with_reducible refine LeO.ite ?_ ?_)
   | (with_reducible refine LeO.bind ?_ (fun _ => ?_))
   | exact ih0 _ _
   | exact ih1 _ _
   | exact LeO.none _
   | refine LeO.ite ?_ ?_
   | refine LeO.bind ?_ (fun _ => ?_)
set_option maxHeartbeats 8000000 in
set_option maxRecDepth 100000 in
theorem selvedgeref03_digit.calls (k : Nat) (a0 : Int) (r : Int) (w : World) (h : selvedgeref03_digit.f k a0 = some r) :
  Calls Tryd.prog 38 #[.int .u8 a0] w fun e w' => e = .returned (.int .i32 r) ∧ Drawn0 w w' := by
 have H : (if a0 ≥ 48 then (selvedgeref03_digit.j0 k a0 (decide (a0 ≤ 57))) else (selvedgeref03_digit.j0 k a0 false)) = some r := h
 clear h
 have HC2 := Aside0.mk H
 clear H
 go_enter Tryd.func38, Tryd.ntmps38
 go_upto_region 1 with (fail)
 go_cut [3] (fun v3 wc => ∃ (kq : Nat) (x3_1 : Bool), v3 = .bool x3_1 ∧ Aside0 (selvedgeref03_digit.j0 kq a0 x3_1 = some r) ∧ Aside0 (kq ≤ k) ∧ Drawn0 w wc)
 case first =>
  have H := HC2.out
  clear HC2
  by_cases c3 : a0 ≥ 48
  ·rw [if_pos c3] at H
   have c3b0 : decide (48 ≤ a0) = true := decide_eq_true c3
   clear c3
   (first | rw [c3b0] | (simp only [i64_w, i32_w]; rw [c3b0]) | skip)
   have H' := Aside0.mk H
   clear H
   go_wp2
   go_meet
   case rel => exact ⟨_, (decide (a0 ≤ 57)), (by first | rfl | (simp; done) | (simp [*]; done)), H', ⟨by first | omega | exact Nat.le_refl _⟩, by repeat (first | exact Drawn0.refl _ | apply Drawn0.step)⟩
  ·rw [if_neg c3] at H
   have c3b0 : decide (48 ≤ a0) = false := decide_eq_false c3
   clear c3
   (first | rw [c3b0] | (simp only [i64_w, i32_w]; rw [c3b0]) | skip)
   have H' := Aside0.mk H
   clear H
   go_wp2
   go_meet
   case rel => exact ⟨_, (false), (by first | rfl | (simp; done) | (simp [*]; done)), H', ⟨by first | omega | exact Nat.le_refl _⟩, by repeat (first | exact Drawn0.refl _ | apply Drawn0.step)⟩
 case rest =>
  clear HC2
  try clear p2
  try clear c3
  try clear c3b0
  obtain ⟨kq, x3_1, rfl, HA, HJ1, ⟨mc1, rfl⟩⟩ := hcut
  cases kq with
  | zero => exact absurd HA.out (by simp [selvedgeref03_digit.j0])
  | succ kj1 =>
   have H := HA.out
   clear HA
   simp only [selvedgeref03_digit.j0] at H
   by_cases c4 : x3_1 = true
   ·subst c4
    have H1 : (some ((a0 - 48) % 256)) = some r := by rw [if_pos rfl] at H; exact H
    clear H
    have H := H1
    clear H1
    obtain rfl := Option.some.inj H
    go_wp2
    go_ret
    exact ⟨by first | rfl | (simp; done) | (simp [*]; done), by repeat (first | exact Drawn0.refl _ | apply Drawn0.step)⟩
   ·replace c4 := Bool.eq_false_iff.mpr c4
    subst c4
    have H1 : (if a0 ≥ 97 then (selvedgeref03_digit.j1 kj1 a0 (decide (a0 ≤ 102))) else (selvedgeref03_digit.j1 kj1 a0 false)) = some r := by rw [if_neg (show ¬ (false = true) by decide)] at H; exact H
    clear H
    have H := H1
    clear H1
    have HC5 := Aside0.mk H
    clear H
    go_upto_region 3 with (fail)
    go_cut [13] (fun v13 wc => ∃ (kq : Nat) (x13_4 : Bool), v13 = .bool x13_4 ∧ Aside0 (selvedgeref03_digit.j1 kq a0 x13_4 = some r) ∧ Aside0 (kq ≤ kj1) ∧ Drawn0 w wc)
    case first =>
     have H := HC5.out
     clear HC5
     by_cases c6 : a0 ≥ 97
     ·rw [if_pos c6] at H
      have c6b0 : decide (97 ≤ a0) = true := decide_eq_true c6
      clear c6
      (first | rw [c6b0] | (simp only [i64_w, i32_w]; rw [c6b0]) | skip)
      have H' := Aside0.mk H
      clear H
      go_wp2
      go_meet
      case rel => exact ⟨_, (decide (a0 ≤ 102)), (by first | rfl | (simp; done) | (simp [*]; done)), H', ⟨by have := HJ1.out; first | omega | exact Nat.le_refl _⟩, by repeat (first | exact Drawn0.refl _ | apply Drawn0.step)⟩
     ·rw [if_neg c6] at H
      have c6b0 : decide (97 ≤ a0) = false := decide_eq_false c6
      clear c6
      (first | rw [c6b0] | (simp only [i64_w, i32_w]; rw [c6b0]) | skip)
      have H' := Aside0.mk H
      clear H
      go_wp2
      go_meet
      case rel => exact ⟨_, (false), (by first | rfl | (simp; done) | (simp [*]; done)), H', ⟨by have := HJ1.out; first | omega | exact Nat.le_refl _⟩, by repeat (first | exact Drawn0.refl _ | apply Drawn0.step)⟩
    case rest =>
     clear HC5
     try clear c1
     try clear p2
     try clear c3
     try clear c3b0
     try clear c4
     try clear c6
     try clear c6b0
     try clear p2
     obtain ⟨kq, x13_4, rfl, HA, HJ4, ⟨mc4, rfl⟩⟩ := hcut
     cases kq with
     | zero => exact absurd HA.out (by simp [selvedgeref03_digit.j1])
     | succ kj4 =>
      have H := HA.out
      clear HA
      simp only [selvedgeref03_digit.j1] at H
      by_cases c7 : x13_4 = true
      ·subst c7
       have H1 : (some (((a0 - 97) % 256) + 10)) = some r := by rw [if_pos rfl] at H; exact H
       clear H
       have H := H1
       clear H1
       obtain rfl := Option.some.inj H
       go_wp2
       go_ret
       exact ⟨by first | rfl | (simp; done) | (simp [*]; done), by repeat (first | exact Drawn0.refl _ | apply Drawn0.step)⟩
      ·replace c7 := Bool.eq_false_iff.mpr c7
       subst c7
       have H1 : (if a0 ≥ 65 then (if a0 ≤ 70 then (some (((a0 - 65) % 256) + 10)) else (some (-1))) else (some (-1))) = some r := by rw [if_neg (show ¬ (false = true) by decide)] at H; exact H
       clear H
       have H := H1
       clear H1
       by_cases c8 : a0 ≥ 65
       ·rw [if_pos c8] at H
        have c8b0 : decide (65 ≤ a0) = true := decide_eq_true c8
        clear c8
        by_cases c9 : a0 ≤ 70
        ·rw [if_pos c9] at H
         have c9b0 : decide (a0 ≤ 70) = true := decide_eq_true c9
         clear c9
         obtain rfl := Option.some.inj H
         go_wp2
         go_ret
         exact ⟨by first | rfl | (simp; done) | (simp [*]; done), by repeat (first | exact Drawn0.refl _ | apply Drawn0.step)⟩
        ·rw [if_neg c9] at H
         have c9b0 : decide (a0 ≤ 70) = false := decide_eq_false c9
         clear c9
         obtain rfl := Option.some.inj H
         go_wp2
         go_ret
         exact ⟨by first | rfl | (simp; done) | (simp [*]; done), by repeat (first | exact Drawn0.refl _ | apply Drawn0.step)⟩
       ·rw [if_neg c8] at H
        have c8b0 : decide (65 ≤ a0) = false := decide_eq_false c8
        clear c8
        obtain rfl := Option.some.inj H
        go_wp2
        go_ret
        exact ⟨by first | rfl | (simp; done) | (simp [*]; done), by repeat (first | exact Drawn0.refl _ | apply Drawn0.step)⟩

/-! ### selvedgeref03_replaced: function 39 -/
def selvedgeref03_replaced.f  : Option ((List (S73))) := some (([(⟨128, 8364⟩ : S73), (⟨130, 8218⟩ : S73), (⟨131, 402⟩ : S73), (⟨132, 8222⟩ : S73), (⟨133, 8230⟩ : S73), (⟨134, 8224⟩ : S73), (⟨135, 8225⟩ : S73), (⟨136, 710⟩ : S73), (⟨137, 8240⟩ : S73), (⟨138, 352⟩ : S73), (⟨139, 8249⟩ : S73), (⟨140, 338⟩ : S73), (⟨142, 381⟩ : S73), (⟨145, 8216⟩ : S73), (⟨146, 8217⟩ : S73), (⟨147, 8220⟩ : S73), (⟨148, 8221⟩ : S73), (⟨149, 8226⟩ : S73), (⟨150, 8211⟩ : S73), (⟨151, 8212⟩ : S73), (⟨152, 732⟩ : S73), (⟨153, 8482⟩ : S73), (⟨154, 353⟩ : S73), (⟨155, 8250⟩ : S73), (⟨156, 339⟩ : S73), (⟨158, 382⟩ : S73), (⟨159, 376⟩ : S73)] : List (S73)))
set_option maxHeartbeats 8000000 in
set_option maxRecDepth 100000 in
theorem selvedgeref03_replaced.calls  (r : List (S73)) (w : World) (h : selvedgeref03_replaced.f  = some r) :
  Calls Tryd.prog 39 #[] w fun e w' => ∃ v0_ : Value, e = .returned (v0_) ∧ Kd.R k73 73 w' w.heap.size (fun _ => True) v0_ r ∧ Below w.heap.size w w' := by
 have hu73 := Tryd.underlying73
 have HB := Aside0.mk (Below.refl w.heap.size w)
 have H : (some (([(⟨128, 8364⟩ : S73), (⟨130, 8218⟩ : S73), (⟨131, 402⟩ : S73), (⟨132, 8222⟩ : S73), (⟨133, 8230⟩ : S73), (⟨134, 8224⟩ : S73), (⟨135, 8225⟩ : S73), (⟨136, 710⟩ : S73), (⟨137, 8240⟩ : S73), (⟨138, 352⟩ : S73), (⟨139, 8249⟩ : S73), (⟨140, 338⟩ : S73), (⟨142, 381⟩ : S73), (⟨145, 8216⟩ : S73), (⟨146, 8217⟩ : S73), (⟨147, 8220⟩ : S73), (⟨148, 8221⟩ : S73), (⟨149, 8226⟩ : S73), (⟨150, 8211⟩ : S73), (⟨151, 8212⟩ : S73), (⟨152, 732⟩ : S73), (⟨153, 8482⟩ : S73), (⟨154, 353⟩ : S73), (⟨155, 8250⟩ : S73), (⟨156, 339⟩ : S73), (⟨158, 382⟩ : S73), (⟨159, 376⟩ : S73)] : List (S73)))) = some r := h
 clear h
 obtain ⟨y127, hy127⟩ : ∃ y_ : List (S73), y_ = (([(⟨128, 8364⟩ : S73), (⟨130, 8218⟩ : S73), (⟨131, 402⟩ : S73), (⟨132, 8222⟩ : S73), (⟨133, 8230⟩ : S73), (⟨134, 8224⟩ : S73), (⟨135, 8225⟩ : S73), (⟨136, 710⟩ : S73), (⟨137, 8240⟩ : S73), (⟨138, 352⟩ : S73), (⟨139, 8249⟩ : S73), (⟨140, 338⟩ : S73), (⟨142, 381⟩ : S73), (⟨145, 8216⟩ : S73), (⟨146, 8217⟩ : S73), (⟨147, 8220⟩ : S73), (⟨148, 8221⟩ : S73), (⟨149, 8226⟩ : S73), (⟨150, 8211⟩ : S73), (⟨151, 8212⟩ : S73), (⟨152, 732⟩ : S73), (⟨153, 8482⟩ : S73), (⟨154, 353⟩ : S73), (⟨155, 8250⟩ : S73), (⟨156, 339⟩ : S73), (⟨158, 382⟩ : S73), (⟨159, 376⟩ : S73)] : List (S73))) := ⟨_, rfl⟩
 replace H : (some y127) = some r := by first | (rw [hy127]; with_reducible exact H) | (have H2_ := (Option.bind_some _ _).symm.trans H; rw [hy127]; with_reducible exact H2_) | (have H2_ := (Option.bind_some _ _).symm.trans H; with_reducible exact H2_) | with_reducible exact H | (rw [hy127]; exact H) | exact H
 have Ny127 := Aside0.mk hy127
 clear hy127
 obtain rfl := Option.some.inj H
 go_enter Tryd.func39, Tryd.ntmps39
 go_wp2_with (first | ((with_reducible refine gate_dst (N := 28) rfl ?_); refine Kd.R_lit k73 _ 73 ?hg (N := 28) ?hd (xs := ([(⟨128, 8364⟩ : S73), (⟨130, 8218⟩ : S73), (⟨131, 402⟩ : S73), (⟨132, 8222⟩ : S73), (⟨133, 8230⟩ : S73), (⟨134, 8224⟩ : S73), (⟨135, 8225⟩ : S73), (⟨136, 710⟩ : S73), (⟨137, 8240⟩ : S73), (⟨138, 352⟩ : S73), (⟨139, 8249⟩ : S73), (⟨140, 338⟩ : S73), (⟨142, 381⟩ : S73), (⟨145, 8216⟩ : S73), (⟨146, 8217⟩ : S73), (⟨147, 8220⟩ : S73), (⟨148, 8221⟩ : S73), (⟨149, 8226⟩ : S73), (⟨150, 8211⟩ : S73), (⟨151, 8212⟩ : S73), (⟨152, 732⟩ : S73), (⟨153, 8482⟩ : S73), (⟨154, 353⟩ : S73), (⟨155, 8250⟩ : S73), (⟨156, 339⟩ : S73), (⟨158, 382⟩ : S73), (⟨159, 376⟩ : S73)] : List (S73))) (inner := [.int .i32 128, .int .i32 8364, .int .i32 130, .int .i32 8218, .int .i32 131, .int .i32 402, .int .i32 132, .int .i32 8222, .int .i32 133, .int .i32 8230, .int .i32 134, .int .i32 8224, .int .i32 135, .int .i32 8225, .int .i32 136, .int .i32 710, .int .i32 137, .int .i32 8240, .int .i32 138, .int .i32 352, .int .i32 139, .int .i32 8249, .int .i32 140, .int .i32 338, .int .i32 142, .int .i32 381, .int .i32 145, .int .i32 8216, .int .i32 146, .int .i32 8217, .int .i32 147, .int .i32 8220, .int .i32 148, .int .i32 8221, .int .i32 149, .int .i32 8226, .int .i32 150, .int .i32 8211, .int .i32 151, .int .i32 8212, .int .i32 152, .int .i32 732, .int .i32 153, .int .i32 8482, .int .i32 154, .int .i32 353, .int .i32 155, .int .i32 8250, .int .i32 156, .int .i32 339, .int .i32 158, .int .i32 382, .int .i32 159, .int .i32 376]) (ok := fun _ => True) (okp := fun _ => True) ?hr ?hp (fun _ hk => hk) trivial (Below.refl _ _) (Nat.le_refl _) (by simp) ?_; (case hd => rfl); (case hg => rfl); (case hr => first | (go_simp; done) | (go_simp; rfl)); (case hp => exact (Reps.c2 (show Kd.M k73 _ _ _ (⟨128, 8364⟩ : S73) [.int .i32 128, .int .i32 8364] from (k73_mkM _ _ _ (⟨128, 8364⟩ : S73) )) (Reps.c2 (show Kd.M k73 _ _ _ (⟨130, 8218⟩ : S73) [.int .i32 130, .int .i32 8218] from (k73_mkM _ _ _ (⟨130, 8218⟩ : S73) )) (Reps.c2 (show Kd.M k73 _ _ _ (⟨131, 402⟩ : S73) [.int .i32 131, .int .i32 402] from (k73_mkM _ _ _ (⟨131, 402⟩ : S73) )) (Reps.c2 (show Kd.M k73 _ _ _ (⟨132, 8222⟩ : S73) [.int .i32 132, .int .i32 8222] from (k73_mkM _ _ _ (⟨132, 8222⟩ : S73) )) (Reps.c2 (show Kd.M k73 _ _ _ (⟨133, 8230⟩ : S73) [.int .i32 133, .int .i32 8230] from (k73_mkM _ _ _ (⟨133, 8230⟩ : S73) )) (Reps.c2 (show Kd.M k73 _ _ _ (⟨134, 8224⟩ : S73) [.int .i32 134, .int .i32 8224] from (k73_mkM _ _ _ (⟨134, 8224⟩ : S73) )) (Reps.c2 (show Kd.M k73 _ _ _ (⟨135, 8225⟩ : S73) [.int .i32 135, .int .i32 8225] from (k73_mkM _ _ _ (⟨135, 8225⟩ : S73) )) (Reps.c2 (show Kd.M k73 _ _ _ (⟨136, 710⟩ : S73) [.int .i32 136, .int .i32 710] from (k73_mkM _ _ _ (⟨136, 710⟩ : S73) )) (Reps.c2 (show Kd.M k73 _ _ _ (⟨137, 8240⟩ : S73) [.int .i32 137, .int .i32 8240] from (k73_mkM _ _ _ (⟨137, 8240⟩ : S73) )) (Reps.c2 (show Kd.M k73 _ _ _ (⟨138, 352⟩ : S73) [.int .i32 138, .int .i32 352] from (k73_mkM _ _ _ (⟨138, 352⟩ : S73) )) (Reps.c2 (show Kd.M k73 _ _ _ (⟨139, 8249⟩ : S73) [.int .i32 139, .int .i32 8249] from (k73_mkM _ _ _ (⟨139, 8249⟩ : S73) )) (Reps.c2 (show Kd.M k73 _ _ _ (⟨140, 338⟩ : S73) [.int .i32 140, .int .i32 338] from (k73_mkM _ _ _ (⟨140, 338⟩ : S73) )) (Reps.c2 (show Kd.M k73 _ _ _ (⟨142, 381⟩ : S73) [.int .i32 142, .int .i32 381] from (k73_mkM _ _ _ (⟨142, 381⟩ : S73) )) (Reps.c2 (show Kd.M k73 _ _ _ (⟨145, 8216⟩ : S73) [.int .i32 145, .int .i32 8216] from (k73_mkM _ _ _ (⟨145, 8216⟩ : S73) )) (Reps.c2 (show Kd.M k73 _ _ _ (⟨146, 8217⟩ : S73) [.int .i32 146, .int .i32 8217] from (k73_mkM _ _ _ (⟨146, 8217⟩ : S73) )) (Reps.c2 (show Kd.M k73 _ _ _ (⟨147, 8220⟩ : S73) [.int .i32 147, .int .i32 8220] from (k73_mkM _ _ _ (⟨147, 8220⟩ : S73) )) (Reps.c2 (show Kd.M k73 _ _ _ (⟨148, 8221⟩ : S73) [.int .i32 148, .int .i32 8221] from (k73_mkM _ _ _ (⟨148, 8221⟩ : S73) )) (Reps.c2 (show Kd.M k73 _ _ _ (⟨149, 8226⟩ : S73) [.int .i32 149, .int .i32 8226] from (k73_mkM _ _ _ (⟨149, 8226⟩ : S73) )) (Reps.c2 (show Kd.M k73 _ _ _ (⟨150, 8211⟩ : S73) [.int .i32 150, .int .i32 8211] from (k73_mkM _ _ _ (⟨150, 8211⟩ : S73) )) (Reps.c2 (show Kd.M k73 _ _ _ (⟨151, 8212⟩ : S73) [.int .i32 151, .int .i32 8212] from (k73_mkM _ _ _ (⟨151, 8212⟩ : S73) )) (Reps.c2 (show Kd.M k73 _ _ _ (⟨152, 732⟩ : S73) [.int .i32 152, .int .i32 732] from (k73_mkM _ _ _ (⟨152, 732⟩ : S73) )) (Reps.c2 (show Kd.M k73 _ _ _ (⟨153, 8482⟩ : S73) [.int .i32 153, .int .i32 8482] from (k73_mkM _ _ _ (⟨153, 8482⟩ : S73) )) (Reps.c2 (show Kd.M k73 _ _ _ (⟨154, 353⟩ : S73) [.int .i32 154, .int .i32 353] from (k73_mkM _ _ _ (⟨154, 353⟩ : S73) )) (Reps.c2 (show Kd.M k73 _ _ _ (⟨155, 8250⟩ : S73) [.int .i32 155, .int .i32 8250] from (k73_mkM _ _ _ (⟨155, 8250⟩ : S73) )) (Reps.c2 (show Kd.M k73 _ _ _ (⟨156, 339⟩ : S73) [.int .i32 156, .int .i32 339] from (k73_mkM _ _ _ (⟨156, 339⟩ : S73) )) (Reps.c2 (show Kd.M k73 _ _ _ (⟨158, 382⟩ : S73) [.int .i32 158, .int .i32 382] from (k73_mkM _ _ _ (⟨158, 382⟩ : S73) )) (Reps.c2 (show Kd.M k73 _ _ _ (⟨159, 376⟩ : S73) [.int .i32 159, .int .i32 376] from (k73_mkM _ _ _ (⟨159, 376⟩ : S73) )) (Reps.none _ _))))))))))))))))))))))))))))); intro v128 w1 ho2 hb hg_ hnew_; clear hg_ hnew_; (first | rw [← Ny127.out] at ho2 | (simp only [Int.reduceToNat] at ho2; rw [← Ny127.out] at ho2)); have n0_ := Aside0.mk (Kd.R_lower ho2 (below_size (mvB HB))); have n1_ := Aside0.mk (below_step (mvB HB) hb); clear HB; have HO129 := n0_; have HB := n1_; clear n0_ n1_; clear hb ho2))
 go_ret
 exact ⟨_, by first | rfl | (simp [errW_none, errW_some] <;> rfl) | (simp [*, errW_none, errW_some] <;> rfl), mvR HO129, mvB HB⟩

end Go.Proofs.YtaohghcmlohngaaDoor.X
