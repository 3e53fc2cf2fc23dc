-- by xprint.py: the kit's printer over texts of this session
import Derived.Test.YtaohghcmlohngaaDoorX0
import Derived.Test.YtaohghcmlohngaaDoorX4
import Derived.Test.YtaohghcmlohngaaDoorX5
import Derived.Test.YtaohghcmlohngaaDoorT6
namespace Go.Proofs.YtaohghcmlohngaaDoor.X
open Go.RowKit Go.Proofs.YtaohghcmlohngaaDoorW.PrintWords Go.Proofs.YtaohghcmlohngaaDoorW.PrintLast Go.Proofs.YtaohghcmlohngaaDoorW.PrintMore
attribute [local go_sem] max2_int min2_int max_two min_two max_three min_three max_four min_four   -- for this text's walks alone
set_option linter.unusedVariables false
set_option linter.unusedSimpArgs false

/-! ### selvedgeref03_alnum: function 26 -/
def selvedgeref03_alnum.f (a0 : Int) : Option (Bool) := if a0 ≥ 48 then (if a0 ≤ 57 then (some true) else (if a0 ≥ 97 then (if a0 ≤ 122 then (some true) else (if a0 ≥ 65 then (some (decide (a0 ≤ 90))) else (some false))) else (if a0 ≥ 65 then (some (decide (a0 ≤ 90))) else (some false)))) else (if a0 ≥ 97 then (if a0 ≤ 122 then (some true) else (if a0 ≥ 65 then (some (decide (a0 ≤ 90))) else (some false))) else (if a0 ≥ 65 then (some (decide (a0 ≤ 90))) else (some false)))
set_option maxHeartbeats 8000000 in
set_option maxRecDepth 100000 in
theorem selvedgeref03_alnum.calls (a0 : Int) (r : Bool) (w : World) (h : selvedgeref03_alnum.f a0 = some r) :
  Calls Tryd.prog 26 #[.int .u8 a0] w fun e w' => e = .returned (.bool r) ∧ Drawn0 w w' := by
 have H : (if a0 ≥ 48 then (if a0 ≤ 57 then (some true) else (if a0 ≥ 97 then (if a0 ≤ 122 then (some true) else (if a0 ≥ 65 then (some (decide (a0 ≤ 90))) else (some false))) else (if a0 ≥ 65 then (some (decide (a0 ≤ 90))) else (some false)))) else (if a0 ≥ 97 then (if a0 ≤ 122 then (some true) else (if a0 ≥ 65 then (some (decide (a0 ≤ 90))) else (some false))) else (if a0 ≥ 65 then (some (decide (a0 ≤ 90))) else (some false)))) = some r := h
 clear h
 by_cases c2 : a0 ≥ 48
 ·rw [if_pos c2] at H
  have c2b0 : decide (48 ≤ a0) = true := decide_eq_true c2
  clear c2
  by_cases c3 : a0 ≤ 57
  ·rw [if_pos c3] at H
   have c3b0 : decide (a0 ≤ 57) = true := decide_eq_true c3
   clear c3
   obtain rfl := Option.some.inj H
   go_enter Tryd.func26, Tryd.ntmps26
   go_wp2
   go_ret
   exact ⟨by first | rfl | (simp; done) | (simp [*]; done), by repeat (first | exact Drawn0.refl _ | apply Drawn0.step)⟩
  ·rw [if_neg c3] at H
   have c3b0 : decide (a0 ≤ 57) = false := decide_eq_false c3
   clear c3
   by_cases c4 : a0 ≥ 97
   ·rw [if_pos c4] at H
    have c4b0 : decide (97 ≤ a0) = true := decide_eq_true c4
    clear c4
    by_cases c5 : a0 ≤ 122
    ·rw [if_pos c5] at H
     have c5b0 : decide (a0 ≤ 122) = true := decide_eq_true c5
     clear c5
     obtain rfl := Option.some.inj H
     go_enter Tryd.func26, Tryd.ntmps26
     go_wp2
     go_ret
     exact ⟨by first | rfl | (simp; done) | (simp [*]; done), by repeat (first | exact Drawn0.refl _ | apply Drawn0.step)⟩
    ·rw [if_neg c5] at H
     have c5b0 : decide (a0 ≤ 122) = false := decide_eq_false c5
     clear c5
     by_cases c6 : a0 ≥ 65
     ·rw [if_pos c6] at H
      have c6b0 : decide (65 ≤ a0) = true := decide_eq_true c6
      clear c6
      obtain rfl := Option.some.inj H
      go_enter Tryd.func26, Tryd.ntmps26
      go_wp2
      go_ret
      exact ⟨by first | rfl | (simp; done) | (simp [*]; done), by repeat (first | exact Drawn0.refl _ | apply Drawn0.step)⟩
     ·rw [if_neg c6] at H
      have c6b0 : decide (65 ≤ a0) = false := decide_eq_false c6
      clear c6
      obtain rfl := Option.some.inj H
      go_enter Tryd.func26, Tryd.ntmps26
      go_wp2
      go_ret
      exact ⟨by first | rfl | (simp; done) | (simp [*]; done), by repeat (first | exact Drawn0.refl _ | apply Drawn0.step)⟩
   ·rw [if_neg c4] at H
    have c4b0 : decide (97 ≤ a0) = false := decide_eq_false c4
    clear c4
    by_cases c7 : a0 ≥ 65
    ·rw [if_pos c7] at H
     have c7b0 : decide (65 ≤ a0) = true := decide_eq_true c7
     clear c7
     obtain rfl := Option.some.inj H
     go_enter Tryd.func26, Tryd.ntmps26
     go_wp2
     go_ret
     exact ⟨by first | rfl | (simp; done) | (simp [*]; done), by repeat (first | exact Drawn0.refl _ | apply Drawn0.step)⟩
    ·rw [if_neg c7] at H
     have c7b0 : decide (65 ≤ a0) = false := decide_eq_false c7
     clear c7
     obtain rfl := Option.some.inj H
     go_enter Tryd.func26, Tryd.ntmps26
     go_wp2
     go_ret
     exact ⟨by first | rfl | (simp; done) | (simp [*]; done), by repeat (first | exact Drawn0.refl _ | apply Drawn0.step)⟩
 ·rw [if_neg c2] at H
  have c2b0 : decide (48 ≤ a0) = false := decide_eq_false c2
  clear c2
  by_cases c8 : a0 ≥ 97
  ·rw [if_pos c8] at H
   have c8b0 : decide (97 ≤ a0) = true := decide_eq_true c8
   clear c8
   by_cases c9 : a0 ≤ 122
   ·rw [if_pos c9] at H
    have c9b0 : decide (a0 ≤ 122) = true := decide_eq_true c9
    clear c9
    obtain rfl := Option.some.inj H
    go_enter Tryd.func26, Tryd.ntmps26
    go_wp2
    go_ret
    exact ⟨by first | rfl | (simp; done) | (simp [*]; done), by repeat (first | exact Drawn0.refl _ | apply Drawn0.step)⟩
   ·rw [if_neg c9] at H
    have c9b0 : decide (a0 ≤ 122) = false := decide_eq_false c9
    clear c9
    by_cases c10 : a0 ≥ 65
    ·rw [if_pos c10] at H
     have c10b0 : decide (65 ≤ a0) = true := decide_eq_true c10
     clear c10
     obtain rfl := Option.some.inj H
     go_enter Tryd.func26, Tryd.ntmps26
     go_wp2
     go_ret
     exact ⟨by first | rfl | (simp; done) | (simp [*]; done), by repeat (first | exact Drawn0.refl _ | apply Drawn0.step)⟩
    ·rw [if_neg c10] at H
     have c10b0 : decide (65 ≤ a0) = false := decide_eq_false c10
     clear c10
     obtain rfl := Option.some.inj H
     go_enter Tryd.func26, Tryd.ntmps26
     go_wp2
     go_ret
     exact ⟨by first | rfl | (simp; done) | (simp [*]; done), by repeat (first | exact Drawn0.refl _ | apply Drawn0.step)⟩
  ·rw [if_neg c8] at H
   have c8b0 : decide (97 ≤ a0) = false := decide_eq_false c8
   clear c8
   by_cases c11 : a0 ≥ 65
   ·rw [if_pos c11] at H
    have c11b0 : decide (65 ≤ a0) = true := decide_eq_true c11
    clear c11
    obtain rfl := Option.some.inj H
    go_enter Tryd.func26, Tryd.ntmps26
    go_wp2
    go_ret
    exact ⟨by first | rfl | (simp; done) | (simp [*]; done), by repeat (first | exact Drawn0.refl _ | apply Drawn0.step)⟩
   ·rw [if_neg c11] at H
    have c11b0 : decide (65 ≤ a0) = false := decide_eq_false c11
    clear c11
    obtain rfl := Option.some.inj H
    go_enter Tryd.func26, Tryd.ntmps26
    go_wp2
    go_ret
    exact ⟨by first | rfl | (simp; done) | (simp [*]; done), by repeat (first | exact Drawn0.refl _ | apply Drawn0.step)⟩

/-! ### selvedgeref03_Find: function 13 -/
def selvedgeref03_Find.l0 : Nat → ByteArray → Bool → List (S26) → ByteArray → Int → Int → Option (Int × Int × Bool)
 | 0, _, _, _, _, _, _ => none
 | k + 1, x0, x1, x10, x11, x12, x13 => if x13 < (x10.length : Int) then (if 0 ≤ x13 then (if 1 + ((rd_T26 x10 x13).f0).size ≤ 9223372036854775807 then ((selvedgeref03_begins.f x0 ((⟨#[38]⟩ : ByteArray) ++ ((rd_T26 x10 x13).f0))).bind fun t150 => (if t150 = true then (if ((⟨#[38]⟩ : ByteArray) ++ ((rd_T26 x10 x13).f0)).size + 1 ≤ 9223372036854775807 then ((selvedgeref03_begins.f x0 (((⟨#[38]⟩ : ByteArray) ++ ((rd_T26 x10 x13).f0)) ++ (⟨#[59]⟩ : ByteArray))).bind fun t151 => (if t151 = true then (if ((((⟨#[38]⟩ : ByteArray) ++ ((rd_T26 x10 x13).f0)) ++ (⟨#[59]⟩ : ByteArray)).size : Int) > (x11.size : Int) then (selvedgeref03_Find.l0 k x0 x1 x10 (((⟨#[38]⟩ : ByteArray) ++ ((rd_T26 x10 x13).f0)) ++ (⟨#[59]⟩ : ByteArray)) ((rd_T26 x10 x13).f1) (wrap64 (x13 + 1))) else (selvedgeref03_Find.l0 k x0 x1 x10 x11 x12 (wrap64 (x13 + 1)))) else (if ((rd_T26 x10 x13).f2 = true) then (if (((⟨#[38]⟩ : ByteArray) ++ ((rd_T26 x10 x13).f0)).size : Int) > (x11.size : Int) then (selvedgeref03_Find.l0 k x0 x1 x10 ((⟨#[38]⟩ : ByteArray) ++ ((rd_T26 x10 x13).f0)) ((rd_T26 x10 x13).f1) (wrap64 (x13 + 1))) else (selvedgeref03_Find.l0 k x0 x1 x10 x11 x12 (wrap64 (x13 + 1)))) else (selvedgeref03_Find.l0 k x0 x1 x10 x11 x12 (wrap64 (x13 + 1)))))) else (none)) else (selvedgeref03_Find.l0 k x0 x1 x10 x11 x12 (wrap64 (x13 + 1))))) else (none)) else (none)) else (if (x11.size : Int) = 0 then (some (0, 0, false)) else (if x1 = true then (if 0 ≤ (wrap64 ((x11.size : Int) - 1)) then (if (wrap64 ((x11.size : Int) - 1)) < (x11.size : Int) then (if (bt x11 (wrap64 ((x11.size : Int) - 1))) = 59 then (some (x12, (x11.size : Int), true)) else (if (x11.size : Int) < (x0.size : Int) then (if 0 ≤ (x11.size : Int) then (if (bt x0 (x11.size : Int)) = 61 then (some (0, 0, false)) else ((selvedgeref03_alnum.f (bt x0 (x11.size : Int))).bind fun t148 => (if t148 = true then (some (0, 0, false)) else (some (x12, (x11.size : Int), true))))) else (none)) else (some (x12, (x11.size : Int), true)))) else (none)) else (none)) else (some (x12, (x11.size : Int), true))))
def selvedgeref03_Find.f (k : Nat) (a0 : ByteArray) (a1 : Bool) : Option (Int × Int × Bool) := (selvedgeref03_begins.f a0 (⟨#[38]⟩ : ByteArray)).bind fun t140 => (if t140 = true then ((selvedgeref03_begins.f a0 (⟨#[38, 35]⟩ : ByteArray)).bind fun t141 => (if t141 = true then (if 2 ≤ (a0.size : Int) then ((selvedgeref03_number.f k (a0.extract 2 a0.size)).bind fun bt142 => (if bt142.2.2 = true then (some (bt142.1, wrap64 (bt142.2.1 + 2), true)) else (some (0, 0, false)))) else (none)) else ((selvedgeref03_Names.f).bind fun t145 => (selvedgeref03_Find.l0 k a0 a1 t145 (⟨#[]⟩ : ByteArray) 0 0)))) else (some (0, 0, false)))
theorem selvedgeref03_Find.mono_l : ∀ k, (∀ y0 y1 y2 y3 y4 y5, LeO (selvedgeref03_Find.l0 k y0 y1 y2 y3 y4 y5) (selvedgeref03_Find.l0 (k + 1) y0 y1 y2 y3 y4 y5))
 | 0 => fun _ _ _ _ _ _ r h => by simp [selvedgeref03_Find.l0] at h
 | k + 1 => by
  have ih0 := selvedgeref03_Find.mono_l k
  ·intro y0 y1 y2 y3 y4 y5
   unfold selvedgeref03_Find.l0
   repeat' first
   | (with_reducible exact ih0 _ _ _ _ _ _)
   | (with_reducible exact selvedgeref03_number.mono _ _)
   | (with_reducible exact LeO.refl _)
   | (with_reducible exact LeO.none _)
   | (with_reducible refine LeO.ite ?_ ?_)
   | (with_reducible refine LeO.bind ?_ (fun _ => ?_))
   | exact ih0 _ _ _ _ _ _
   | exact selvedgeref03_number.mono _ _
   | exact LeO.none _
   | refine LeO.ite ?_ ?_
   | refine LeO.bind ?_ (fun _ => ?_)
theorem selvedgeref03_Find.mono : ∀ a0 a1 k, LeO (selvedgeref03_Find.f k a0 a1) (selvedgeref03_Find.f (k + 1) a0 a1) := by
 intro a0 a1 k
 have ih0 := selvedgeref03_Find.mono_l k
 unfold selvedgeref03_Find.f
 repeat' first
   | (with_reducible exact ih0 _ _ _ _ _ _)
   | (with_reducible exact selvedgeref03_number.mono _ _)
   | (with_reducible exact LeO.refl _)
   | (with_reducible exact LeO.none _)
   | (with_reducible refine LeO.ite ?_ ?_)
   | (with_reducible refine LeO.bind ?_ (fun _ => ?_))
   | exact ih0 _ _ _ _ _ _
   | exact selvedgeref03_number.mono _ _
   | exact LeO.none _
   | refine LeO.ite ?_ ?_
   | refine LeO.bind ?_ (fun _ => ?_)
set_option maxHeartbeats 8000000 in
set_option maxRecDepth 100000 in
theorem selvedgeref03_Find.calls (k : Nat) (a0 : ByteArray) (a1 : Bool) (r1 : Int) (r2 : Int) (r3 : Bool) (w : World) (h : selvedgeref03_Find.f k a0 a1 = some (r1, r2, r3)) :
  Calls Tryd.prog 13 #[.string a0, .bool a1] w fun e w' => e = .returned (.tuple #[.int .i32 r1, .int .i64 r2, .bool r3]) ∧ Below w.heap.size w w' := by
 have HB := Aside0.mk (Below.refl w.heap.size w)
 have H : ((selvedgeref03_begins.f a0 (⟨#[38]⟩ : ByteArray)).bind fun t140 => (if t140 = true then ((selvedgeref03_begins.f a0 (⟨#[38, 35]⟩ : ByteArray)).bind fun t141 => (if t141 = true then (if 2 ≤ (a0.size : Int) then ((selvedgeref03_number.f k (a0.extract 2 a0.size)).bind fun bt142 => (if bt142.2.2 = true then (some (bt142.1, wrap64 (bt142.2.1 + 2), true)) else (some (0, 0, false)))) else (none)) else ((selvedgeref03_Names.f).bind fun t145 => (selvedgeref03_Find.l0 k a0 a1 t145 (⟨#[]⟩ : ByteArray) 0 0)))) else (some (0, 0, false)))) = some (r1, r2, r3) := h
 clear h
 replace H := Option.bind_eq_some_iff.mp H
 obtain ⟨t140, A30, H⟩ := H
 replace H : (if t140 = true then ((selvedgeref03_begins.f a0 (⟨#[38, 35]⟩ : ByteArray)).bind fun t141 => (if t141 = true then (if 2 ≤ (a0.size : Int) then ((selvedgeref03_number.f k (a0.extract 2 a0.size)).bind fun bt142 => (if bt142.2.2 = true then (some (bt142.1, wrap64 (bt142.2.1 + 2), true)) else (some (0, 0, false)))) else (none)) else ((selvedgeref03_Names.f).bind fun t145 => (selvedgeref03_Find.l0 k a0 a1 t145 (⟨#[]⟩ : ByteArray) 0 0)))) else (some (0, 0, false))) = some (r1, r2, r3) := H
 have A3 := Aside0.mk A30
 clear A30
 by_cases c4 : t140 = true
 ·subst c4
  have H1 : ((selvedgeref03_begins.f a0 (⟨#[38, 35]⟩ : ByteArray)).bind fun t141 => (if t141 = true then (if 2 ≤ (a0.size : Int) then ((selvedgeref03_number.f k (a0.extract 2 a0.size)).bind fun bt142 => (if bt142.2.2 = true then (some (bt142.1, wrap64 (bt142.2.1 + 2), true)) else (some (0, 0, false)))) else (none)) else ((selvedgeref03_Names.f).bind fun t145 => (selvedgeref03_Find.l0 k a0 a1 t145 (⟨#[]⟩ : ByteArray) 0 0)))) = some (r1, r2, r3) := by rw [if_pos rfl] at H; exact H
  clear H
  have H := H1
  clear H1
  replace H := Option.bind_eq_some_iff.mp H
  obtain ⟨t141, A50, H⟩ := H
  replace H : (if t141 = true then (if 2 ≤ (a0.size : Int) then ((selvedgeref03_number.f k (a0.extract 2 a0.size)).bind fun bt142 => (if bt142.2.2 = true then (some (bt142.1, wrap64 (bt142.2.1 + 2), true)) else (some (0, 0, false)))) else (none)) else ((selvedgeref03_Names.f).bind fun t145 => (selvedgeref03_Find.l0 k a0 a1 t145 (⟨#[]⟩ : ByteArray) 0 0))) = some (r1, r2, r3) := H
  have A5 := Aside0.mk A50
  clear A50
  by_cases c6 : t141 = true
  ·subst c6
   have H1 : (if 2 ≤ (a0.size : Int) then ((selvedgeref03_number.f k (a0.extract 2 a0.size)).bind fun bt142 => (if bt142.2.2 = true then (some (bt142.1, wrap64 (bt142.2.1 + 2), true)) else (some (0, 0, false)))) else (none)) = some (r1, r2, r3) := by rw [if_pos rfl] at H; exact H
   clear H
   have H := H1
   clear H1
   by_cases c7 : 2 ≤ (a0.size : Int)
   ·rw [if_pos c7] at H
    have c7b0 := eq_true c7
    have c7b1 : decide (2 ≤ (a0.size : Int)) = true := decide_eq_true c7
    clear c7
    replace H := Option.bind_eq_some_iff.mp H
    obtain ⟨⟨t142, t143, t144⟩, A80, H⟩ := H
    replace H : (if t144 = true then (some (t142, wrap64 (t143 + 2), true)) else (some (0, 0, false))) = some (r1, r2, r3) := H
    have A8 := Aside0.mk A80
    clear A80
    by_cases c9 : t144 = true
    ·subst c9
     have H1 : (some (t142, wrap64 (t143 + 2), true)) = some (r1, r2, r3) := by rw [if_pos rfl] at H; exact H
     clear H
     have H := H1
     clear H1
     simp only [Option.some.injEq, Prod.mk.injEq] at H
     obtain ⟨rfl, rfl, rfl⟩ := H
     go_enter Tryd.func13, Tryd.ntmps13
     go_wp2_with (first | ((with_reducible refine gate_callee (f := 24) rfl ?_); refine goesL_ (some 17) rfl rfl Tryd.func24 (by kernel_rfl) rfl #[.string a0, .string (⟨#[38]⟩ : ByteArray)] rfl (by (try simp only [List.map_toArray, List.map_cons, List.map_nil]); first | done | rfl | (simp only [List.length_drop, List.length_take]; rfl)) ?_; (with_reducible refine (selvedgeref03_begins.calls a0 (⟨#[38]⟩ : ByteArray) true _ A3.out).mono ?_); rintro e w' ⟨rfl, ⟨nd, rfl⟩⟩; refine ⟨_, rfl, ?_⟩) | ((with_reducible refine gate_callee (f := 24) rfl ?_); refine goesL_ (some 20) rfl rfl Tryd.func24 (by kernel_rfl) rfl #[.string a0, .string (⟨#[38, 35]⟩ : ByteArray)] rfl (by (try simp only [List.map_toArray, List.map_cons, List.map_nil]); first | done | rfl | (simp only [List.length_drop, List.length_take]; rfl)) ?_; (with_reducible refine (selvedgeref03_begins.calls a0 (⟨#[38, 35]⟩ : ByteArray) true _ A5.out).mono ?_); rintro e w' ⟨rfl, ⟨nd, rfl⟩⟩; refine ⟨_, rfl, ?_⟩) | ((with_reducible refine gate_callee (f := 25) rfl ?_); refine goesL_ (some 24) rfl rfl Tryd.func25 (by kernel_rfl) rfl #[.string (a0.extract 2 a0.size)] rfl (by (try simp only [List.map_toArray, List.map_cons, List.map_nil]); first | done | rfl | (simp only [List.length_drop, List.length_take]; rfl)) ?_; (with_reducible refine (selvedgeref03_number.calls k (a0.extract 2 a0.size) t142 t143 true _ A8.out).mono ?_); rintro e w10 ⟨rfl, hb⟩; refine ⟨_, rfl, ?_⟩; have n0_ := Aside0.mk (below_step (mvB HB) hb); clear HB; have HB := n0_; clear n0_; (try clear hb); (try clear hb2); (try clear hk); (try clear hi)))
     go_ret3
     exact ⟨by first | rfl | (simp [errW_none, errW_some] <;> rfl) | (simp [*, errW_none, errW_some] <;> rfl), mvB HB⟩
    ·replace c9 := Bool.eq_false_iff.mpr c9
     subst c9
     have H1 : (some (0, 0, false)) = some (r1, r2, r3) := by rw [if_neg (show ¬ (false = true) by decide)] at H; exact H
     clear H
     have H := H1
     clear H1
     simp only [Option.some.injEq, Prod.mk.injEq] at H
     obtain ⟨rfl, rfl, rfl⟩ := H
     go_enter Tryd.func13, Tryd.ntmps13
     go_wp2_with (first | ((with_reducible refine gate_callee (f := 24) rfl ?_); refine goesL_ (some 17) rfl rfl Tryd.func24 (by kernel_rfl) rfl #[.string a0, .string (⟨#[38]⟩ : ByteArray)] rfl (by (try simp only [List.map_toArray, List.map_cons, List.map_nil]); first | done | rfl | (simp only [List.length_drop, List.length_take]; rfl)) ?_; (with_reducible refine (selvedgeref03_begins.calls a0 (⟨#[38]⟩ : ByteArray) true _ A3.out).mono ?_); rintro e w' ⟨rfl, ⟨nd, rfl⟩⟩; refine ⟨_, rfl, ?_⟩) | ((with_reducible refine gate_callee (f := 24) rfl ?_); refine goesL_ (some 20) rfl rfl Tryd.func24 (by kernel_rfl) rfl #[.string a0, .string (⟨#[38, 35]⟩ : ByteArray)] rfl (by (try simp only [List.map_toArray, List.map_cons, List.map_nil]); first | done | rfl | (simp only [List.length_drop, List.length_take]; rfl)) ?_; (with_reducible refine (selvedgeref03_begins.calls a0 (⟨#[38, 35]⟩ : ByteArray) true _ A5.out).mono ?_); rintro e w' ⟨rfl, ⟨nd, rfl⟩⟩; refine ⟨_, rfl, ?_⟩) | ((with_reducible refine gate_callee (f := 25) rfl ?_); refine goesL_ (some 24) rfl rfl Tryd.func25 (by kernel_rfl) rfl #[.string (a0.extract 2 a0.size)] rfl (by (try simp only [List.map_toArray, List.map_cons, List.map_nil]); first | done | rfl | (simp only [List.length_drop, List.length_take]; rfl)) ?_; (with_reducible refine (selvedgeref03_number.calls k (a0.extract 2 a0.size) t142 t143 false _ A8.out).mono ?_); rintro e w11 ⟨rfl, hb⟩; refine ⟨_, rfl, ?_⟩; have n0_ := Aside0.mk (below_step (mvB HB) hb); clear HB; have HB := n0_; clear n0_; (try clear hb); (try clear hb2); (try clear hk); (try clear hi)))
     go_ret3
     exact ⟨by first | rfl | (simp [errW_none, errW_some] <;> rfl) | (simp [*, errW_none, errW_some] <;> rfl), mvB HB⟩
   ·rw [if_neg c7] at H
    exact absurd H (by simp)
  ·replace c6 := Bool.eq_false_iff.mpr c6
   subst c6
   have H1 : ((selvedgeref03_Names.f).bind fun t145 => (selvedgeref03_Find.l0 k a0 a1 t145 (⟨#[]⟩ : ByteArray) 0 0)) = some (r1, r2, r3) := by rw [if_neg (show ¬ (false = true) by decide)] at H; exact H
   clear H
   have H := H1
   clear H1
   replace H := Option.bind_eq_some_iff.mp H
   obtain ⟨t145, A120, H⟩ := H
   replace H : (selvedgeref03_Find.l0 k a0 a1 t145 (⟨#[]⟩ : ByteArray) 0 0) = some (r1, r2, r3) := H
   have A12 := Aside0.mk A120
   clear A120
   have H' := Aside0.mk H
   clear H
   go_enter Tryd.func13, Tryd.ntmps13
   go_wp2_with (first | ((with_reducible refine gate_callee (f := 24) rfl ?_); refine goesL_ (some 17) rfl rfl Tryd.func24 (by kernel_rfl) rfl #[.string a0, .string (⟨#[38]⟩ : ByteArray)] rfl (by (try simp only [List.map_toArray, List.map_cons, List.map_nil]); first | done | rfl | (simp only [List.length_drop, List.length_take]; rfl)) ?_; (with_reducible refine (selvedgeref03_begins.calls a0 (⟨#[38]⟩ : ByteArray) true _ A3.out).mono ?_); rintro e w' ⟨rfl, ⟨nd, rfl⟩⟩; refine ⟨_, rfl, ?_⟩) | ((with_reducible refine gate_callee (f := 24) rfl ?_); refine goesL_ (some 20) rfl rfl Tryd.func24 (by kernel_rfl) rfl #[.string a0, .string (⟨#[38, 35]⟩ : ByteArray)] rfl (by (try simp only [List.map_toArray, List.map_cons, List.map_nil]); first | done | rfl | (simp only [List.length_drop, List.length_take]; rfl)) ?_; (with_reducible refine (selvedgeref03_begins.calls a0 (⟨#[38, 35]⟩ : ByteArray) false _ A5.out).mono ?_); rintro e w' ⟨rfl, ⟨nd, rfl⟩⟩; refine ⟨_, rfl, ?_⟩) | ((with_reducible refine gate_callee (f := 11) rfl ?_); refine goesL_ (some 33) rfl rfl Tryd.func11 (by kernel_rfl) rfl #[] rfl (by (try simp only [List.map_toArray, List.map_cons, List.map_nil]); first | done | rfl | (simp only [List.length_drop, List.length_take]; rfl)) ?_; (with_reducible refine (selvedgeref03_Names.calls  t145 _ A12.out).mono ?_); rintro e w13 ⟨v146, rfl, ho0, hb⟩; refine ⟨_, rfl, ?_⟩; have n0_ := Aside0.mk (Kd.R_lower ho0 (below_size (mvB HB))); have n1_ := Aside0.mk (below_step (mvB HB) hb); clear HB; have HO147 := n0_; have HB := n1_; clear n0_ n1_; (try clear hb); (try clear hb2); (try clear hk); (try clear hi); (try clear ho0)))
   go_loopg [11, 12, 13] k (fun kq v11 v12 v13 w' => ∃ (x11_1 : ByteArray) (x12_1 : Int) (x13_1 : Int), v11 = .string x11_1 ∧ v12 = .int .i32 x12_1 ∧ v13 = .int .i64 x13_1 ∧ Aside0 (selvedgeref03_Find.l0 kq a0 a1 t145 x11_1 x12_1 x13_1 = some (r1, r2, r3)) ∧ Aside0 (kq ≤ k) ∧ Aside0 (Kd.R k26 26 w' w.heap.size (fun _ => True) v146 t145) ∧ Aside0 (Below w.heap.size w w'))
   case atStart => exact ⟨((⟨#[]⟩ : ByteArray)), (0), (0), (by first | rfl | (simp; done) | (simp [*]; done)), (by first | rfl | (simp; done) | (simp [*]; done)), (by first | rfl | (simp; done) | (simp [*]; done)), H', ⟨Nat.le_refl _⟩, ⟨mvR HO147⟩, ⟨mvB HB⟩⟩
   case round =>
    clear H'
    try clear c1
    try clear c2
    try clear p2
    try clear c4
    try clear c6
    try clear p6
    try clear c7
    try clear c7b0
    try clear c7b1
    try clear c9
    try clear c11
    try clear c13
    obtain ⟨x11_1, x12_1, x13_1, rfl, rfl, rfl, HA, HK1, HO_10, HB⟩ := hrel
    cases gk with
    | zero => exact absurd HA.out (by simp [selvedgeref03_Find.l0])
    | succ k1 =>
     have H := HA.out
     clear HA
     simp only [selvedgeref03_Find.l0] at H
     by_cases c14 : x13_1 < (t145.length : Int)
     ·rw [if_pos c14] at H
      have c14b0 : decide (x13_1 < (t145.length : Int)) = true := decide_eq_true c14
      clear c14
      by_cases c15 : 0 ≤ x13_1
      ·rw [if_pos c15] at H
       have c15b0 : decide (0 ≤ x13_1) = true := decide_eq_true c15
       clear c15
       by_cases c16 : 1 + ((rd_T26 t145 x13_1).f0).size ≤ 9223372036854775807
       ·rw [if_pos c16] at H
        have c16b0 := eq_true c16
        have c16b1 : decide (1 + ((rd_T26 t145 x13_1).f0).size ≤ 9223372036854775807) = true := decide_eq_true c16
        try have c16b2 : (9223372036854775807 < 1 + ((rd_T26 t145 x13_1).f0).size) = False := eq_false (Nat.not_lt.2 c16)
        obtain ⟨yy0, hyy0⟩ : ∃ y_ : ByteArray, (⟨#[38]⟩ : ByteArray) ++ ((rd_T26 t145 x13_1).f0) = y_ := ⟨_, rfl⟩
        rw [hyy0] at H
        obtain ⟨yy1, hyy1⟩ : ∃ y_ : ByteArray, yy0 ++ (⟨#[59]⟩ : ByteArray) = y_ := ⟨_, rfl⟩
        rw [hyy1] at H
        replace H := Option.bind_eq_some_iff.mp H
        obtain ⟨t150, A170, H⟩ := H
        replace H : (if t150 = true then (if yy0.size + 1 ≤ 9223372036854775807 then ((selvedgeref03_begins.f a0 yy1).bind fun t151 => (if t151 = true then (if (yy1.size : Int) > (x11_1.size : Int) then (selvedgeref03_Find.l0 k1 a0 a1 t145 yy1 ((rd_T26 t145 x13_1).f1) (wrap64 (x13_1 + 1))) else (selvedgeref03_Find.l0 k1 a0 a1 t145 x11_1 x12_1 (wrap64 (x13_1 + 1)))) else (if ((rd_T26 t145 x13_1).f2 = true) then (if (yy0.size : Int) > (x11_1.size : Int) then (selvedgeref03_Find.l0 k1 a0 a1 t145 yy0 ((rd_T26 t145 x13_1).f1) (wrap64 (x13_1 + 1))) else (selvedgeref03_Find.l0 k1 a0 a1 t145 x11_1 x12_1 (wrap64 (x13_1 + 1)))) else (selvedgeref03_Find.l0 k1 a0 a1 t145 x11_1 x12_1 (wrap64 (x13_1 + 1)))))) else (none)) else (selvedgeref03_Find.l0 k1 a0 a1 t145 x11_1 x12_1 (wrap64 (x13_1 + 1)))) = some (r1, r2, r3) := H
        have A17 := Aside0.mk A170
        clear A170
        by_cases c18 : t150 = true
        ·subst c18
         have H1 : (if yy0.size + 1 ≤ 9223372036854775807 then ((selvedgeref03_begins.f a0 yy1).bind fun t151 => (if t151 = true then (if (yy1.size : Int) > (x11_1.size : Int) then (selvedgeref03_Find.l0 k1 a0 a1 t145 yy1 ((rd_T26 t145 x13_1).f1) (wrap64 (x13_1 + 1))) else (selvedgeref03_Find.l0 k1 a0 a1 t145 x11_1 x12_1 (wrap64 (x13_1 + 1)))) else (if ((rd_T26 t145 x13_1).f2 = true) then (if (yy0.size : Int) > (x11_1.size : Int) then (selvedgeref03_Find.l0 k1 a0 a1 t145 yy0 ((rd_T26 t145 x13_1).f1) (wrap64 (x13_1 + 1))) else (selvedgeref03_Find.l0 k1 a0 a1 t145 x11_1 x12_1 (wrap64 (x13_1 + 1)))) else (selvedgeref03_Find.l0 k1 a0 a1 t145 x11_1 x12_1 (wrap64 (x13_1 + 1)))))) else (none)) = some (r1, r2, r3) := by rw [if_pos rfl] at H; exact H
         clear H
         have H := H1
         clear H1
         by_cases c19 : yy0.size + 1 ≤ 9223372036854775807
         ·rw [if_pos c19] at H
          have c19b0 := eq_true c19
          have c19b1 : decide (yy0.size + 1 ≤ 9223372036854775807) = true := decide_eq_true c19
          try have c19b2 : (9223372036854775807 < yy0.size + 1) = False := eq_false (Nat.not_lt.2 c19)
          replace H := Option.bind_eq_some_iff.mp H
          obtain ⟨t151, A200, H⟩ := H
          replace H : (if t151 = true then (if (yy1.size : Int) > (x11_1.size : Int) then (selvedgeref03_Find.l0 k1 a0 a1 t145 yy1 ((rd_T26 t145 x13_1).f1) (wrap64 (x13_1 + 1))) else (selvedgeref03_Find.l0 k1 a0 a1 t145 x11_1 x12_1 (wrap64 (x13_1 + 1)))) else (if ((rd_T26 t145 x13_1).f2 = true) then (if (yy0.size : Int) > (x11_1.size : Int) then (selvedgeref03_Find.l0 k1 a0 a1 t145 yy0 ((rd_T26 t145 x13_1).f1) (wrap64 (x13_1 + 1))) else (selvedgeref03_Find.l0 k1 a0 a1 t145 x11_1 x12_1 (wrap64 (x13_1 + 1)))) else (selvedgeref03_Find.l0 k1 a0 a1 t145 x11_1 x12_1 (wrap64 (x13_1 + 1))))) = some (r1, r2, r3) := H
          have A20 := Aside0.mk A200
          clear A200
          by_cases c21 : t151 = true
          ·subst c21
           have H1 : (if (yy1.size : Int) > (x11_1.size : Int) then (selvedgeref03_Find.l0 k1 a0 a1 t145 yy1 ((rd_T26 t145 x13_1).f1) (wrap64 (x13_1 + 1))) else (selvedgeref03_Find.l0 k1 a0 a1 t145 x11_1 x12_1 (wrap64 (x13_1 + 1)))) = some (r1, r2, r3) := by rw [if_pos rfl] at H; exact H
           clear H
           have H := H1
           clear H1
           by_cases c22 : (yy1.size : Int) > (x11_1.size : Int)
           ·rw [if_pos c22] at H
            have c22b0 : decide ((x11_1.size : Int) < (yy1.size : Int)) = true := decide_eq_true c22
            have c22b1 : decide (x11_1.size < yy1.size) = true := decide_eq_true (Int.ofNat_lt.mp c22)
            clear c22
            have H' := Aside0.mk H
            clear H
            obtain ⟨Ao23, co23, eo23⟩ := Kd.R_slice HO_10.out
            subst eo23
            have p149 := dT (0 ≤ (x13_1 : Int))
            have q149 := dT (x13_1 < (t145.length : Int))
            obtain ⟨ad149, e149, hx149_0, hx149_1, hx149_2⟩ := at_T26 (Kd.R_reads' HO_10.out).2.2 x13_1 p149 q149
            cases e149
            replace p149 := eq_true p149
            replace q149 := eq_true q149
            go_wp2_with (first | ((with_reducible refine gate_callee (f := 24) rfl ?_); refine goesL_ (some 48) rfl rfl Tryd.func24 (by kernel_rfl) rfl #[.string a0, .string yy0] rfl (by (try simp only [List.map_toArray, List.map_cons, List.map_nil]); first | done | rfl | (simp only [List.length_drop, List.length_take]; rfl)) ?_; (with_reducible refine (selvedgeref03_begins.calls a0 yy0 true _ A17.out).mono ?_); rintro e w' ⟨rfl, ⟨nd, rfl⟩⟩; refine ⟨_, rfl, ?_⟩) | ((with_reducible refine gate_callee (f := 24) rfl ?_); refine goesL_ (some 53) rfl rfl Tryd.func24 (by kernel_rfl) rfl #[.string a0, .string yy1] rfl (by (try simp only [List.map_toArray, List.map_cons, List.map_nil]); first | done | rfl | (simp only [List.length_drop, List.length_take]; rfl)) ?_; (with_reducible refine (selvedgeref03_begins.calls a0 yy1 true _ A20.out).mono ?_); rintro e w' ⟨rfl, ⟨nd, rfl⟩⟩; refine ⟨_, rfl, ?_⟩; have p152 := dT (0 ≤ (x13_1 : Int)); have q152 := dT (x13_1 < (t145.length : Int)); obtain ⟨ad152, e152, hx152_0, hx152_1, hx152_2⟩ := at_T26 (Kd.R_reads' HO_10.out).2.2 x13_1 p152 q152; obtain rfl : ad149 = ad152 := (by injection e152); replace p152 := eq_true p152; replace q152 := eq_true q152))
            go_roundg k1
            case measure => have := HK1.out; omega
            case rel => exact ⟨yy1, ((rd_T26 t145 x13_1).f1), (wrap64 (x13_1 + 1)), (by first | rfl | (simp; done) | (simp [*]; done)), (by first | rfl | (simp; done) | (simp [*]; done)), (by first | rfl | (simp; done) | (simp [*]; done)), H', ⟨by have := HK1.out; omega⟩, ⟨mvR HO_10⟩, ⟨mvB HB⟩⟩
           ·rw [if_neg c22] at H
            have c22b0 : decide ((x11_1.size : Int) < (yy1.size : Int)) = false := decide_eq_false c22
            have c22b1 : decide (x11_1.size < yy1.size) = false := decide_eq_false (fun h => c22 (Int.ofNat_lt.mpr h))
            clear c22
            have H' := Aside0.mk H
            clear H
            obtain ⟨Ao24, co24, eo24⟩ := Kd.R_slice HO_10.out
            subst eo24
            have p149 := dT (0 ≤ (x13_1 : Int))
            have q149 := dT (x13_1 < (t145.length : Int))
            obtain ⟨ad149, e149, hx149_0, hx149_1, hx149_2⟩ := at_T26 (Kd.R_reads' HO_10.out).2.2 x13_1 p149 q149
            cases e149
            replace p149 := eq_true p149
            replace q149 := eq_true q149
            go_wp2_with (first | ((with_reducible refine gate_callee (f := 24) rfl ?_); refine goesL_ (some 48) rfl rfl Tryd.func24 (by kernel_rfl) rfl #[.string a0, .string yy0] rfl (by (try simp only [List.map_toArray, List.map_cons, List.map_nil]); first | done | rfl | (simp only [List.length_drop, List.length_take]; rfl)) ?_; (with_reducible refine (selvedgeref03_begins.calls a0 yy0 true _ A17.out).mono ?_); rintro e w' ⟨rfl, ⟨nd, rfl⟩⟩; refine ⟨_, rfl, ?_⟩) | ((with_reducible refine gate_callee (f := 24) rfl ?_); refine goesL_ (some 53) rfl rfl Tryd.func24 (by kernel_rfl) rfl #[.string a0, .string yy1] rfl (by (try simp only [List.map_toArray, List.map_cons, List.map_nil]); first | done | rfl | (simp only [List.length_drop, List.length_take]; rfl)) ?_; (with_reducible refine (selvedgeref03_begins.calls a0 yy1 true _ A20.out).mono ?_); rintro e w' ⟨rfl, ⟨nd, rfl⟩⟩; refine ⟨_, rfl, ?_⟩))
            go_roundg k1
            case measure => have := HK1.out; omega
            case rel => exact ⟨(x11_1), (x12_1), (wrap64 (x13_1 + 1)), (by first | rfl | (simp; done) | (simp [*]; done)), (by first | rfl | (simp; done) | (simp [*]; done)), (by first | rfl | (simp; done) | (simp [*]; done)), H', ⟨by have := HK1.out; omega⟩, ⟨mvR HO_10⟩, ⟨mvB HB⟩⟩
          ·replace c21 := Bool.eq_false_iff.mpr c21
           subst c21
           have H1 : (if ((rd_T26 t145 x13_1).f2 = true) then (if (yy0.size : Int) > (x11_1.size : Int) then (selvedgeref03_Find.l0 k1 a0 a1 t145 yy0 ((rd_T26 t145 x13_1).f1) (wrap64 (x13_1 + 1))) else (selvedgeref03_Find.l0 k1 a0 a1 t145 x11_1 x12_1 (wrap64 (x13_1 + 1)))) else (selvedgeref03_Find.l0 k1 a0 a1 t145 x11_1 x12_1 (wrap64 (x13_1 + 1)))) = some (r1, r2, r3) := by rw [if_neg (show ¬ (false = true) by decide)] at H; exact H
           clear H
           have H := H1
           clear H1
           obtain ⟨bq25, hbq25⟩ : ∃ b_ : Bool, b_ = ((rd_T26 t145 x13_1).f2) := ⟨_, rfl⟩
           replace H : (if (bq25 = true) then (if (yy0.size : Int) > (x11_1.size : Int) then (selvedgeref03_Find.l0 k1 a0 a1 t145 yy0 ((rd_T26 t145 x13_1).f1) (wrap64 (x13_1 + 1))) else (selvedgeref03_Find.l0 k1 a0 a1 t145 x11_1 x12_1 (wrap64 (x13_1 + 1)))) else (selvedgeref03_Find.l0 k1 a0 a1 t145 x11_1 x12_1 (wrap64 (x13_1 + 1)))) = some (r1, r2, r3) := by rw [← hbq25] at H; exact H
           have Nbq25 := Aside0.mk hbq25
           clear hbq25
           by_cases c26 : (bq25 = true)
           ·subst c26
            have H1 : (if (yy0.size : Int) > (x11_1.size : Int) then (selvedgeref03_Find.l0 k1 a0 a1 t145 yy0 ((rd_T26 t145 x13_1).f1) (wrap64 (x13_1 + 1))) else (selvedgeref03_Find.l0 k1 a0 a1 t145 x11_1 x12_1 (wrap64 (x13_1 + 1)))) = some (r1, r2, r3) := by rw [if_pos rfl] at H; exact H
            clear H
            have H := H1
            clear H1
            by_cases c27 : (yy0.size : Int) > (x11_1.size : Int)
            ·rw [if_pos c27] at H
             have c27b0 : decide ((x11_1.size : Int) < (yy0.size : Int)) = true := decide_eq_true c27
             have c27b1 : decide (x11_1.size < yy0.size) = true := decide_eq_true (Int.ofNat_lt.mp c27)
             clear c27
             have H' := Aside0.mk H
             clear H
             obtain ⟨Ao28, co28, eo28⟩ := Kd.R_slice HO_10.out
             subst eo28
             have p149 := dT (0 ≤ (x13_1 : Int))
             have q149 := dT (x13_1 < (t145.length : Int))
             obtain ⟨ad149, e149, hx149_0, hx149_1, hx149_2⟩ := at_T26 (Kd.R_reads' HO_10.out).2.2 x13_1 p149 q149
             (try rw [← Nbq25.out] at hx149_2)
             cases e149
             replace p149 := eq_true p149
             replace q149 := eq_true q149
             go_wp2_with (first | ((with_reducible refine gate_callee (f := 24) rfl ?_); refine goesL_ (some 48) rfl rfl Tryd.func24 (by kernel_rfl) rfl #[.string a0, .string yy0] rfl (by (try simp only [List.map_toArray, List.map_cons, List.map_nil]); first | done | rfl | (simp only [List.length_drop, List.length_take]; rfl)) ?_; (with_reducible refine (selvedgeref03_begins.calls a0 yy0 true _ A17.out).mono ?_); rintro e w' ⟨rfl, ⟨nd, rfl⟩⟩; refine ⟨_, rfl, ?_⟩) | ((with_reducible refine gate_callee (f := 24) rfl ?_); refine goesL_ (some 53) rfl rfl Tryd.func24 (by kernel_rfl) rfl #[.string a0, .string yy1] rfl (by (try simp only [List.map_toArray, List.map_cons, List.map_nil]); first | done | rfl | (simp only [List.length_drop, List.length_take]; rfl)) ?_; (with_reducible refine (selvedgeref03_begins.calls a0 yy1 false _ A20.out).mono ?_); rintro e w' ⟨rfl, ⟨nd, rfl⟩⟩; refine ⟨_, rfl, ?_⟩; have p153 := dT (0 ≤ (x13_1 : Int)); have q153 := dT (x13_1 < (t145.length : Int)); obtain ⟨ad153, e153, hx153_0, hx153_1, hx153_2⟩ := at_T26 (Kd.R_reads' HO_10.out).2.2 x13_1 p153 q153; (try rw [← Nbq25.out] at hx153_2); obtain rfl : ad149 = ad153 := (by injection e153); replace p153 := eq_true p153; replace q153 := eq_true q153; have p154 := dT (0 ≤ (x13_1 : Int)); have q154 := dT (x13_1 < (t145.length : Int)); obtain ⟨ad154, e154, hx154_0, hx154_1, hx154_2⟩ := at_T26 (Kd.R_reads' HO_10.out).2.2 x13_1 p154 q154; (try rw [← Nbq25.out] at hx154_2); obtain rfl : ad149 = ad154 := (by injection e154); replace p154 := eq_true p154; replace q154 := eq_true q154))
             go_roundg k1
             case measure => have := HK1.out; omega
             case rel => exact ⟨yy0, ((rd_T26 t145 x13_1).f1), (wrap64 (x13_1 + 1)), (by first | rfl | (simp; done) | (simp [*]; done)), (by first | rfl | (simp; done) | (simp [*]; done)), (by first | rfl | (simp; done) | (simp [*]; done)), H', ⟨by have := HK1.out; omega⟩, ⟨mvR HO_10⟩, ⟨mvB HB⟩⟩
            ·rw [if_neg c27] at H
             have c27b0 : decide ((x11_1.size : Int) < (yy0.size : Int)) = false := decide_eq_false c27
             have c27b1 : decide (x11_1.size < yy0.size) = false := decide_eq_false (fun h => c27 (Int.ofNat_lt.mpr h))
             clear c27
             have H' := Aside0.mk H
             clear H
             obtain ⟨Ao29, co29, eo29⟩ := Kd.R_slice HO_10.out
             subst eo29
             have p149 := dT (0 ≤ (x13_1 : Int))
             have q149 := dT (x13_1 < (t145.length : Int))
             obtain ⟨ad149, e149, hx149_0, hx149_1, hx149_2⟩ := at_T26 (Kd.R_reads' HO_10.out).2.2 x13_1 p149 q149
             (try rw [← Nbq25.out] at hx149_2)
             cases e149
             replace p149 := eq_true p149
             replace q149 := eq_true q149
             go_wp2_with (first | ((with_reducible refine gate_callee (f := 24) rfl ?_); refine goesL_ (some 48) rfl rfl Tryd.func24 (by kernel_rfl) rfl #[.string a0, .string yy0] rfl (by (try simp only [List.map_toArray, List.map_cons, List.map_nil]); first | done | rfl | (simp only [List.length_drop, List.length_take]; rfl)) ?_; (with_reducible refine (selvedgeref03_begins.calls a0 yy0 true _ A17.out).mono ?_); rintro e w' ⟨rfl, ⟨nd, rfl⟩⟩; refine ⟨_, rfl, ?_⟩) | ((with_reducible refine gate_callee (f := 24) rfl ?_); refine goesL_ (some 53) rfl rfl Tryd.func24 (by kernel_rfl) rfl #[.string a0, .string yy1] rfl (by (try simp only [List.map_toArray, List.map_cons, List.map_nil]); first | done | rfl | (simp only [List.length_drop, List.length_take]; rfl)) ?_; (with_reducible refine (selvedgeref03_begins.calls a0 yy1 false _ A20.out).mono ?_); rintro e w' ⟨rfl, ⟨nd, rfl⟩⟩; refine ⟨_, rfl, ?_⟩; have p153 := dT (0 ≤ (x13_1 : Int)); have q153 := dT (x13_1 < (t145.length : Int)); obtain ⟨ad153, e153, hx153_0, hx153_1, hx153_2⟩ := at_T26 (Kd.R_reads' HO_10.out).2.2 x13_1 p153 q153; (try rw [← Nbq25.out] at hx153_2); obtain rfl : ad149 = ad153 := (by injection e153); replace p153 := eq_true p153; replace q153 := eq_true q153))
             go_roundg k1
             case measure => have := HK1.out; omega
             case rel => exact ⟨(x11_1), (x12_1), (wrap64 (x13_1 + 1)), (by first | rfl | (simp; done) | (simp [*]; done)), (by first | rfl | (simp; done) | (simp [*]; done)), (by first | rfl | (simp; done) | (simp [*]; done)), H', ⟨by have := HK1.out; omega⟩, ⟨mvR HO_10⟩, ⟨mvB HB⟩⟩
           ·replace c26 := Bool.eq_false_iff.mpr c26
            subst c26
            have H1 : (selvedgeref03_Find.l0 k1 a0 a1 t145 x11_1 x12_1 (wrap64 (x13_1 + 1))) = some (r1, r2, r3) := by rw [if_neg (show ¬ (false = true) by decide)] at H; exact H
            clear H
            have H := H1
            clear H1
            have H' := Aside0.mk H
            clear H
            obtain ⟨Ao30, co30, eo30⟩ := Kd.R_slice HO_10.out
            subst eo30
            have p149 := dT (0 ≤ (x13_1 : Int))
            have q149 := dT (x13_1 < (t145.length : Int))
            obtain ⟨ad149, e149, hx149_0, hx149_1, hx149_2⟩ := at_T26 (Kd.R_reads' HO_10.out).2.2 x13_1 p149 q149
            (try rw [← Nbq25.out] at hx149_2)
            cases e149
            replace p149 := eq_true p149
            replace q149 := eq_true q149
            go_wp2_with (first | ((with_reducible refine gate_callee (f := 24) rfl ?_); refine goesL_ (some 48) rfl rfl Tryd.func24 (by kernel_rfl) rfl #[.string a0, .string yy0] rfl (by (try simp only [List.map_toArray, List.map_cons, List.map_nil]); first | done | rfl | (simp only [List.length_drop, List.length_take]; rfl)) ?_; (with_reducible refine (selvedgeref03_begins.calls a0 yy0 true _ A17.out).mono ?_); rintro e w' ⟨rfl, ⟨nd, rfl⟩⟩; refine ⟨_, rfl, ?_⟩) | ((with_reducible refine gate_callee (f := 24) rfl ?_); refine goesL_ (some 53) rfl rfl Tryd.func24 (by kernel_rfl) rfl #[.string a0, .string yy1] rfl (by (try simp only [List.map_toArray, List.map_cons, List.map_nil]); first | done | rfl | (simp only [List.length_drop, List.length_take]; rfl)) ?_; (with_reducible refine (selvedgeref03_begins.calls a0 yy1 false _ A20.out).mono ?_); rintro e w' ⟨rfl, ⟨nd, rfl⟩⟩; refine ⟨_, rfl, ?_⟩; have p153 := dT (0 ≤ (x13_1 : Int)); have q153 := dT (x13_1 < (t145.length : Int)); obtain ⟨ad153, e153, hx153_0, hx153_1, hx153_2⟩ := at_T26 (Kd.R_reads' HO_10.out).2.2 x13_1 p153 q153; (try rw [← Nbq25.out] at hx153_2); obtain rfl : ad149 = ad153 := (by injection e153); replace p153 := eq_true p153; replace q153 := eq_true q153))
            go_roundg k1
            case measure => have := HK1.out; omega
            case rel => exact ⟨(x11_1), (x12_1), (wrap64 (x13_1 + 1)), (by first | rfl | (simp; done) | (simp [*]; done)), (by first | rfl | (simp; done) | (simp [*]; done)), (by first | rfl | (simp; done) | (simp [*]; done)), H', ⟨by have := HK1.out; omega⟩, ⟨mvR HO_10⟩, ⟨mvB HB⟩⟩
         ·rw [if_neg c19] at H
          exact absurd H (by simp)
        ·replace c18 := Bool.eq_false_iff.mpr c18
         subst c18
         have H1 : (selvedgeref03_Find.l0 k1 a0 a1 t145 x11_1 x12_1 (wrap64 (x13_1 + 1))) = some (r1, r2, r3) := by rw [if_neg (show ¬ (false = true) by decide)] at H; exact H
         clear H
         have H := H1
         clear H1
         have H' := Aside0.mk H
         clear H
         obtain ⟨Ao31, co31, eo31⟩ := Kd.R_slice HO_10.out
         subst eo31
         have p149 := dT (0 ≤ (x13_1 : Int))
         have q149 := dT (x13_1 < (t145.length : Int))
         obtain ⟨ad149, e149, hx149_0, hx149_1, hx149_2⟩ := at_T26 (Kd.R_reads' HO_10.out).2.2 x13_1 p149 q149
         cases e149
         replace p149 := eq_true p149
         replace q149 := eq_true q149
         go_wp2_with (first | ((with_reducible refine gate_callee (f := 24) rfl ?_); refine goesL_ (some 48) rfl rfl Tryd.func24 (by kernel_rfl) rfl #[.string a0, .string yy0] rfl (by (try simp only [List.map_toArray, List.map_cons, List.map_nil]); first | done | rfl | (simp only [List.length_drop, List.length_take]; rfl)) ?_; (with_reducible refine (selvedgeref03_begins.calls a0 yy0 false _ A17.out).mono ?_); rintro e w' ⟨rfl, ⟨nd, rfl⟩⟩; refine ⟨_, rfl, ?_⟩))
         go_roundg k1
         case measure => have := HK1.out; omega
         case rel => exact ⟨(x11_1), (x12_1), (wrap64 (x13_1 + 1)), (by first | rfl | (simp; done) | (simp [*]; done)), (by first | rfl | (simp; done) | (simp [*]; done)), (by first | rfl | (simp; done) | (simp [*]; done)), H', ⟨by have := HK1.out; omega⟩, ⟨mvR HO_10⟩, ⟨mvB HB⟩⟩
       ·rw [if_neg c16] at H
        exact absurd H (by simp)
      ·rw [if_neg c15] at H
       exact absurd H (by simp)
     ·rw [if_neg c14] at H
      have c14b0 : decide (x13_1 < (t145.length : Int)) = false := decide_eq_false c14
      clear c14
      by_cases c32 : (x11_1.size : Int) = 0
      ·rw [if_pos c32] at H
       have c32b0 : ((x11_1.size : Int) == 0) = true := beq_iff_eq.mpr c32
       have c32b1 : ((x11_1.size : Int) != 0) = false := bne_eq_false_iff_eq.mpr c32
       clear c32
       simp only [Option.some.injEq, Prod.mk.injEq] at H
       obtain ⟨rfl, rfl, rfl⟩ := H
       obtain ⟨Ao33, co33, eo33⟩ := Kd.R_slice HO_10.out
       subst eo33
       go_wp2
       go_ret3
       exact ⟨by first | rfl | (simp [errW_none, errW_some] <;> rfl) | (simp [*, errW_none, errW_some] <;> rfl), mvB HB⟩
      ·rw [if_neg c32] at H
       have c32b0 : ((x11_1.size : Int) == 0) = false := beq_eq_false_iff_ne.mpr c32
       have c32b1 : ((x11_1.size : Int) != 0) = true := bne_iff_ne.mpr c32
       by_cases c34 : a1 = true
       ·subst c34
        have H1 : (if 0 ≤ (wrap64 ((x11_1.size : Int) - 1)) then (if (wrap64 ((x11_1.size : Int) - 1)) < (x11_1.size : Int) then (if (bt x11_1 (wrap64 ((x11_1.size : Int) - 1))) = 59 then (some (x12_1, (x11_1.size : Int), true)) else (if (x11_1.size : Int) < (a0.size : Int) then (if 0 ≤ (x11_1.size : Int) then (if (bt a0 (x11_1.size : Int)) = 61 then (some (0, 0, false)) else ((selvedgeref03_alnum.f (bt a0 (x11_1.size : Int))).bind fun t148 => (if t148 = true then (some (0, 0, false)) else (some (x12_1, (x11_1.size : Int), true))))) else (none)) else (some (x12_1, (x11_1.size : Int), true)))) else (none)) else (none)) = some (r1, r2, r3) := by rw [if_pos rfl] at H; exact H
        clear H
        have H := H1
        clear H1
        obtain ⟨ji35, hji35⟩ : ∃ j_ : Int, (wrap64 ((x11_1.size : Int) - 1)) = j_ := ⟨_, rfl⟩
        replace H : (if 0 ≤ (ji35) then (if (ji35) < (x11_1.size : Int) then (if (bt x11_1 (ji35)) = 59 then (some (x12_1, (x11_1.size : Int), true)) else (if (x11_1.size : Int) < (a0.size : Int) then (if 0 ≤ (x11_1.size : Int) then (if (bt a0 (x11_1.size : Int)) = 61 then (some (0, 0, false)) else ((selvedgeref03_alnum.f (bt a0 (x11_1.size : Int))).bind fun t148 => (if t148 = true then (some (0, 0, false)) else (some (x12_1, (x11_1.size : Int), true))))) else (none)) else (some (x12_1, (x11_1.size : Int), true)))) else (none)) else (none)) = some (r1, r2, r3) := by first | (rw [hji35] at H; exact H) | (simp only [hji35] at H ⊢; exact H)
        have hji35w : (IntKind.i64.wrap ((x11_1.size : Int) - 1)) = ji35 := (i64_w _).trans hji35
        by_cases c36 : 0 ≤ (ji35)
        ·rw [if_pos c36] at H
         have c36b0 : decide (0 ≤ (ji35)) = true := decide_eq_true c36
         clear c36
         by_cases c37 : (ji35) < (x11_1.size : Int)
         ·rw [if_pos c37] at H
          have c37b0 : decide ((ji35) < (x11_1.size : Int)) = true := decide_eq_true c37
          clear c37
          by_cases c39 : (bt x11_1 (ji35)) = 59
          ·rw [if_pos c39] at H
           have c39b0 : ((bt x11_1 (ji35)) == 59) = true := beq_iff_eq.mpr c39
           have c39b1 : ((bt x11_1 (ji35)) != 59) = false := bne_eq_false_iff_eq.mpr c39
           clear c39
           simp only [Option.some.injEq, Prod.mk.injEq] at H
           obtain ⟨rfl, rfl, rfl⟩ := H
           obtain ⟨Ao40, co40, eo40⟩ := Kd.R_slice HO_10.out
           subst eo40
           have p38 := dT (0 ≤ ((ji35) : Int))
           have q38 := dT ((ji35) < (x11_1.size : Int))
           have hx38 := bt_at x11_1 (ji35)
           replace p38 := eq_true p38
           replace q38 := eq_true q38
           go_wp2
           go_ret3
           exact ⟨by first | rfl | (simp [errW_none, errW_some] <;> rfl) | (simp only [← hji35]; first | rfl | (simp [errW_none, errW_some] <;> rfl)) | (simp [*, errW_none, errW_some] <;> rfl), mvB HB⟩
          ·rw [if_neg c39] at H
           have c39b0 : ((bt x11_1 (ji35)) == 59) = false := beq_eq_false_iff_ne.mpr c39
           have c39b1 : ((bt x11_1 (ji35)) != 59) = true := bne_iff_ne.mpr c39
           by_cases c41 : (x11_1.size : Int) < (a0.size : Int)
           ·rw [if_pos c41] at H
            have c41b0 : decide ((x11_1.size : Int) < (a0.size : Int)) = true := decide_eq_true c41
            have c41b1 : decide (x11_1.size < a0.size) = true := decide_eq_true (Int.ofNat_lt.mp c41)
            clear c41
            by_cases c42 : 0 ≤ (x11_1.size : Int)
            ·rw [if_pos c42] at H
             have c42b0 : decide (0 ≤ (x11_1.size : Int)) = true := decide_eq_true c42
             have c42b1 : decide (0 ≤ x11_1.size) = true := decide_eq_true (by omega)
             clear c42
             by_cases c44 : (bt a0 (x11_1.size : Int)) = 61
             ·rw [if_pos c44] at H
              have c44b0 : ((bt a0 (x11_1.size : Int)) == 61) = true := beq_iff_eq.mpr c44
              have c44b1 : ((bt a0 (x11_1.size : Int)) != 61) = false := bne_eq_false_iff_eq.mpr c44
              clear c44
              simp only [Option.some.injEq, Prod.mk.injEq] at H
              obtain ⟨rfl, rfl, rfl⟩ := H
              obtain ⟨Ao45, co45, eo45⟩ := Kd.R_slice HO_10.out
              subst eo45
              have p38 := dT (0 ≤ ((ji35) : Int))
              have q38 := dT ((ji35) < (x11_1.size : Int))
              have hx38 := bt_at x11_1 (ji35)
              replace p38 := eq_true p38
              replace q38 := eq_true q38
              have p43 : 0 ≤ ((x11_1.size : Int) : Int) := of_decide_eq_true (by first | (with_reducible assumption) | assumption)
              have q43 : (x11_1.size : Int) < (a0.size : Int) := of_decide_eq_true (by first | (with_reducible assumption) | assumption)
              have hx43 := bt_at a0 (x11_1.size : Int)
              have hx43n : ∀ h : x11_1.size < a0.size, ((a0[x11_1.size]'h).toNat : Int) = bt a0 (x11_1.size : Int) := bt_at a0 (x11_1.size : Int)
              have q43n : (x11_1.size < a0.size) = True := eq_true (Int.ofNat_lt.mp q43)
              replace p43 := eq_true p43
              replace q43 := eq_true q43
              go_wp2
              go_ret3
              exact ⟨by first | rfl | (simp [errW_none, errW_some] <;> rfl) | (simp only [← hji35]; first | rfl | (simp [errW_none, errW_some] <;> rfl)) | (simp [*, errW_none, errW_some] <;> rfl), mvB HB⟩
             ·rw [if_neg c44] at H
              have c44b0 : ((bt a0 (x11_1.size : Int)) == 61) = false := beq_eq_false_iff_ne.mpr c44
              have c44b1 : ((bt a0 (x11_1.size : Int)) != 61) = true := bne_iff_ne.mpr c44
              replace H := Option.bind_eq_some_iff.mp H
              obtain ⟨t148, A470, H⟩ := H
              replace H : (if t148 = true then (some (0, 0, false)) else (some (x12_1, (x11_1.size : Int), true))) = some (r1, r2, r3) := H
              have A47 := Aside0.mk A470
              clear A470
              by_cases c48 : t148 = true
              ·subst c48
               have H1 : (some (0, 0, false)) = some (r1, r2, r3) := by rw [if_pos rfl] at H; exact H
               clear H
               have H := H1
               clear H1
               simp only [Option.some.injEq, Prod.mk.injEq] at H
               obtain ⟨rfl, rfl, rfl⟩ := H
               obtain ⟨Ao49, co49, eo49⟩ := Kd.R_slice HO_10.out
               subst eo49
               have p38 := dT (0 ≤ ((ji35) : Int))
               have q38 := dT ((ji35) < (x11_1.size : Int))
               have hx38 := bt_at x11_1 (ji35)
               replace p38 := eq_true p38
               replace q38 := eq_true q38
               have p43 : 0 ≤ ((x11_1.size : Int) : Int) := of_decide_eq_true (by first | (with_reducible assumption) | assumption)
               have q43 : (x11_1.size : Int) < (a0.size : Int) := of_decide_eq_true (by first | (with_reducible assumption) | assumption)
               have hx43 := bt_at a0 (x11_1.size : Int)
               have hx43n : ∀ h : x11_1.size < a0.size, ((a0[x11_1.size]'h).toNat : Int) = bt a0 (x11_1.size : Int) := bt_at a0 (x11_1.size : Int)
               have q43n : (x11_1.size < a0.size) = True := eq_true (Int.ofNat_lt.mp q43)
               replace p43 := eq_true p43
               replace q43 := eq_true q43
               have p46 : 0 ≤ ((x11_1.size : Int) : Int) := of_decide_eq_true (by first | (with_reducible assumption) | assumption)
               have q46 : (x11_1.size : Int) < (a0.size : Int) := of_decide_eq_true (by first | (with_reducible assumption) | assumption)
               have hx46 := bt_at a0 (x11_1.size : Int)
               have hx46n : ∀ h : x11_1.size < a0.size, ((a0[x11_1.size]'h).toNat : Int) = bt a0 (x11_1.size : Int) := bt_at a0 (x11_1.size : Int)
               have q46n : (x11_1.size < a0.size) = True := eq_true (Int.ofNat_lt.mp q46)
               replace p46 := eq_true p46
               replace q46 := eq_true q46
               go_wp2_with (first | (go_at_call 26; (with_reducible refine (selvedgeref03_alnum.calls (bt a0 (x11_1.size : Int)) true _ A47.out).mono ?_); rintro e w' ⟨rfl, ⟨nd, rfl⟩⟩))
               go_ret3
               exact ⟨by first | rfl | (simp [errW_none, errW_some] <;> rfl) | (simp only [← hji35]; first | rfl | (simp [errW_none, errW_some] <;> rfl)) | (simp [*, errW_none, errW_some] <;> rfl), mvB HB⟩
              ·replace c48 := Bool.eq_false_iff.mpr c48
               subst c48
               have H1 : (some (x12_1, (x11_1.size : Int), true)) = some (r1, r2, r3) := by rw [if_neg (show ¬ (false = true) by decide)] at H; exact H
               clear H
               have H := H1
               clear H1
               simp only [Option.some.injEq, Prod.mk.injEq] at H
               obtain ⟨rfl, rfl, rfl⟩ := H
               obtain ⟨Ao50, co50, eo50⟩ := Kd.R_slice HO_10.out
               subst eo50
               have p38 := dT (0 ≤ ((ji35) : Int))
               have q38 := dT ((ji35) < (x11_1.size : Int))
               have hx38 := bt_at x11_1 (ji35)
               replace p38 := eq_true p38
               replace q38 := eq_true q38
               have p43 : 0 ≤ ((x11_1.size : Int) : Int) := of_decide_eq_true (by first | (with_reducible assumption) | assumption)
               have q43 : (x11_1.size : Int) < (a0.size : Int) := of_decide_eq_true (by first | (with_reducible assumption) | assumption)
               have hx43 := bt_at a0 (x11_1.size : Int)
               have hx43n : ∀ h : x11_1.size < a0.size, ((a0[x11_1.size]'h).toNat : Int) = bt a0 (x11_1.size : Int) := bt_at a0 (x11_1.size : Int)
               have q43n : (x11_1.size < a0.size) = True := eq_true (Int.ofNat_lt.mp q43)
               replace p43 := eq_true p43
               replace q43 := eq_true q43
               have p46 : 0 ≤ ((x11_1.size : Int) : Int) := of_decide_eq_true (by first | (with_reducible assumption) | assumption)
               have q46 : (x11_1.size : Int) < (a0.size : Int) := of_decide_eq_true (by first | (with_reducible assumption) | assumption)
               have hx46 := bt_at a0 (x11_1.size : Int)
               have hx46n : ∀ h : x11_1.size < a0.size, ((a0[x11_1.size]'h).toNat : Int) = bt a0 (x11_1.size : Int) := bt_at a0 (x11_1.size : Int)
               have q46n : (x11_1.size < a0.size) = True := eq_true (Int.ofNat_lt.mp q46)
               replace p46 := eq_true p46
               replace q46 := eq_true q46
               go_wp2_with (first | (go_at_call 26; (with_reducible refine (selvedgeref03_alnum.calls (bt a0 (x11_1.size : Int)) false _ A47.out).mono ?_); rintro e w' ⟨rfl, ⟨nd, rfl⟩⟩))
               go_ret3
               exact ⟨by first | rfl | (simp [errW_none, errW_some] <;> rfl) | (simp only [← hji35]; first | rfl | (simp [errW_none, errW_some] <;> rfl)) | (simp [*, errW_none, errW_some] <;> rfl), mvB HB⟩
            ·rw [if_neg c42] at H
             exact absurd H (by simp)
           ·rw [if_neg c41] at H
            have c41b0 : decide ((x11_1.size : Int) < (a0.size : Int)) = false := decide_eq_false c41
            have c41b1 : decide (x11_1.size < a0.size) = false := decide_eq_false (fun h => c41 (Int.ofNat_lt.mpr h))
            clear c41
            simp only [Option.some.injEq, Prod.mk.injEq] at H
            obtain ⟨rfl, rfl, rfl⟩ := H
            obtain ⟨Ao51, co51, eo51⟩ := Kd.R_slice HO_10.out
            subst eo51
            have p38 := dT (0 ≤ ((ji35) : Int))
            have q38 := dT ((ji35) < (x11_1.size : Int))
            have hx38 := bt_at x11_1 (ji35)
            replace p38 := eq_true p38
            replace q38 := eq_true q38
            go_wp2
            go_ret3
            exact ⟨by first | rfl | (simp [errW_none, errW_some] <;> rfl) | (simp only [← hji35]; first | rfl | (simp [errW_none, errW_some] <;> rfl)) | (simp [*, errW_none, errW_some] <;> rfl), mvB HB⟩
         ·rw [if_neg c37] at H
          exact absurd H (by simp)
        ·rw [if_neg c36] at H
         exact absurd H (by simp)
       ·replace c34 := Bool.eq_false_iff.mpr c34
        subst c34
        have H1 : (some (x12_1, (x11_1.size : Int), true)) = some (r1, r2, r3) := by rw [if_neg (show ¬ (false = true) by decide)] at H; exact H
        clear H
        have H := H1
        clear H1
        simp only [Option.some.injEq, Prod.mk.injEq] at H
        obtain ⟨rfl, rfl, rfl⟩ := H
        obtain ⟨Ao52, co52, eo52⟩ := Kd.R_slice HO_10.out
        subst eo52
        go_wp2
        go_ret3
        exact ⟨by first | rfl | (simp [errW_none, errW_some] <;> rfl) | (simp [*, errW_none, errW_some] <;> rfl), mvB HB⟩
 ·replace c4 := Bool.eq_false_iff.mpr c4
  subst c4
  have H1 : (some (0, 0, false)) = some (r1, r2, r3) := by rw [if_neg (show ¬ (false = true) by decide)] at H; exact H
  clear H
  have H := H1
  clear H1
  simp only [Option.some.injEq, Prod.mk.injEq] at H
  obtain ⟨rfl, rfl, rfl⟩ := H
  go_enter Tryd.func13, Tryd.ntmps13
  go_wp2_with (first | ((with_reducible refine gate_callee (f := 24) rfl ?_); refine goesL_ (some 17) rfl rfl Tryd.func24 (by kernel_rfl) rfl #[.string a0, .string (⟨#[38]⟩ : ByteArray)] rfl (by (try simp only [List.map_toArray, List.map_cons, List.map_nil]); first | done | rfl | (simp only [List.length_drop, List.length_take]; rfl)) ?_; (with_reducible refine (selvedgeref03_begins.calls a0 (⟨#[38]⟩ : ByteArray) false _ A3.out).mono ?_); rintro e w' ⟨rfl, ⟨nd, rfl⟩⟩; refine ⟨_, rfl, ?_⟩))
  go_ret3
  exact ⟨by first | rfl | (simp [errW_none, errW_some] <;> rfl) | (simp [*, errW_none, errW_some] <;> rfl), mvB HB⟩

end Go.Proofs.YtaohghcmlohngaaDoor.X
