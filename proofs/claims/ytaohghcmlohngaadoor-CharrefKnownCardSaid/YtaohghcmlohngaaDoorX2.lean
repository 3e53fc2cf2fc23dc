-- by xprint.py: the kit's printer over texts of this session
import Derived.Test.YtaohghcmlohngaaDoorX0
import Derived.Test.YtaohghcmlohngaaDoorX1
import Derived.Test.YtaohghcmlohngaaDoorT1
import Derived.Test.YtaohghcmlohngaaDoorT2
namespace Go.Proofs.YtaohghcmlohngaaDoor.X
open Go.RowKit Go.Proofs.YtaohghcmlohngaaDoorW.PrintWords Go.Proofs.YtaohghcmlohngaaDoorW.PrintLast Go.Proofs.YtaohghcmlohngaaDoorW.PrintMore
attribute [local go_sem] max2_int min2_int max_two min_two max_three min_three max_four min_four   -- for this text's walks alone
set_option linter.unusedVariables false
set_option linter.unusedSimpArgs false

/-! ### charref_number: function 19 -/
mutual
def charref_number.j0 : Nat → ByteArray → ByteArray → Int → Bool → Option (Int × Int × Bool)
 | 0, _, _, _, _ => none
 | k + 1, x0, x5, x6, x17 => if x17 = true then (if 1 ≤ (x0.size : Int) then (charref_number.j1 k x0 (x0.extract 1 x0.size) 16) else (none)) else (charref_number.j1 k x0 x5 x6)
def charref_number.j1 : Nat → ByteArray → ByteArray → Int → Option (Int × Int × Bool)
 | 0, _, _, _ => none
 | k + 1, x0, x5, x6 => charref_number.l0 k x0 x5 x6 0 0
def charref_number.j3 : Nat → ByteArray → ByteArray → Int → Int → Option (Int × Int × Bool)
 | 0, _, _, _, _ => none
 | k + 1, x0, x5, x7, x8 => if x7 = 0 then (some (0, 0, false)) else (if 0 ≤ x7 then (if x7 ≤ (x5.size : Int) then ((strings_CutPrefix.f (x5.extract (x7 : Int).toNat x5.size) (⟨#[59]⟩ : ByteArray)).bind fun bt107 => (if x8 = 0 then (charref_number.j4 k x0 bt107.1 x8 true) else ((utf8_ValidRune.f k x8).bind fun t109 => (charref_number.j4 k x0 bt107.1 x8 (!t109))))) else (none)) else (none))
def charref_number.j4 : Nat → ByteArray → ByteArray → Int → Bool → Option (Int × Int × Bool)
 | 0, _, _, _, _ => none
 | k + 1, x0, x5, x8, x52 => if x52 = true then (some (65533, wrap64 ((x0.size : Int) - (x5.size : Int)), true)) else (if x8 ≥ 128 then (if x8 ≤ 159 then ((charref_othersAt.f (wrap32 (x8 - 128))).bind fun t110 => (if t110 = 0 then (some (x8, wrap64 ((x0.size : Int) - (x5.size : Int)), true)) else ((charref_othersAt.f (wrap32 (x8 - 128))).bind fun t111 => (some (t111, wrap64 ((x0.size : Int) - (x5.size : Int)), true))))) else (some (x8, wrap64 ((x0.size : Int) - (x5.size : Int)), true))) else (some (x8, wrap64 ((x0.size : Int) - (x5.size : Int)), true)))
def charref_number.l0 : Nat → ByteArray → ByteArray → Int → Int → Int → Option (Int × Int × Bool)
 | 0, _, _, _, _, _ => none
 | k + 1, x0, x5, x6, x7, x8 => if x7 < (x5.size : Int) then (if 0 ≤ x7 then ((charref_digit.f k (bt x5 x7)).bind fun t105 => (if t105 < x6 then ((charref_digit.f k (bt x5 x7)).bind fun t106 => (charref_number.l0 k x0 x5 x6 (wrap64 (x7 + 1)) (mn (wrap32 ((wrap32 (x8 * x6)) + t106)) 1114112))) else (charref_number.j3 k x0 x5 x7 x8))) else (none)) else (charref_number.j3 k x0 x5 x7 x8)
end
def charref_number.f (k : Nat) (a0 : ByteArray) : Option (Int × Int × Bool) := if a0.toList = ([] : List UInt8) then (charref_number.j0 k a0 a0 10 false) else (if 0 < (a0.size : Int) then (charref_number.j0 k a0 a0 10 ((Go.bits .or .u8 (bt a0 0) 32) == 120)) else (none))
theorem charref_number.mono_l : ∀ k, (∀ y0 y1 y2 y3, LeO (charref_number.j0 k y0 y1 y2 y3) (charref_number.j0 (k + 1) y0 y1 y2 y3)) ∧ (∀ y0 y1 y2, LeO (charref_number.j1 k y0 y1 y2) (charref_number.j1 (k + 1) y0 y1 y2)) ∧ (∀ y0 y1 y2 y3, LeO (charref_number.j3 k y0 y1 y2 y3) (charref_number.j3 (k + 1) y0 y1 y2 y3)) ∧ (∀ y0 y1 y2 y3, LeO (charref_number.j4 k y0 y1 y2 y3) (charref_number.j4 (k + 1) y0 y1 y2 y3)) ∧ (∀ y0 y1 y2 y3 y4, LeO (charref_number.l0 k y0 y1 y2 y3 y4) (charref_number.l0 (k + 1) y0 y1 y2 y3 y4))
 | 0 => ⟨fun _ _ _ _ r h => by simp [charref_number.j0] at h, fun _ _ _ r h => by simp [charref_number.j1] at h, fun _ _ _ _ r h => by simp [charref_number.j3] at h, fun _ _ _ _ r h => by simp [charref_number.j4] at h, fun _ _ _ _ _ r h => by simp [charref_number.l0] at h⟩
 | k + 1 => by
  obtain ⟨ih0, ih1, ih2, ih3, ih4⟩ := charref_number.mono_l k
  refine ⟨?_, ?_, ?_, ?_, ?_⟩
  ·intro y0 y1 y2 y3
   unfold charref_number.j0
   repeat' first
   | (with_reducible exact ih0 _ _ _ _)
   | (with_reducible exact ih1 _ _ _)
   | (with_reducible exact ih2 _ _ _ _)
   | (with_reducible exact ih3 _ _ _ _)
   | (with_reducible exact ih4 _ _ _ _ _)
   | (with_reducible exact charref_digit.mono _ _)
   | (with_reducible exact utf8_ValidRune.mono _ _)
   | (with_reducible exact LeO.refl _)
   | (with_reducible exact LeO.none _)
   | (with_reducible refine LeO.ite ?_ ?_)
   | (with_reducible refine LeO.bind ?_ (fun _ => ?_))
   | exact ih0 _ _ _ _
   | exact ih1 _ _ _
   | exact ih2 _ _ _ _
   | exact ih3 _ _ _ _
   | exact ih4 _ _ _ _ _
   | exact charref_digit.mono _ _
   | exact utf8_ValidRune.mono _ _
   | exact LeO.none _
   | refine LeO.ite ?_ ?_
   | refine LeO.bind ?_ (fun _ => ?_)
  ·intro y0 y1 y2
   unfold charref_number.j1
   repeat' first
   | (with_reducible exact ih0 _ _ _ _)
   | (with_reducible exact ih1 _ _ _)
   | (with_reducible exact ih2 _ _ _ _)
   | (with_reducible exact ih3 _ _ _ _)
   | (with_reducible exact ih4 _ _ _ _ _)
   | (with_reducible exact charref_digit.mono _ _)
   | (with_reducible exact utf8_ValidRune.mono _ _)
   | (with_reducible exact LeO.refl _)
   | (with_reducible exact LeO.none _)
   | (with_reducible refine LeO.ite ?_ ?_)
   | (with_reducible refine LeO.bind ?_ (fun _ => ?_))
   | exact ih0 _ _ _ _
   | exact ih1 _ _ _
   | exact ih2 _ _ _ _
   | exact ih3 _ _ _ _
   | exact ih4 _ _ _ _ _
   | exact charref_digit.mono _ _
   | exact utf8_ValidRune.mono _ _
   | exact LeO.none _
   | refine LeO.ite ?_ ?_
   | refine LeO.bind ?_ (fun _ => ?_)
  ·intro y0 y1 y2 y3
   unfold charref_number.j3
   repeat' first
   | (with_reducible exact ih0 _ _ _ _)
   | (with_reducible exact ih1 _ _ _)
   | (with_reducible exact ih2 _ _ _ _)
   | (with_reducible exact ih3 _ _ _ _)
   | (with_reducible exact ih4 _ _ _ _ _)
   | (with_reducible exact charref_digit.mono _ _)
   | (with_reducible exact utf8_ValidRune.mono _ _)
   | (with_reducible exact LeO.refl _)
   | (with_reducible exact LeO.none _)
   | (with_reducible refine LeO.ite ?_ ?_)
   | (with_reducible refine LeO.bind ?_ (fun _ => ?_))
   | exact ih0 _ _ _ _
   | exact ih1 _ _ _
   | exact ih2 _ _ _ _
   | exact ih3 _ _ _ _
   | exact ih4 _ _ _ _ _
   | exact charref_digit.mono _ _
   | exact utf8_ValidRune.mono _ _
   | exact LeO.none _
   | refine LeO.ite ?_ ?_
   | refine LeO.bind ?_ (fun _ => ?_)
  ·intro y0 y1 y2 y3
   unfold charref_number.j4
   repeat' first
   | (with_reducible exact ih0 _ _ _ _)
   | (with_reducible exact ih1 _ _ _)
   | (with_reducible exact ih2 _ _ _ _)
   | (with_reducible exact ih3 _ _ _ _)
   | (with_reducible exact ih4 _ _ _ _ _)
   | (with_reducible exact charref_digit.mono _ _)
   | (with_reducible exact utf8_ValidRune.mono _ _)
   | (with_reducible exact LeO.refl _)
   | (with_reducible exact LeO.none _)
   | (with_reducible refine LeO.ite ?_ ?_)
   | (with_reducible refine LeO.bind ?_ (fun _ => ?_))
   | exact ih0 _ _ _ _
   | exact ih1 _ _ _
   | exact ih2 _ _ _ _
   | exact ih3 _ _ _ _
   | exact ih4 _ _ _ _ _
   | exact charref_digit.mono _ _
   | exact utf8_ValidRune.mono _ _
   | exact LeO.none _
   | refine LeO.ite ?_ ?_
   | refine LeO.bind ?_ (fun _ => ?_)
  ·intro y0 y1 y2 y3 y4
   unfold charref_number.l0
   repeat' first
   | (with_reducible exact ih0 _ _ _ _)
   | (with_reducible exact ih1 _ _ _)
   | (with_reducible exact ih2 _ _ _ _)
   | (with_reducible exact ih3 _ _ _ _)
   | (with_reducible exact ih4 _ _ _ _ _)
   | (with_reducible exact charref_digit.mono _ _)
   | (with_reducible exact utf8_ValidRune.mono _ _)
   | (with_reducible exact LeO.refl _)
   | (with_reducible exact LeO.none _)
   | (with_reducible refine LeO.ite ?_ ?_)
   | (with_reducible refine LeO.bind ?_ (fun _ => ?_))
   | exact ih0 _ _ _ _
   | exact ih1 _ _ _
   | exact ih2 _ _ _ _
   | exact ih3 _ _ _ _
   | exact ih4 _ _ _ _ _
   | exact charref_digit.mono _ _
   | exact utf8_ValidRune.mono _ _
   | exact LeO.none _
   | refine LeO.ite ?_ ?_
   | refine LeO.bind ?_ (fun _ => ?_)
theorem charref_number.mono : ∀ a0 k, LeO (charref_number.f k a0) (charref_number.f (k + 1) a0) := by
 intro a0 k
 obtain ⟨ih0, ih1, ih2, ih3, ih4⟩ := charref_number.mono_l k
 unfold charref_number.f
 repeat' first
   | (with_reducible exact ih0 _ _ _ _)
   | (with_reducible exact ih1 _ _ _)
   | (with_reducible exact ih2 _ _ _ _)
   | (with_reducible exact ih3 _ _ _ _)
   | (with_reducible exact ih4 _ _ _ _ _)
   | (with_reducible exact charref_digit.mono _ _)
   | (with_reducible exact utf8_ValidRune.mono _ _)
   | (with_reducible exact LeO.refl _)
   | (with_reducible exact LeO.none _)
   | (with_reducible refine LeO.ite ?_ ?_)
   | (with_reducible refine LeO.bind ?_ (fun _ => ?_))
   | exact ih0 _ _ _ _
   | exact ih1 _ _ _
   | exact ih2 _ _ _ _
   | exact ih3 _ _ _ _
   | exact ih4 _ _ _ _ _
   | exact charref_digit.mono _ _
   | exact utf8_ValidRune.mono _ _
   | exact LeO.none _
   | refine LeO.ite ?_ ?_
   | refine LeO.bind ?_ (fun _ => ?_)
set_option maxHeartbeats 8000000 in
set_option maxRecDepth 100000 in
theorem charref_number.calls (k : Nat) (a0 : ByteArray) (r1 : Int) (r2 : Int) (r3 : Bool) (w : World) (h : charref_number.f k a0 = some (r1, r2, r3)) (hT : Tabs w) :
  Calls Tryd.prog 19 #[.string a0] w fun e w' => e = .returned (.tuple #[.int .i32 r1, .int .i64 r2, .bool r3]) ∧ Below w.heap.size w w' := by
 have HT := Aside0.mk hT
 clear hT
 have HB := Aside0.mk (Below.refl w.heap.size w)
 have H : (if a0.toList = ([] : List UInt8) then (charref_number.j0 k a0 a0 10 false) else (if 0 < (a0.size : Int) then (charref_number.j0 k a0 a0 10 ((Go.bits .or .u8 (bt a0 0) 32) == 120)) else (none))) = some (r1, r2, r3) := h
 clear h
 have HC2 := Aside0.mk H
 clear H
 go_enter Tryd.func19, Tryd.ntmps19
 go_upto_region 2 with (fail)
 go_cut [17] (fun v17 wc => ∃ (kq : Nat) (x17_1 : Bool), v17 = .bool x17_1 ∧ Aside0 (charref_number.j0 kq a0 a0 10 x17_1 = some (r1, r2, r3)) ∧ Aside0 (kq ≤ k) ∧ Aside0 (Below w.heap.size w wc))
 case first =>
  have H := HC2.out
  clear HC2
  by_cases c3 : a0.toList = ([] : List UInt8)
  ·rw [if_pos c3] at H
   have c3b0 : (a0.toList == ([] : List UInt8)) = true := beq_iff_eq.mpr c3
   have c3b1 : (a0.toList != ([] : List UInt8)) = false := bne_eq_false_iff_eq.mpr c3
   clear c3
   (first | rw [c3b0] | (simp only [i64_w, i32_w]; rw [c3b0]) | skip)
   have H' := Aside0.mk H
   clear H
   go_wp2
   go_meet
   case rel => exact ⟨_, (false), (by first | rfl | (simp; done) | (simp [*]; done)), H', ⟨by first | omega | exact Nat.le_refl _⟩, ⟨mvB HB⟩⟩
  ·rw [if_neg c3] at H
   have c3b0 : (a0.toList == ([] : List UInt8)) = false := beq_eq_false_iff_ne.mpr c3
   have c3b1 : (a0.toList != ([] : List UInt8)) = true := bne_iff_ne.mpr c3
   (first | rw [c3b0] | (simp only [i64_w, i32_w]; rw [c3b0]) | skip)
   by_cases c4 : 0 < (a0.size : Int)
   ·rw [if_pos c4] at H
    have c4b0 : decide (0 < (a0.size : Int)) = true := decide_eq_true c4
    have c4b1 : decide (0 < a0.size) = true := decide_eq_true (by omega)
    clear c4
    have H' := Aside0.mk H
    clear H
    have p5 : 0 ≤ (0 : Int) := (by omega)
    have q5 : 0 < a0.size := (by have : (0 : Int) < (a0.size : Int) := of_decide_eq_true (by first | (with_reducible assumption) | assumption); omega)
    have hx5 : ∀ h : 0 < a0.size, ((a0[0]'h).toNat : Int) = bt a0 0 := bt_at a0 0
    clear p5
    have qi5 : (0 < (a0.size : Int)) = True := eq_true (of_decide_eq_true (by first | (with_reducible assumption) | assumption))
    replace q5 := eq_true q5
    go_wp2
    go_meet
    case rel => exact ⟨_, (((Go.bits .or .u8 (bt a0 0) 32) == 120)), (by first | rfl | (simp; done) | (simp [*]; done)), H', ⟨by first | omega | exact Nat.le_refl _⟩, ⟨mvB HB⟩⟩
   ·rw [if_neg c4] at H
    exact absurd H (by simp)
 case rest =>
  clear HC2
  try clear c1
  try clear p2
  try clear c3
  try clear c3b0
  try clear c3b1
  try clear c4
  try clear c4b0
  try clear c4b1
  try clear p5
  try clear q5
  try clear hx5
  try clear qi5
  try clear p5
  try clear q5
  obtain ⟨kq, x17_1, rfl, HA, HJ1, HB⟩ := hcut
  cases kq with
  | zero => exact absurd HA.out (by simp [charref_number.j0])
  | succ kj1 =>
   have H := HA.out
   clear HA
   simp only [charref_number.j0] at H
   have HC6 := Aside0.mk H
   clear H
   go_upto_if 17 with (fail)
   go_cut [5, 6] (fun v5 v6 wc => ∃ (kq : Nat) (x5_5 : ByteArray) (x6_5 : Int), v5 = .string x5_5 ∧ v6 = .int .i32 x6_5 ∧ Aside0 (charref_number.j1 kq a0 x5_5 x6_5 = some (r1, r2, r3)) ∧ Aside0 (kq ≤ kj1) ∧ Aside0 (Below w.heap.size w wc))
   case first =>
    have H := HC6.out
    clear HC6
    by_cases c7 : x17_1 = true
    ·subst c7
     have H1 : (if 1 ≤ (a0.size : Int) then (charref_number.j1 kj1 a0 (a0.extract 1 a0.size) 16) else (none)) = some (r1, r2, r3) := by rw [if_pos rfl] at H; exact H
     clear H
     have H := H1
     clear H1
     by_cases c8 : 1 ≤ (a0.size : Int)
     ·rw [if_pos c8] at H
      have c8b0 := eq_true c8
      have c8b1 : decide (1 ≤ (a0.size : Int)) = true := decide_eq_true c8
      clear c8
      have H' := Aside0.mk H
      clear H
      go_wp2
      go_meet
      case rel => exact ⟨_, (a0.extract 1 a0.size), (16), (by first | rfl | (simp; done) | (simp [*]; done)), (by first | rfl | (simp; done) | (simp [*]; done)), H', ⟨by have := HJ1.out; first | omega | exact Nat.le_refl _⟩, ⟨mvB HB⟩⟩
     ·rw [if_neg c8] at H
      exact absurd H (by simp)
    ·replace c7 := Bool.eq_false_iff.mpr c7
     subst c7
     have H1 : (charref_number.j1 kj1 a0 a0 10) = some (r1, r2, r3) := by rw [if_neg (show ¬ (false = true) by decide)] at H; exact H
     clear H
     have H := H1
     clear H1
     have H' := Aside0.mk H
     clear H
     go_wp2
     go_meet
     case rel => exact ⟨_, (a0), (10), (by first | rfl | (simp; done) | (simp [*]; done)), (by first | rfl | (simp; done) | (simp [*]; done)), H', ⟨by have := HJ1.out; first | omega | exact Nat.le_refl _⟩, ⟨mvB HB⟩⟩
   case rest =>
    clear HC6
    try clear c1
    try clear p2
    try clear c3
    try clear c3b0
    try clear c3b1
    try clear c4
    try clear c4b0
    try clear c4b1
    try clear p5
    try clear q5
    try clear hx5
    try clear qi5
    try clear c7
    try clear c8
    try clear c8b0
    try clear c8b1
    try clear p2
    try clear p5
    try clear q5
    obtain ⟨kq, x5_5, x6_5, rfl, rfl, HA, HJ5, HB⟩ := hcut
    cases kq with
    | zero => exact absurd HA.out (by simp [charref_number.j1])
    | succ kj5 =>
     have H := HA.out
     clear HA
     simp only [charref_number.j1] at H
     have HC9 := Aside0.mk H
     clear H
     go_upto_block 0 with (fail)
     go_cut [7, 8] (fun v7 v8 wc => ∃ (kq : Nat) (x7_8 : Int) (x8_8 : Int), v7 = .int .i64 x7_8 ∧ v8 = .int .i32 x8_8 ∧ Aside0 (charref_number.j3 kq a0 x5_5 x7_8 x8_8 = some (r1, r2, r3)) ∧ Aside0 (kq ≤ kj5) ∧ Aside0 (Below w.heap.size w wc))
     case first =>
      have H := HC9.out
      clear HC9
      have H' := Aside0.mk H
      clear H
      go_wp2
      go_loopg [7, 8] kj5 (fun kq v7 v8 w' => ∃ (x7_3 : Int) (x8_3 : Int), v7 = .int .i64 x7_3 ∧ v8 = .int .i32 x8_3 ∧ Aside0 (charref_number.l0 kq a0 x5_5 x6_5 x7_3 x8_3 = some (r1, r2, r3)) ∧ Aside0 (kq ≤ kj5) ∧ Aside0 (Below w.heap.size w w'))
      case atStart => exact ⟨(0), (0), (by first | rfl | (simp; done) | (simp [*]; done)), (by first | rfl | (simp; done) | (simp [*]; done)), H', ⟨Nat.le_refl _⟩, ⟨mvB HB⟩⟩
      case round =>
       clear H'
       try clear c1
       try clear p2
       try clear c3
       try clear c3b0
       try clear c3b1
       try clear c4
       try clear c4b0
       try clear c4b1
       try clear p5
       try clear q5
       try clear hx5
       try clear qi5
       try clear c7
       try clear c8
       try clear c8b0
       try clear c8b1
       try clear p2
       try clear p5
       try clear q5
       obtain ⟨x7_3, x8_3, rfl, rfl, HA, HK3, HB⟩ := hrel
       cases gk with
       | zero => exact absurd HA.out (by simp [charref_number.l0])
       | succ k3 =>
        have H := HA.out
        clear HA
        simp only [charref_number.l0] at H
        by_cases c10 : x7_3 < (x5_5.size : Int)
        ·rw [if_pos c10] at H
         have c10b0 : decide (x7_3 < (x5_5.size : Int)) = true := decide_eq_true c10
         clear c10
         (first | rw [c10b0] | (simp only [i64_w, i32_w]; rw [c10b0]) | skip)
         by_cases c11 : 0 ≤ x7_3
         ·rw [if_pos c11] at H
          have c11b0 : decide (0 ≤ x7_3) = true := decide_eq_true c11
          clear c11
          replace H := Option.bind_eq_some_iff.mp H
          obtain ⟨t105, A130, H⟩ := H
          replace H : (if t105 < x6_5 then ((charref_digit.f k3 (bt x5_5 x7_3)).bind fun t106 => (charref_number.l0 k3 a0 x5_5 x6_5 (wrap64 (x7_3 + 1)) (mn (wrap32 ((wrap32 (x8_3 * x6_5)) + t106)) 1114112))) else (charref_number.j3 k3 a0 x5_5 x7_3 x8_3)) = some (r1, r2, r3) := H
          have A13 := Aside0.mk A130
          (first | (have tb13 := tab_others HT.out (mvB HB) A130; obtain ⟨tb13a, tb13b, tb13c⟩ := tb13) | (have tb13 := tab_nameR HT.out (mvB HB) A130; obtain ⟨tb13a, tb13b, tb13c⟩ := tb13) | (have tb13 := tab_nameAlone HT.out (mvB HB) A130; obtain ⟨tb13a, tb13b, tb13c⟩ := tb13) | skip)
          clear A130
          by_cases c14 : t105 < x6_5
          ·rw [if_pos c14] at H
           have c14b0 : decide (t105 < x6_5) = true := decide_eq_true c14
           clear c14
           replace H := Option.bind_eq_some_iff.mp H
           obtain ⟨t106, A160, H⟩ := H
           replace H : (charref_number.l0 k3 a0 x5_5 x6_5 (wrap64 (x7_3 + 1)) (mn (wrap32 ((wrap32 (x8_3 * x6_5)) + t106)) 1114112)) = some (r1, r2, r3) := H
           have A16 := Aside0.mk A160
           (first | (have tb16 := tab_others HT.out (mvB HB) A160; obtain ⟨tb16a, tb16b, tb16c⟩ := tb16) | (have tb16 := tab_nameR HT.out (mvB HB) A160; obtain ⟨tb16a, tb16b, tb16c⟩ := tb16) | (have tb16 := tab_nameAlone HT.out (mvB HB) A160; obtain ⟨tb16a, tb16b, tb16c⟩ := tb16) | skip)
           clear A160
           obtain ⟨ji17, hji17⟩ : ∃ j_ : Int, (mn (wrap32 ((wrap32 (x8_3 * x6_5)) + t106)) 1114112) = j_ := ⟨_, rfl⟩
           replace H : (charref_number.l0 k3 a0 x5_5 x6_5 (wrap64 (x7_3 + 1)) ji17) = some (r1, r2, r3) := by first | (rw [hji17] at H; exact H) | (simp only [hji17] at H ⊢; exact H)
           (try rw [hji17] at A13)
           (try rw [hji17] at A16)
           have hji17_ : (if 1114112 < (wrap32 ((wrap32 (x8_3 * x6_5)) + t106)) then 1114112 else (wrap32 ((wrap32 (x8_3 * x6_5)) + t106))) = ji17 := hji17
           have H' := Aside0.mk H
           clear H
           have p12 := dT (0 ≤ (x7_3 : Int))
           have q12 := dT (x7_3 < (x5_5.size : Int))
           have hx12 := bt_at x5_5 x7_3
           replace p12 := eq_true p12
           replace q12 := eq_true q12
           go_wp2_with (first | (go_at_call 34; (with_reducible refine (charref_digit.calls k3 (bt x5_5 x7_3) t105 _ A13.out).mono ?_); rintro e w' ⟨rfl, ⟨nd, rfl⟩⟩; have p15 := dT (0 ≤ (x7_3 : Int)); have q15 := dT (x7_3 < (x5_5.size : Int)); have hx15 := bt_at x5_5 x7_3; replace p15 := eq_true p15; replace q15 := eq_true q15) | ((with_reducible refine gate_callee (f := 34) rfl ?_); refine goesL_ (some 40) rfl rfl Tryd.func34 (by kernel_rfl) rfl #[.int .u8 (bt x5_5 x7_3)] rfl (by (try simp only [List.map_toArray, List.map_cons, List.map_nil]); first | done | rfl | (simp only [List.length_drop, List.length_take]; rfl)) ?_; (with_reducible refine (charref_digit.calls k3 (bt x5_5 x7_3) t106 _ A16.out).mono ?_); rintro e w' ⟨rfl, ⟨nd, rfl⟩⟩; refine ⟨_, rfl, ?_⟩))
           go_roundg k3
           case measure => have := HJ1.out; have := HJ5.out; have := HK3.out; omega
           case rel => exact ⟨(wrap64 (x7_3 + 1)), (ji17), (by first | rfl | (simp; done) | (simp [*]; done)), (by first | rfl | (simp; done) | (simp only [← hji17] <;> (first | rfl | simp)) | (simp [*]; done)), H', ⟨by have := HJ1.out; have := HJ5.out; have := HK3.out; omega⟩, ⟨mvB HB⟩⟩
          ·rw [if_neg c14] at H
           have c14b0 : decide (t105 < x6_5) = false := decide_eq_false c14
           clear c14
           have H' := Aside0.mk H
           clear H
           have p12 := dT (0 ≤ (x7_3 : Int))
           have q12 := dT (x7_3 < (x5_5.size : Int))
           have hx12 := bt_at x5_5 x7_3
           replace p12 := eq_true p12
           replace q12 := eq_true q12
           go_wp2_with (first | (go_at_call 34; (with_reducible refine (charref_digit.calls k3 (bt x5_5 x7_3) t105 _ A13.out).mono ?_); rintro e w' ⟨rfl, ⟨nd, rfl⟩⟩))
           go_meet
           case rel => exact ⟨_, (x7_3), (x8_3), (by first | rfl | (simp; done) | (simp [*]; done)), (by first | rfl | (simp; done) | (simp [*]; done)), H', ⟨by have := HJ1.out; have := HJ5.out; have := HK3.out; first | omega | exact Nat.le_refl _⟩, ⟨mvB HB⟩⟩
         ·rw [if_neg c11] at H
          exact absurd H (by simp)
        ·rw [if_neg c10] at H
         have c10b0 : decide (x7_3 < (x5_5.size : Int)) = false := decide_eq_false c10
         clear c10
         (first | rw [c10b0] | (simp only [i64_w, i32_w]; rw [c10b0]) | skip)
         have H' := Aside0.mk H
         clear H
         go_wp2
         go_meet
         case rel => exact ⟨_, (x7_3), (x8_3), (by first | rfl | (simp; done) | (simp [*]; done)), (by first | rfl | (simp; done) | (simp [*]; done)), H', ⟨by have := HJ1.out; have := HJ5.out; have := HK3.out; first | omega | exact Nat.le_refl _⟩, ⟨mvB HB⟩⟩
     case rest =>
      clear HC9
      try clear c1
      try clear p1
      try clear q1
      try clear hx1
      try clear p2
      try clear c3
      try clear c3b0
      try clear c3b1
      try clear p3
      try clear c4
      try clear c4b0
      try clear c4b1
      try clear p5
      try clear q5
      try clear hx5
      try clear qi5
      try clear p6
      try clear c7
      try clear c8
      try clear c8b0
      try clear c8b1
      try clear c10
      try clear c10b0
      try clear c11
      try clear c11b0
      try clear p12
      try clear q12
      try clear hx12
      try clear c14
      try clear c14b0
      try clear p15
      try clear q15
      try clear hx15
      try clear p12
      try clear p15
      try clear p2
      try clear p5
      try clear q12
      try clear q15
      try clear q5
      obtain ⟨kq, x7_8, x8_8, rfl, rfl, HA, HJ8, HB⟩ := hcut
      cases kq with
      | zero => exact absurd HA.out (by simp [charref_number.j3])
      | succ kj8 =>
       have H := HA.out
       clear HA
       simp only [charref_number.j3] at H
       by_cases c18 : x7_8 = 0
       ·rw [if_pos c18] at H
        have c18b0 : (x7_8 == 0) = true := beq_iff_eq.mpr c18
        have c18b1 : (x7_8 != 0) = false := bne_eq_false_iff_eq.mpr c18
        clear c18
        simp only [Option.some.injEq, Prod.mk.injEq] at H
        obtain ⟨rfl, rfl, rfl⟩ := H
        go_wp2
        go_ret3
        exact ⟨by first | rfl | (simp [errW_none, errW_some] <;> rfl) | (simp [*, errW_none, errW_some] <;> rfl), mvB HB⟩
       ·rw [if_neg c18] at H
        have c18b0 : (x7_8 == 0) = false := beq_eq_false_iff_ne.mpr c18
        have c18b1 : (x7_8 != 0) = true := bne_iff_ne.mpr c18
        by_cases c19 : 0 ≤ x7_8
        ·rw [if_pos c19] at H
         have c19b0 := eq_true c19
         have c19b1 : decide (0 ≤ x7_8) = true := decide_eq_true c19
         clear c19
         by_cases c20 : x7_8 ≤ (x5_5.size : Int)
         ·rw [if_pos c20] at H
          have c20b0 := eq_true c20
          have c20b1 : decide (x7_8 ≤ (x5_5.size : Int)) = true := decide_eq_true c20
          clear c20
          replace H := Option.bind_eq_some_iff.mp H
          obtain ⟨⟨t107, t108⟩, A210, H⟩ := H
          replace H : (if x8_8 = 0 then (charref_number.j4 kj8 a0 t107 x8_8 true) else ((utf8_ValidRune.f kj8 x8_8).bind fun t109 => (charref_number.j4 kj8 a0 t107 x8_8 (!t109)))) = some (r1, r2, r3) := H
          have A21 := Aside0.mk A210
          (first | (have tb21 := tab_others HT.out (mvB HB) A210; obtain ⟨tb21a, tb21b, tb21c⟩ := tb21) | (have tb21 := tab_nameR HT.out (mvB HB) A210; obtain ⟨tb21a, tb21b, tb21c⟩ := tb21) | (have tb21 := tab_nameAlone HT.out (mvB HB) A210; obtain ⟨tb21a, tb21b, tb21c⟩ := tb21) | skip)
          clear A210
          have HC22 := Aside0.mk H
          clear H
          go_upto_region 11 with (first | ((with_reducible refine gate_callee (f := 35) rfl ?_); refine goesL_ (some 49) rfl rfl Tryd.func35 (by kernel_rfl) rfl #[.string (x5_5.extract (x7_8 : Int).toNat x5_5.size), .string (⟨#[59]⟩ : ByteArray)] rfl (by (try simp only [List.map_toArray, List.map_cons, List.map_nil]); first | done | rfl | (simp only [List.length_drop, List.length_take]; rfl)) ?_; (with_reducible refine (strings_CutPrefix.calls (x5_5.extract (x7_8 : Int).toNat x5_5.size) (⟨#[59]⟩ : ByteArray) t107 t108 _ A21.out).mono ?_); rintro e w' ⟨rfl, ⟨nd, rfl⟩⟩; refine ⟨_, rfl, ?_⟩))
          (try simp only [Act.put, List.setIfInBounds_toArray, List.set_cons_zero, List.set_cons_succ])
          go_cut [52] (fun v52 wc => ∃ (kq : Nat) (x52_21 : Bool), v52 = .bool x52_21 ∧ Aside0 (charref_number.j4 kq a0 t107 x8_8 x52_21 = some (r1, r2, r3)) ∧ Aside0 (kq ≤ kj8) ∧ Aside0 (Below w.heap.size w wc))
          case first =>
           have H := HC22.out
           clear HC22
           by_cases c23 : x8_8 = 0
           ·rw [if_pos c23] at H
            have c23b0 : (x8_8 == 0) = true := beq_iff_eq.mpr c23
            have c23b1 : (x8_8 != 0) = false := bne_eq_false_iff_eq.mpr c23
            clear c23
            (first | rw [c23b0] | (simp only [i64_w, i32_w]; rw [c23b0]) | skip)
            have H' := Aside0.mk H
            clear H
            go_wp2
            go_meet
            case rel => exact ⟨_, (true), (by first | rfl | (simp; done) | (simp [*]; done)), H', ⟨by have := HJ1.out; have := HJ5.out; have := HJ8.out; first | omega | exact Nat.le_refl _⟩, ⟨mvB HB⟩⟩
           ·rw [if_neg c23] at H
            have c23b0 : (x8_8 == 0) = false := beq_eq_false_iff_ne.mpr c23
            have c23b1 : (x8_8 != 0) = true := bne_iff_ne.mpr c23
            (first | rw [c23b0] | (simp only [i64_w, i32_w]; rw [c23b0]) | skip)
            replace H := Option.bind_eq_some_iff.mp H
            obtain ⟨t109, A240, H⟩ := H
            replace H : (charref_number.j4 kj8 a0 t107 x8_8 (!t109)) = some (r1, r2, r3) := H
            have A24 := Aside0.mk A240
            (first | (have tb24 := tab_others HT.out (mvB HB) A240; obtain ⟨tb24a, tb24b, tb24c⟩ := tb24) | (have tb24 := tab_nameR HT.out (mvB HB) A240; obtain ⟨tb24a, tb24b, tb24c⟩ := tb24) | (have tb24 := tab_nameAlone HT.out (mvB HB) A240; obtain ⟨tb24a, tb24b, tb24c⟩ := tb24) | skip)
            clear A240
            have H' := Aside0.mk H
            clear H
            go_wp2_with (first | (go_at_call 36; (with_reducible refine (utf8_ValidRune.calls kj8 x8_8 t109 _ A24.out).mono ?_); rintro e w' ⟨rfl, ⟨nd, rfl⟩⟩))
            go_meet
            case rel => exact ⟨_, (!t109), (by first | rfl | (simp; done) | (simp [*]; done)), H', ⟨by have := HJ1.out; have := HJ5.out; have := HJ8.out; first | omega | exact Nat.le_refl _⟩, ⟨mvB HB⟩⟩
          case rest =>
           clear HC22
           try clear c1
           try clear p1
           try clear q1
           try clear hx1
           try clear c2
           try clear p2
           try clear c3
           try clear c3b0
           try clear c3b1
           try clear p3
           try clear c4
           try clear c4b0
           try clear c4b1
           try clear p5
           try clear q5
           try clear hx5
           try clear qi5
           try clear p6
           try clear c7
           try clear c8
           try clear c8b0
           try clear c8b1
           try clear c10
           try clear c10b0
           try clear c11
           try clear c11b0
           try clear p12
           try clear q12
           try clear hx12
           try clear c14
           try clear c14b0
           try clear p15
           try clear q15
           try clear hx15
           try clear c18
           try clear c18b0
           try clear c18b1
           try clear c19
           try clear c19b0
           try clear c19b1
           try clear c20
           try clear c20b0
           try clear c20b1
           try clear c23
           try clear c23b0
           try clear c23b1
           try clear p1
           try clear p12
           try clear p15
           try clear p2
           try clear p3
           try clear p5
           try clear p6
           try clear q1
           try clear q12
           try clear q15
           try clear q5
           obtain ⟨kq, x52_21, rfl, HA, HJ21, HB⟩ := hcut
           cases kq with
           | zero => exact absurd HA.out (by simp [charref_number.j4])
           | succ kj21 =>
            have H := HA.out
            clear HA
            simp only [charref_number.j4] at H
            by_cases c25 : x52_21 = true
            ·subst c25
             have H1 : (some (65533, wrap64 ((a0.size : Int) - (t107.size : Int)), true)) = some (r1, r2, r3) := by rw [if_pos rfl] at H; exact H
             clear H
             have H := H1
             clear H1
             simp only [Option.some.injEq, Prod.mk.injEq] at H
             obtain ⟨rfl, rfl, rfl⟩ := H
             go_wp2
             go_ret3
             exact ⟨by first | rfl | (simp [errW_none, errW_some] <;> rfl) | (simp [*, errW_none, errW_some] <;> rfl), mvB HB⟩
            ·replace c25 := Bool.eq_false_iff.mpr c25
             subst c25
             have H1 : (if x8_8 ≥ 128 then (if x8_8 ≤ 159 then ((charref_othersAt.f (wrap32 (x8_8 - 128))).bind fun t110 => (if t110 = 0 then (some (x8_8, wrap64 ((a0.size : Int) - (t107.size : Int)), true)) else ((charref_othersAt.f (wrap32 (x8_8 - 128))).bind fun t111 => (some (t111, wrap64 ((a0.size : Int) - (t107.size : Int)), true))))) else (some (x8_8, wrap64 ((a0.size : Int) - (t107.size : Int)), true))) else (some (x8_8, wrap64 ((a0.size : Int) - (t107.size : Int)), true))) = some (r1, r2, r3) := by rw [if_neg (show ¬ (false = true) by decide)] at H; exact H
             clear H
             have H := H1
             clear H1
             by_cases c26 : x8_8 ≥ 128
             ·rw [if_pos c26] at H
              have c26b0 : decide (128 ≤ x8_8) = true := decide_eq_true c26
              clear c26
              by_cases c27 : x8_8 ≤ 159
              ·rw [if_pos c27] at H
               have c27b0 : decide (x8_8 ≤ 159) = true := decide_eq_true c27
               clear c27
               replace H := Option.bind_eq_some_iff.mp H
               obtain ⟨t110, A280, H⟩ := H
               replace H : (if t110 = 0 then (some (x8_8, wrap64 ((a0.size : Int) - (t107.size : Int)), true)) else ((charref_othersAt.f (wrap32 (x8_8 - 128))).bind fun t111 => (some (t111, wrap64 ((a0.size : Int) - (t107.size : Int)), true)))) = some (r1, r2, r3) := H
               have A28 := Aside0.mk A280
               (first | (have tb28 := tab_others HT.out (mvB HB) A280; obtain ⟨tb28a, tb28b, tb28c⟩ := tb28) | (have tb28 := tab_nameR HT.out (mvB HB) A280; obtain ⟨tb28a, tb28b, tb28c⟩ := tb28) | (have tb28 := tab_nameAlone HT.out (mvB HB) A280; obtain ⟨tb28a, tb28b, tb28c⟩ := tb28) | skip)
               clear A280
               by_cases c29 : t110 = 0
               ·rw [if_pos c29] at H
                have c29b0 : (t110 == 0) = true := beq_iff_eq.mpr c29
                have c29b1 : (t110 != 0) = false := bne_eq_false_iff_eq.mpr c29
                clear c29
                simp only [Option.some.injEq, Prod.mk.injEq] at H
                obtain ⟨rfl, rfl, rfl⟩ := H
                go_wp2_with (first | fail)
                go_ret3
                exact ⟨by first | rfl | (simp [errW_none, errW_some] <;> rfl) | (simp [*, errW_none, errW_some] <;> rfl), mvB HB⟩
               ·rw [if_neg c29] at H
                have c29b0 : (t110 == 0) = false := beq_eq_false_iff_ne.mpr c29
                have c29b1 : (t110 != 0) = true := bne_iff_ne.mpr c29
                replace H := Option.bind_eq_some_iff.mp H
                obtain ⟨t111, A300, H⟩ := H
                replace H : (some (t111, wrap64 ((a0.size : Int) - (t107.size : Int)), true)) = some (r1, r2, r3) := H
                have A30 := Aside0.mk A300
                (first | (obtain rfl := Option.some.inj (A300.symm.trans A28.out)) | (have tb30 := tab_others HT.out (mvB HB) A300; obtain ⟨tb30a, tb30b, tb30c⟩ := tb30) | (have tb30 := tab_nameR HT.out (mvB HB) A300; obtain ⟨tb30a, tb30b, tb30c⟩ := tb30) | (have tb30 := tab_nameAlone HT.out (mvB HB) A300; obtain ⟨tb30a, tb30b, tb30c⟩ := tb30) | skip)
                clear A300
                simp only [Option.some.injEq, Prod.mk.injEq] at H
                obtain ⟨rfl, rfl, rfl⟩ := H
                go_wp2_with (first | fail)
                go_ret3
                exact ⟨by first | rfl | (simp [errW_none, errW_some] <;> rfl) | (simp [*, errW_none, errW_some] <;> rfl), mvB HB⟩
              ·rw [if_neg c27] at H
               have c27b0 : decide (x8_8 ≤ 159) = false := decide_eq_false c27
               clear c27
               simp only [Option.some.injEq, Prod.mk.injEq] at H
               obtain ⟨rfl, rfl, rfl⟩ := H
               go_wp2
               go_ret3
               exact ⟨by first | rfl | (simp [errW_none, errW_some] <;> rfl) | (simp [*, errW_none, errW_some] <;> rfl), mvB HB⟩
             ·rw [if_neg c26] at H
              have c26b0 : decide (128 ≤ x8_8) = false := decide_eq_false c26
              clear c26
              simp only [Option.some.injEq, Prod.mk.injEq] at H
              obtain ⟨rfl, rfl, rfl⟩ := H
              go_wp2
              go_ret3
              exact ⟨by first | rfl | (simp [errW_none, errW_some] <;> rfl) | (simp [*, errW_none, errW_some] <;> rfl), mvB HB⟩
         ·rw [if_neg c20] at H
          exact absurd H (by simp)
        ·rw [if_neg c19] at H
         exact absurd H (by simp)

/-! ### charref_alnum: function 20 -/
def charref_alnum.f (a0 : Int) : Option (Bool) := if a0 ≥ 48 then (if a0 ≤ 57 then (some true) else (if (Go.bits .or .u8 a0 32) ≥ 97 then (some (decide ((Go.bits .or .u8 a0 32) ≤ 122))) else (some false))) else (if (Go.bits .or .u8 a0 32) ≥ 97 then (some (decide ((Go.bits .or .u8 a0 32) ≤ 122))) else (some false))
set_option maxHeartbeats 8000000 in
set_option maxRecDepth 100000 in
theorem charref_alnum.calls (a0 : Int) (r : Bool) (w : World) (h : charref_alnum.f a0 = some r) :
  Calls Tryd.prog 20 #[.int .u8 a0] w fun e w' => e = .returned (.bool r) ∧ Drawn0 w w' := by
 have H : (if a0 ≥ 48 then (if a0 ≤ 57 then (some true) else (if (Go.bits .or .u8 a0 32) ≥ 97 then (some (decide ((Go.bits .or .u8 a0 32) ≤ 122))) else (some false))) else (if (Go.bits .or .u8 a0 32) ≥ 97 then (some (decide ((Go.bits .or .u8 a0 32) ≤ 122))) else (some false))) = some r := h
 clear h
 by_cases c2 : a0 ≥ 48
 ·rw [if_pos c2] at H
  have c2b0 : decide (48 ≤ a0) = true := decide_eq_true c2
  clear c2
  by_cases c3 : a0 ≤ 57
  ·rw [if_pos c3] at H
   have c3b0 : decide (a0 ≤ 57) = true := decide_eq_true c3
   clear c3
   obtain rfl := Option.some.inj H
   go_enter Tryd.func20, Tryd.ntmps20
   go_wp2
   go_ret
   exact ⟨by first | rfl | (simp; done) | (simp [*]; done), by repeat (first | exact Drawn0.refl _ | apply Drawn0.step)⟩
  ·rw [if_neg c3] at H
   have c3b0 : decide (a0 ≤ 57) = false := decide_eq_false c3
   clear c3
   by_cases c4 : (Go.bits .or .u8 a0 32) ≥ 97
   ·rw [if_pos c4] at H
    have c4b0 : decide (97 ≤ (Go.bits .or .u8 a0 32)) = true := decide_eq_true c4
    clear c4
    obtain rfl := Option.some.inj H
    go_enter Tryd.func20, Tryd.ntmps20
    go_wp2
    go_ret
    exact ⟨by first | rfl | (simp; done) | (simp [*]; done), by repeat (first | exact Drawn0.refl _ | apply Drawn0.step)⟩
   ·rw [if_neg c4] at H
    have c4b0 : decide (97 ≤ (Go.bits .or .u8 a0 32)) = false := decide_eq_false c4
    clear c4
    obtain rfl := Option.some.inj H
    go_enter Tryd.func20, Tryd.ntmps20
    go_wp2
    go_ret
    exact ⟨by first | rfl | (simp; done) | (simp [*]; done), by repeat (first | exact Drawn0.refl _ | apply Drawn0.step)⟩
 ·rw [if_neg c2] at H
  have c2b0 : decide (48 ≤ a0) = false := decide_eq_false c2
  clear c2
  by_cases c5 : (Go.bits .or .u8 a0 32) ≥ 97
  ·rw [if_pos c5] at H
   have c5b0 : decide (97 ≤ (Go.bits .or .u8 a0 32)) = true := decide_eq_true c5
   clear c5
   obtain rfl := Option.some.inj H
   go_enter Tryd.func20, Tryd.ntmps20
   go_wp2
   go_ret
   exact ⟨by first | rfl | (simp; done) | (simp [*]; done), by repeat (first | exact Drawn0.refl _ | apply Drawn0.step)⟩
  ·rw [if_neg c5] at H
   have c5b0 : decide (97 ≤ (Go.bits .or .u8 a0 32)) = false := decide_eq_false c5
   clear c5
   obtain rfl := Option.some.inj H
   go_enter Tryd.func20, Tryd.ntmps20
   go_wp2
   go_ret
   exact ⟨by first | rfl | (simp; done) | (simp [*]; done), by repeat (first | exact Drawn0.refl _ | apply Drawn0.step)⟩

/-! ### charref_nameR: function 72 (a text of ours) -/
-- LATER Derived.Test.YtaohghcmlohngaaDoorT1

/-! ### charref_nameAlone: function 73 (a text of ours) -/
-- LATER Derived.Test.YtaohghcmlohngaaDoorT1

/-! ### charref_search: function 74 (a text of ours) -/
-- LATER Derived.Test.YtaohghcmlohngaaDoorT2

end Go.Proofs.YtaohghcmlohngaaDoor.X
