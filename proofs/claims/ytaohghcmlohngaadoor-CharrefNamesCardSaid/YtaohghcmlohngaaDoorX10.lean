-- by xprint.py: the kit's printer over texts of this session
import Derived.Test.YtaohghcmlohngaaDoorX0
import Derived.Test.YtaohghcmlohngaaDoorX3
import Derived.Test.YtaohghcmlohngaaDoorX3b
import Derived.Test.YtaohghcmlohngaaDoorX9
import Derived.Test.YtaohghcmlohngaaDoorT4
import Derived.Test.YtaohghcmlohngaaDoorT6
namespace Go.Proofs.YtaohghcmlohngaaDoor.X
open Go.RowKit Go.Proofs.YtaohghcmlohngaaDoorW.PrintWords Go.Proofs.YtaohghcmlohngaaDoorW.PrintLast Go.Proofs.YtaohghcmlohngaaDoorW.PrintMore
attribute [local go_sem] max2_int min2_int max_two min_two max_three min_three max_four min_four   -- for this text's walks alone
set_option linter.unusedVariables false
set_option linter.unusedSimpArgs false

/-! ### selvedgelaw03_CharrefNames: function 8 -/
mutual
def selvedgelaw03_CharrefNames.j0 : Nat → Int → ByteArray → ByteArray → Bool → Bool → Option (Bool)
 | 0, _, _, _, _, _ => none
 | k + 1, x0, x1, x2, x3, x19 => if x19 = true then ((selvedgelaw03_works.f k).bind fun t240 => (some t240)) else (selvedgelaw03_CharrefNames.l0 k x0 x1 x2 x3 0)
def selvedgelaw03_CharrefNames.l0 : Nat → Int → ByteArray → ByteArray → Bool → Int → Option (Bool)
 | 0, _, _, _, _, _ => none
 | k + 1, x0, x1, x2, x3, x9 => if x9 < (x1.size : Int) then (if 0 ≤ x9 then (if (bt x1 x9) = 38 then ((selvedgelaw03_works.f k).bind fun t241 => (some t241)) else (selvedgelaw03_CharrefNames.l0 k x0 x1 x2 x3 (wrap64 (x9 + 1)))) else (none)) else ((selvedgeref03_Names.f).bind fun t242 => (if (t242.length : Int) = 0 then (none) else (if 0 ≤ (Int.tmod (wrap64 (x0)) (t242.length : Int)) then (if (Int.tmod (wrap64 (x0)) (t242.length : Int)) < (t242.length : Int) then (if x1.size + 1 ≤ 9223372036854775807 then (if (x1 ++ (⟨#[38]⟩ : ByteArray)).size + ((rd_T26 t242 (Int.tmod (wrap64 (x0)) (t242.length : Int))).f0).size ≤ 9223372036854775807 then (if ((x1 ++ (⟨#[38]⟩ : ByteArray)) ++ ((rd_T26 t242 (Int.tmod (wrap64 (x0)) (t242.length : Int))).f0)).size + 1 ≤ 9223372036854775807 then (if (((x1 ++ (⟨#[38]⟩ : ByteArray)) ++ ((rd_T26 t242 (Int.tmod (wrap64 (x0)) (t242.length : Int))).f0)) ++ (⟨#[59]⟩ : ByteArray)).size + x2.size ≤ 9223372036854775807 then ((charref_Decode.f k ((((x1 ++ (⟨#[38]⟩ : ByteArray)) ++ ((rd_T26 t242 (Int.tmod (wrap64 (x0)) (t242.length : Int))).f0)) ++ (⟨#[59]⟩ : ByteArray)) ++ x2) x3).bind fun t247 => ((selvedgeref02_String.f k (([(rd_T26 t242 (Int.tmod (wrap64 (x0)) (t242.length : Int))).f1] : List Int))).bind fun t251 => (if x1.size + t251.size ≤ 9223372036854775807 then ((charref_Decode.f k x2 x3).bind fun t252 => (if (x1 ++ t251).size + t252.size ≤ 9223372036854775807 then (if t247.toList = ((x1 ++ t251) ++ t252).toList then ((selvedgelaw03_works.f k).bind fun t253 => (some t253)) else (some false)) else (none))) else (none)))) else (none)) else (none)) else (none)) else (none)) else (none)) else (none))))
end
def selvedgelaw03_CharrefNames.f (k : Nat) (a0 : Int) (a1 : ByteArray) (a2 : ByteArray) (a3 : Bool) : Option (Bool) := if (a1.size : Int) > 2000 then (selvedgelaw03_CharrefNames.j0 k a0 a1 a2 a3 true) else (selvedgelaw03_CharrefNames.j0 k a0 a1 a2 a3 (decide ((a2.size : Int) > 2000)))
theorem selvedgelaw03_CharrefNames.mono_l : ∀ k, (∀ y0 y1 y2 y3 y4, LeO (selvedgelaw03_CharrefNames.j0 k y0 y1 y2 y3 y4) (selvedgelaw03_CharrefNames.j0 (k + 1) y0 y1 y2 y3 y4)) ∧ (∀ y0 y1 y2 y3 y4, LeO (selvedgelaw03_CharrefNames.l0 k y0 y1 y2 y3 y4) (selvedgelaw03_CharrefNames.l0 (k + 1) y0 y1 y2 y3 y4))
 | 0 => ⟨fun _ _ _ _ _ r h => by simp [selvedgelaw03_CharrefNames.j0] at h, fun _ _ _ _ _ r h => by simp [selvedgelaw03_CharrefNames.l0] at h⟩
 | k + 1 => by
  obtain ⟨ih0, ih1⟩ := selvedgelaw03_CharrefNames.mono_l k
  refine ⟨?_, ?_⟩
  ·intro y0 y1 y2 y3 y4
   unfold selvedgelaw03_CharrefNames.j0
   repeat' first
   | (with_reducible exact ih0 _ _ _ _ _)
   | (with_reducible exact ih1 _ _ _ _ _)
   | (with_reducible exact charref_Decode.mono _ _ _)
   | (with_reducible exact selvedgelaw03_works.mono _)
   | (with_reducible exact selvedgeref02_String.mono _ _)
   | (with_reducible exact LeO.refl _)
   | (with_reducible exact LeO.none _)
   | (with_reducible refine LeO.ite ?_ ?_)
   | (with_reducible refine LeO.bind ?_ (fun _ => ?_))
   | exact ih0 _ _ _ _ _
   | exact ih1 _ _ _ _ _
   | exact charref_Decode.mono _ _ _
   | exact selvedgelaw03_works.mono _
   | exact selvedgeref02_String.mono _ _
   | exact LeO.none _
   | refine LeO.ite ?_ ?_
   | refine LeO.bind ?_ (fun _ => ?_)
  ·intro y0 y1 y2 y3 y4
   unfold selvedgelaw03_CharrefNames.l0
   repeat' first
   | (with_reducible exact ih0 _ _ _ _ _)
   | (with_reducible exact ih1 _ _ _ _ _)
   | (with_reducible exact charref_Decode.mono _ _ _)
   | (with_reducible exact selvedgelaw03_works.mono _)
   | (with_reducible exact selvedgeref02_String.mono _ _)
   | (with_reducible exact LeO.refl _)
   | (with_reducible exact LeO.none _)
   | (with_reducible refine LeO.ite ?_ ?_)
   | (with_reducible refine LeO.bind ?_ (fun _ => ?_))
   | exact ih0 _ _ _ _ _
   | exact ih1 _ _ _ _ _
   | exact charref_Decode.mono _ _ _
   | exact selvedgelaw03_works.mono _
   | exact selvedgeref02_String.mono _ _
   | exact LeO.none _
   | refine LeO.ite ?_ ?_
   | refine LeO.bind ?_ (fun _ => ?_)
theorem selvedgelaw03_CharrefNames.mono : ∀ a0 a1 a2 a3 k, LeO (selvedgelaw03_CharrefNames.f k a0 a1 a2 a3) (selvedgelaw03_CharrefNames.f (k + 1) a0 a1 a2 a3) := by
 intro a0 a1 a2 a3 k
 obtain ⟨ih0, ih1⟩ := selvedgelaw03_CharrefNames.mono_l k
 unfold selvedgelaw03_CharrefNames.f
 repeat' first
   | (with_reducible exact ih0 _ _ _ _ _)
   | (with_reducible exact ih1 _ _ _ _ _)
   | (with_reducible exact charref_Decode.mono _ _ _)
   | (with_reducible exact selvedgelaw03_works.mono _)
   | (with_reducible exact selvedgeref02_String.mono _ _)
   | (with_reducible exact LeO.refl _)
   | (with_reducible exact LeO.none _)
   | (with_reducible refine LeO.ite ?_ ?_)
   | (with_reducible refine LeO.bind ?_ (fun _ => ?_))
   | exact ih0 _ _ _ _ _
   | exact ih1 _ _ _ _ _
   | exact charref_Decode.mono _ _ _
   | exact selvedgelaw03_works.mono _
   | exact selvedgeref02_String.mono _ _
   | exact LeO.none _
   | refine LeO.ite ?_ ?_
   | refine LeO.bind ?_ (fun _ => ?_)
def selvedgelaw03_CharrefNames.T10 : Bool × List (List Nat × List Nat) := (true, [([], []), ([0], [0]), ([], []), ([2], [2]), ([1, 3], [1, 3]), ([4], [4]), ([], []), ([5, 6], [5, 6]), ([], []), ([7, 8], [7, 8]), ([], []), ([], []), ([11], [11]), ([12], [12]), ([13, 9], [13]), ([10, 14], [10, 14]), ([], []), ([], []), ([16, 17, 14], [16, 17]), ([15, 18], [15, 18]), ([9, 19], [9, 19]), ([20, 18], [20]), ([21, 21], [21]), ([21, 22], [21, 22]), ([23, 22, 0, 1, 2, 3, 4, 5, 6, 7, 8, 9, 10, 11, 12, 13, 14, 15, 16, 17, 18, 19, 20, 21, 22, 23], [23])])
def selvedgelaw03_CharrefNames.B10 : List Nat := [0, 1, 0, 4, 15, 31, 0, 127, 0, 511, 0, 0, 2048, 6144, 15359, 32767, 0, 0, 228351, 524287, 1048575, 2097151, 4194303, 8388607, 16777215]
theorem selvedgelaw03_CharrefNames.tab10 : rtab .any (opsOf Tryd.f8 10) = selvedgelaw03_CharrefNames.T10 := by kernel_rfl
theorem selvedgelaw03_CharrefNames.bits10 : waitsOk selvedgelaw03_CharrefNames.T10.2 selvedgelaw03_CharrefNames.B10 = true := by kernel_rfl
set_option maxHeartbeats 8000000 in
set_option maxRecDepth 100000 in
theorem selvedgelaw03_CharrefNames.calls (k : Nat) (a0 : Int) (a1 : ByteArray) (a2 : ByteArray) (a3 : Bool) (r : Bool) (w : World) (h : selvedgelaw03_CharrefNames.f k a0 a1 a2 a3 = some r) (hT : Tabs w) :
  Calls Tryd.prog 8 #[.int .u8 a0, .string a1, .string a2, .bool a3] w fun e w' => e = .returned (.bool r) ∧ Below w.heap.size w w' := by
 have HT := Aside0.mk hT
 clear hT
 have hu26 := Tryd.underlying26
 have HB := Aside0.mk (Below.refl w.heap.size w)
 have H : (if (a1.size : Int) > 2000 then (selvedgelaw03_CharrefNames.j0 k a0 a1 a2 a3 true) else (selvedgelaw03_CharrefNames.j0 k a0 a1 a2 a3 (decide ((a2.size : Int) > 2000)))) = some r := h
 clear h
 have HC5 := Aside0.mk H
 clear H
 go_enter Tryd.func8, Tryd.ntmps8
 go_upto_region 1 with (fail)
 go_cut [19] (fun v19 wc => ∃ (kq : Nat) (x19_4 : Bool), v19 = .bool x19_4 ∧ Aside0 (selvedgelaw03_CharrefNames.j0 kq a0 a1 a2 a3 x19_4 = some r) ∧ Aside0 (kq ≤ k) ∧ Aside0 (Below w.heap.size w wc))
 case first =>
  have H := HC5.out
  clear HC5
  by_cases c6 : (a1.size : Int) > 2000
  ·rw [if_pos c6] at H
   have c6b0 : decide (2000 < (a1.size : Int)) = true := decide_eq_true c6
   have c6b1 : decide (2000 < a1.size) = true := decide_eq_true (by omega)
   clear c6
   (first | rw [c6b0] | (simp only [i64_w, i32_w]; rw [c6b0]) | skip)
   have H' := Aside0.mk H
   clear H
   go_wp2
   go_meet
   case rel => exact ⟨_, (true), (by first | rfl | (simp; done) | (simp [*]; done)), H', ⟨by first | omega | exact Nat.le_refl _⟩, ⟨mvB HB⟩⟩
  ·rw [if_neg c6] at H
   have c6b0 : decide (2000 < (a1.size : Int)) = false := decide_eq_false c6
   have c6b1 : decide (2000 < a1.size) = false := decide_eq_false (by omega)
   clear c6
   (first | rw [c6b0] | (simp only [i64_w, i32_w]; rw [c6b0]) | skip)
   have H' := Aside0.mk H
   clear H
   go_wp2
   go_meet
   case rel => exact ⟨_, (decide ((a2.size : Int) > 2000)), (by first | rfl | (simp; done) | (simp [*]; done)), H', ⟨by first | omega | exact Nat.le_refl _⟩, ⟨mvB HB⟩⟩
 case rest =>
  clear HC5
  try clear p2
  try clear c6
  try clear c6b0
  try clear c6b1
  obtain ⟨kq, x19_4, rfl, HA, HJ4, HB⟩ := hcut
  cases kq with
  | zero => exact absurd HA.out (by simp [selvedgelaw03_CharrefNames.j0])
  | succ kj4 =>
   have H := HA.out
   clear HA
   simp only [selvedgelaw03_CharrefNames.j0] at H
   by_cases c7 : x19_4 = true
   ·subst c7
    have H1 : ((selvedgelaw03_works.f kj4).bind fun t240 => (some t240)) = some r := by rw [if_pos rfl] at H; exact H
    clear H
    have H := H1
    clear H1
    replace H := Option.bind_eq_some_iff.mp H
    obtain ⟨t240, A80, H⟩ := H
    replace H : (some t240) = some r := H
    have A8 := Aside0.mk A80
    clear A80
    obtain rfl := Option.some.inj H
    go_wp2_with (first | ((with_reducible refine gate_callee (f := 10) rfl ?_); refine goesL_ (some 20) rfl rfl Tryd.func10 (by kernel_rfl) rfl #[] rfl (by (try simp only [List.map_toArray, List.map_cons, List.map_nil]); first | done | rfl | (simp only [List.length_drop, List.length_take]; rfl)) ?_; (with_reducible refine (selvedgelaw03_works.calls kj4  t240 _ A8.out (by exact HT.out.below (mvB HB))).mono ?_); rintro e w9 ⟨rfl, hb⟩; refine ⟨_, rfl, ?_⟩; have n0_ := Aside0.mk (below_step (mvB HB) hb); clear HB; have HB := n0_; clear n0_; (try clear hb); (try clear hb2); (try clear hk); (try clear hi)))
    go_ret
    exact ⟨by first | rfl | (simp [errW_none, errW_some] <;> rfl) | (simp [*, errW_none, errW_some] <;> rfl), mvB HB⟩
   ·replace c7 := Bool.eq_false_iff.mpr c7
    subst c7
    have H1 : (selvedgelaw03_CharrefNames.l0 kj4 a0 a1 a2 a3 0) = some r := by rw [if_neg (show ¬ (false = true) by decide)] at H; exact H
    clear H
    have H := H1
    clear H1
    have H' := Aside0.mk H
    clear H
    go_wp2
    go_loopg [9] kj4 (fun kq v9 w' => ∃ (x9_2 : Int), v9 = .int .i64 x9_2 ∧ Aside0 (selvedgelaw03_CharrefNames.l0 kq a0 a1 a2 a3 x9_2 = some r) ∧ Aside0 (kq ≤ kj4) ∧ Aside0 (Below w.heap.size w w'))
    case atStart => exact ⟨(0), (by first | rfl | (simp; done) | (simp [*]; done)), H', ⟨Nat.le_refl _⟩, ⟨mvB HB⟩⟩
    case round =>
     clear H'
     try clear c1
     try clear p2
     try clear c6
     try clear c6b0
     try clear c6b1
     try clear c7
     try clear c8
     try clear p2
     obtain ⟨x9_2, rfl, HA, HK2, HB⟩ := hrel
     cases gk with
     | zero => exact absurd HA.out (by simp [selvedgelaw03_CharrefNames.l0])
     | succ k2 =>
      have H := HA.out
      clear HA
      simp only [selvedgelaw03_CharrefNames.l0] at H
      by_cases c10 : x9_2 < (a1.size : Int)
      ·rw [if_pos c10] at H
       have c10b0 : decide (x9_2 < (a1.size : Int)) = true := decide_eq_true c10
       clear c10
       by_cases c11 : 0 ≤ x9_2
       ·rw [if_pos c11] at H
        have c11b0 : decide (0 ≤ x9_2) = true := decide_eq_true c11
        clear c11
        by_cases c13 : (bt a1 x9_2) = 38
        ·rw [if_pos c13] at H
         have c13b0 : ((bt a1 x9_2) == 38) = true := beq_iff_eq.mpr c13
         have c13b1 : ((bt a1 x9_2) != 38) = false := bne_eq_false_iff_eq.mpr c13
         clear c13
         replace H := Option.bind_eq_some_iff.mp H
         obtain ⟨t241, A140, H⟩ := H
         replace H : (some t241) = some r := H
         have A14 := Aside0.mk A140
         clear A140
         obtain rfl := Option.some.inj H
         have p12 := dT (0 ≤ (x9_2 : Int))
         have q12 := dT (x9_2 < (a1.size : Int))
         have hx12 := bt_at a1 x9_2
         replace p12 := eq_true p12
         replace q12 := eq_true q12
         go_wp2_with (first | ((with_reducible refine gate_callee (f := 10) rfl ?_); refine goesL_ (some 31) rfl rfl Tryd.func10 (by kernel_rfl) rfl #[] rfl (by (try simp only [List.map_toArray, List.map_cons, List.map_nil]); first | done | rfl | (simp only [List.length_drop, List.length_take]; rfl)) ?_; (with_reducible refine (selvedgelaw03_works.calls k2  t241 _ A14.out (by exact HT.out.below (mvB HB))).mono ?_); rintro e w15 ⟨rfl, hb⟩; refine ⟨_, rfl, ?_⟩; have n0_ := Aside0.mk (below_step (mvB HB) hb); clear HB; have HB := n0_; clear n0_; (try clear hb); (try clear hb2); (try clear hk); (try clear hi)))
         go_ret
         exact ⟨by first | rfl | (simp [errW_none, errW_some] <;> rfl) | (simp [*, errW_none, errW_some] <;> rfl), mvB HB⟩
        ·rw [if_neg c13] at H
         have c13b0 : ((bt a1 x9_2) == 38) = false := beq_eq_false_iff_ne.mpr c13
         have c13b1 : ((bt a1 x9_2) != 38) = true := bne_iff_ne.mpr c13
         have H' := Aside0.mk H
         clear H
         have p12 := dT (0 ≤ (x9_2 : Int))
         have q12 := dT (x9_2 < (a1.size : Int))
         have hx12 := bt_at a1 x9_2
         replace p12 := eq_true p12
         replace q12 := eq_true q12
         go_wp2
         go_roundg k2
         case measure => have := HJ4.out; have := HK2.out; omega
         case rel => exact ⟨(wrap64 (x9_2 + 1)), (by first | rfl | (simp; done) | (simp [*]; done)), H', ⟨by have := HJ4.out; have := HK2.out; omega⟩, ⟨mvB HB⟩⟩
       ·rw [if_neg c11] at H
        exact absurd H (by simp)
      ·rw [if_neg c10] at H
       have c10b0 : decide (x9_2 < (a1.size : Int)) = false := decide_eq_false c10
       clear c10
       replace H := Option.bind_eq_some_iff.mp H
       obtain ⟨t242, A160, H⟩ := H
       replace H : (if (t242.length : Int) = 0 then (none) else (if 0 ≤ (Int.tmod (wrap64 (a0)) (t242.length : Int)) then (if (Int.tmod (wrap64 (a0)) (t242.length : Int)) < (t242.length : Int) then (if a1.size + 1 ≤ 9223372036854775807 then (if (a1 ++ (⟨#[38]⟩ : ByteArray)).size + ((rd_T26 t242 (Int.tmod (wrap64 (a0)) (t242.length : Int))).f0).size ≤ 9223372036854775807 then (if ((a1 ++ (⟨#[38]⟩ : ByteArray)) ++ ((rd_T26 t242 (Int.tmod (wrap64 (a0)) (t242.length : Int))).f0)).size + 1 ≤ 9223372036854775807 then (if (((a1 ++ (⟨#[38]⟩ : ByteArray)) ++ ((rd_T26 t242 (Int.tmod (wrap64 (a0)) (t242.length : Int))).f0)) ++ (⟨#[59]⟩ : ByteArray)).size + a2.size ≤ 9223372036854775807 then ((charref_Decode.f k2 ((((a1 ++ (⟨#[38]⟩ : ByteArray)) ++ ((rd_T26 t242 (Int.tmod (wrap64 (a0)) (t242.length : Int))).f0)) ++ (⟨#[59]⟩ : ByteArray)) ++ a2) a3).bind fun t247 => ((selvedgeref02_String.f k2 (([(rd_T26 t242 (Int.tmod (wrap64 (a0)) (t242.length : Int))).f1] : List Int))).bind fun t251 => (if a1.size + t251.size ≤ 9223372036854775807 then ((charref_Decode.f k2 a2 a3).bind fun t252 => (if (a1 ++ t251).size + t252.size ≤ 9223372036854775807 then (if t247.toList = ((a1 ++ t251) ++ t252).toList then ((selvedgelaw03_works.f k2).bind fun t253 => (some t253)) else (some false)) else (none))) else (none)))) else (none)) else (none)) else (none)) else (none)) else (none)) else (none))) = some r := H
       have A16 := Aside0.mk A160
       clear A160
       by_cases c17 : (t242.length : Int) = 0
       ·rw [if_pos c17] at H
        exact absurd H (by simp)
       ·rw [if_neg c17] at H
        have c17b0 : ((t242.length : Int) == 0) = false := beq_eq_false_iff_ne.mpr c17
        have c17b1 : ((t242.length : Int) != 0) = true := bne_iff_ne.mpr c17
        have c17b2 : ¬ (t242 = []) := fun h_ => c17 (by rw [h_]; rfl)
        obtain ⟨ji18, hji18⟩ : ∃ j_ : Int, (Int.tmod (wrap64 (a0)) (t242.length : Int)) = j_ := ⟨_, rfl⟩
        replace H : (if 0 ≤ (ji18) then (if (ji18) < (t242.length : Int) then (if a1.size + 1 ≤ 9223372036854775807 then (if (a1 ++ (⟨#[38]⟩ : ByteArray)).size + ((rd_T26 t242 (ji18)).f0).size ≤ 9223372036854775807 then (if ((a1 ++ (⟨#[38]⟩ : ByteArray)) ++ ((rd_T26 t242 (ji18)).f0)).size + 1 ≤ 9223372036854775807 then (if (((a1 ++ (⟨#[38]⟩ : ByteArray)) ++ ((rd_T26 t242 (ji18)).f0)) ++ (⟨#[59]⟩ : ByteArray)).size + a2.size ≤ 9223372036854775807 then ((charref_Decode.f k2 ((((a1 ++ (⟨#[38]⟩ : ByteArray)) ++ ((rd_T26 t242 (ji18)).f0)) ++ (⟨#[59]⟩ : ByteArray)) ++ a2) a3).bind fun t247 => ((selvedgeref02_String.f k2 (([(rd_T26 t242 (ji18)).f1] : List Int))).bind fun t251 => (if a1.size + t251.size ≤ 9223372036854775807 then ((charref_Decode.f k2 a2 a3).bind fun t252 => (if (a1 ++ t251).size + t252.size ≤ 9223372036854775807 then (if t247.toList = ((a1 ++ t251) ++ t252).toList then ((selvedgelaw03_works.f k2).bind fun t253 => (some t253)) else (some false)) else (none))) else (none)))) else (none)) else (none)) else (none)) else (none)) else (none)) else (none)) = some r := by first | (rw [hji18] at H; exact H) | (simp only [hji18] at H ⊢; exact H)
        (try rw [hji18] at A16)
        by_cases c19 : 0 ≤ (ji18)
        ·rw [if_pos c19] at H
         have c19b0 : decide (0 ≤ (ji18)) = true := decide_eq_true c19
         clear c19
         by_cases c20 : (ji18) < (t242.length : Int)
         ·rw [if_pos c20] at H
          have c20b0 : decide ((ji18) < (t242.length : Int)) = true := decide_eq_true c20
          clear c20
          by_cases c21 : a1.size + 1 ≤ 9223372036854775807
          ·rw [if_pos c21] at H
           have c21b0 := eq_true c21
           have c21b1 : decide (a1.size + 1 ≤ 9223372036854775807) = true := decide_eq_true c21
           try have c21b2 : (9223372036854775807 < a1.size + 1) = False := eq_false (Nat.not_lt.2 c21)
           by_cases c22 : (a1 ++ (⟨#[38]⟩ : ByteArray)).size + ((rd_T26 t242 (ji18)).f0).size ≤ 9223372036854775807
           ·rw [if_pos c22] at H
            have c22b0 := eq_true c22
            have c22b1 : decide ((a1 ++ (⟨#[38]⟩ : ByteArray)).size + ((rd_T26 t242 (ji18)).f0).size ≤ 9223372036854775807) = true := decide_eq_true c22
            try have c22b2 : (9223372036854775807 < (a1 ++ (⟨#[38]⟩ : ByteArray)).size + ((rd_T26 t242 (ji18)).f0).size) = False := eq_false (Nat.not_lt.2 c22)
            try have c22b3 : (9223372036854775807 < a1.size + 1 + ((rd_T26 t242 (ji18)).f0).size) = False := eq_false (by have z_ := c22; simp only [ByteArray.size_append, show (⟨#[38]⟩ : ByteArray).size = 1 from rfl] at z_; omega)
            by_cases c23 : ((a1 ++ (⟨#[38]⟩ : ByteArray)) ++ ((rd_T26 t242 (ji18)).f0)).size + 1 ≤ 9223372036854775807
            ·rw [if_pos c23] at H
             have c23b0 := eq_true c23
             have c23b1 : decide (((a1 ++ (⟨#[38]⟩ : ByteArray)) ++ ((rd_T26 t242 (ji18)).f0)).size + 1 ≤ 9223372036854775807) = true := decide_eq_true c23
             try have c23b2 : (9223372036854775807 < ((a1 ++ (⟨#[38]⟩ : ByteArray)) ++ ((rd_T26 t242 (ji18)).f0)).size + 1) = False := eq_false (Nat.not_lt.2 c23)
             try have c23b3 : (9223372036854775807 < a1.size + 1 + ((rd_T26 t242 (ji18)).f0).size + 1) = False := eq_false (by have z_ := c23; simp only [ByteArray.size_append, show (⟨#[38]⟩ : ByteArray).size = 1 from rfl] at z_; omega)
             by_cases c24 : (((a1 ++ (⟨#[38]⟩ : ByteArray)) ++ ((rd_T26 t242 (ji18)).f0)) ++ (⟨#[59]⟩ : ByteArray)).size + a2.size ≤ 9223372036854775807
             ·rw [if_pos c24] at H
              have c24b0 := eq_true c24
              have c24b1 : decide ((((a1 ++ (⟨#[38]⟩ : ByteArray)) ++ ((rd_T26 t242 (ji18)).f0)) ++ (⟨#[59]⟩ : ByteArray)).size + a2.size ≤ 9223372036854775807) = true := decide_eq_true c24
              try have c24b2 : (9223372036854775807 < (((a1 ++ (⟨#[38]⟩ : ByteArray)) ++ ((rd_T26 t242 (ji18)).f0)) ++ (⟨#[59]⟩ : ByteArray)).size + a2.size) = False := eq_false (Nat.not_lt.2 c24)
              try have c24b3 : (9223372036854775807 < a1.size + 1 + ((rd_T26 t242 (ji18)).f0).size + 1 + a2.size) = False := eq_false (by have z_ := c24; simp only [ByteArray.size_append, show (⟨#[38]⟩ : ByteArray).size = 1 from rfl, show (⟨#[59]⟩ : ByteArray).size = 1 from rfl] at z_; omega)
              replace H := Option.bind_eq_some_iff.mp H
              obtain ⟨t247, A250, H⟩ := H
              replace H : ((selvedgeref02_String.f k2 (([(rd_T26 t242 (ji18)).f1] : List Int))).bind fun t251 => (if a1.size + t251.size ≤ 9223372036854775807 then ((charref_Decode.f k2 a2 a3).bind fun t252 => (if (a1 ++ t251).size + t252.size ≤ 9223372036854775807 then (if t247.toList = ((a1 ++ t251) ++ t252).toList then ((selvedgelaw03_works.f k2).bind fun t253 => (some t253)) else (some false)) else (none))) else (none))) = some r := H
              have A25 := Aside0.mk A250
              clear A250
              obtain ⟨y248, hy248⟩ : ∃ y_ : List Int, y_ = (([(rd_T26 t242 (ji18)).f1] : List Int)) := ⟨_, rfl⟩
              replace H : ((selvedgeref02_String.f k2 y248).bind fun t251 => (if a1.size + t251.size ≤ 9223372036854775807 then ((charref_Decode.f k2 a2 a3).bind fun t252 => (if (a1 ++ t251).size + t252.size ≤ 9223372036854775807 then (if t247.toList = ((a1 ++ t251) ++ t252).toList then ((selvedgelaw03_works.f k2).bind fun t253 => (some t253)) else (some false)) else (none))) else (none))) = some r := by first | (rw [hy248]; with_reducible exact H) | (have H2_ := (Option.bind_some _ _).symm.trans H; rw [hy248]; with_reducible exact H2_) | (have H2_ := (Option.bind_some _ _).symm.trans H; with_reducible exact H2_) | with_reducible exact H | (rw [hy248]; exact H) | exact H
              have Ny248 := Aside0.mk hy248
              clear hy248
              replace H := Option.bind_eq_some_iff.mp H
              obtain ⟨t251, A260, H⟩ := H
              replace H : (if a1.size + t251.size ≤ 9223372036854775807 then ((charref_Decode.f k2 a2 a3).bind fun t252 => (if (a1 ++ t251).size + t252.size ≤ 9223372036854775807 then (if t247.toList = ((a1 ++ t251) ++ t252).toList then ((selvedgelaw03_works.f k2).bind fun t253 => (some t253)) else (some false)) else (none))) else (none)) = some r := H
              have A26 := Aside0.mk A260
              clear A260
              by_cases c27 : a1.size + t251.size ≤ 9223372036854775807
              ·rw [if_pos c27] at H
               have c27b0 := eq_true c27
               have c27b1 : decide (a1.size + t251.size ≤ 9223372036854775807) = true := decide_eq_true c27
               try have c27b2 : (9223372036854775807 < a1.size + t251.size) = False := eq_false (Nat.not_lt.2 c27)
               replace H := Option.bind_eq_some_iff.mp H
               obtain ⟨t252, A280, H⟩ := H
               replace H : (if (a1 ++ t251).size + t252.size ≤ 9223372036854775807 then (if t247.toList = ((a1 ++ t251) ++ t252).toList then ((selvedgelaw03_works.f k2).bind fun t253 => (some t253)) else (some false)) else (none)) = some r := H
               have A28 := Aside0.mk A280
               clear A280
               by_cases c29 : (a1 ++ t251).size + t252.size ≤ 9223372036854775807
               ·rw [if_pos c29] at H
                have c29b0 := eq_true c29
                have c29b1 : decide ((a1 ++ t251).size + t252.size ≤ 9223372036854775807) = true := decide_eq_true c29
                try have c29b2 : (9223372036854775807 < (a1 ++ t251).size + t252.size) = False := eq_false (Nat.not_lt.2 c29)
                try have c29b3 : (9223372036854775807 < a1.size + t251.size + t252.size) = False := eq_false (by have z_ := c29; simp only [ByteArray.size_append] at z_; omega)
                by_cases c30 : t247.toList = ((a1 ++ t251) ++ t252).toList
                ·rw [if_pos c30] at H
                 have c30b0 : (t247.toList == ((a1 ++ t251) ++ t252).toList) = true := beq_iff_eq.mpr c30
                 have c30b1 : (t247.toList != ((a1 ++ t251) ++ t252).toList) = false := bne_eq_false_iff_eq.mpr c30
                 clear c30
                 replace H := Option.bind_eq_some_iff.mp H
                 obtain ⟨t253, A310, H⟩ := H
                 replace H : (some t253) = some r := H
                 have A31 := Aside0.mk A310
                 clear A310
                 obtain rfl := Option.some.inj H
                 try go_wp2_with (first | ((with_reducible refine gate_callee (f := 11) rfl ?_); refine goesL_ (some 32) rfl rfl Tryd.func11 (by kernel_rfl) rfl #[] rfl (by (try simp only [List.map_toArray, List.map_cons, List.map_nil]); first | done | rfl | (simp only [List.length_drop, List.length_take]; rfl)) ?_; (with_reducible refine (selvedgeref03_Names.calls  t242 _ A16.out).mono ?_); rintro e w32 ⟨v243, rfl, ho0, hb⟩; refine ⟨_, rfl, ?_⟩; have n0_ := Aside0.mk (Kd.R_lower ho0 (below_size (mvB HB))); have n1_ := Aside0.mk (below_step (mvB HB) hb); clear HB; have HO244 := n0_; have HB := n1_; clear n0_ n1_; (try clear hb); (try clear hb2); (try clear hk); (try clear hi); (try clear ho0); obtain ⟨Ao33, co33, eo33⟩ := Kd.R_slice HO244.out; subst eo33; have p245 := dT (0 ≤ ((ji18) : Int)); have q245 := dT ((ji18) < (t242.length : Int)); obtain ⟨ad245, e245, hx245_0, hx245_1, hx245_2⟩ := at_T26 (Kd.R_reads' HO244.out).2.2 (ji18) p245 q245; cases e245; replace p245 := eq_true p245; replace q245 := eq_true q245) | ((with_reducible refine gate_dst (N := 11) rfl ?_); (try (refine gate_guard (by rfl) ?_; dsimp only)); refine box_event ?hg (N := 11) ?hd (cs := #[.string (⟨#[]⟩ : ByteArray), .int .i32 0, .bool false]) (t := 26) ?hr ?_; (case hd => rfl); (case hg => rfl); (case hr => first | (go_simp; done) | (go_simp; rfl)); intro gb246 hg w34 hbox hb; have n0_ := Aside0.mk (Kd.R_below (Kd.R_elderB (mvR HO244) gb246 (Nat.le_of_eq hg.symm)) hb); have n1_ := Aside0.mk (below_step (mvB HB) hb); have n2_ := Aside0.mk (hbox); have n3_ := Aside0.mk ((by rw [hg]; exact (below_size (mvB HB)) : w.heap.size ≤ gb246)); have n4_ := Aside0.mk ((by rw [hg]; exact (below_size (mvB HB)) : w.heap.size ≤ gb246)); clear HO244; clear HB; have HO244 := n0_; have HB := n1_; have BK246 := n2_; have GW246 := n3_; have GE246 := n4_; clear n0_ n1_ n2_ n3_ n4_; clear hb hbox hg; have hcz35_0 : w34.cell? ⟨gb246, 0, none⟩ = some (.string (⟨#[]⟩ : ByteArray)) := (blk_cell BK246.out 0).trans rfl; have hcz35_1 : w34.cell? ⟨gb246, 1, none⟩ = some (.int .i32 0) := (blk_cell BK246.out 1).trans rfl; have hcz35_2 : w34.cell? ⟨gb246, 2, none⟩ = some (.bool false) := (blk_cell BK246.out 2).trans rfl; have hfz35_0 := blk_frozen BK246.out 0; have hfz35_1 := blk_frozen BK246.out 1; have hfz35_2 := blk_frozen BK246.out 2))
                 have n0_ : Aside0 (Kd.R k26 26 (((w34.setCell ⟨gb246, 0, none⟩ (.string ((rd_T26 t242 (ji18)).f0))).setCell ⟨gb246, 1, none⟩ (.int .i32 ((rd_T26 t242 (ji18)).f1))).setCell ⟨gb246, 2, none⟩ (.bool ((rd_T26 t242 (ji18)).f2))) w.heap.size (fun k_ => k_ ≠ gb246) (.slice (some ad245) t242.length co33) t242) := ⟨by (with_reducible repeat (first | apply Kd.R_alloc | apply Kd.R_drewN | apply Kd.R_drew)); exact Kd.R_mono (Kd.R_far (p := ⟨gb246, 2, none⟩) (Kd.R_far (p := ⟨gb246, 1, none⟩) (Kd.R_far (p := ⟨gb246, 0, none⟩) (Kd.R_mono HO244.out (fun k_ hk => (⟨hk, hk.2⟩ : _ ∧ k_ ≠ gb246))) (fun _ hk => hk.2) (.string ((rd_T26 t242 (ji18)).f0))) (fun _ hk => hk.2) (.int .i32 ((rd_T26 t242 (ji18)).f1))) (fun _ hk => hk.2) (.bool ((rd_T26 t242 (ji18)).f2))) (fun _ hk => hk.1.2)⟩
                 have n1_ : Aside0 ((((w34.setCell ⟨gb246, 0, none⟩ (.string ((rd_T26 t242 (ji18)).f0))).setCell ⟨gb246, 1, none⟩ (.int .i32 ((rd_T26 t242 (ji18)).f1))).setCell ⟨gb246, 2, none⟩ (.bool ((rd_T26 t242 (ji18)).f2))).heap[gb246]? = some (.cells #[.string ((rd_T26 t242 (ji18)).f0), .int .i32 ((rd_T26 t242 (ji18)).f1), .bool ((rd_T26 t242 (ji18)).f2)] 26 (0, 0))) := ⟨by (with_reducible repeat (first | refine blk_drewN ?_ _ | refine blk_drew ?_ | refine blk_alloc ?_ _)); refine blk_put (cs := #[.string ((rd_T26 t242 (ji18)).f0), .int .i32 ((rd_T26 t242 (ji18)).f1), .bool false]) ?_ 2 _ rfl; (with_reducible repeat (first | refine blk_drewN ?_ _ | refine blk_drew ?_ | refine blk_alloc ?_ _)); refine blk_put (cs := #[.string ((rd_T26 t242 (ji18)).f0), .int .i32 0, .bool false]) ?_ 1 _ rfl; (with_reducible repeat (first | refine blk_drewN ?_ _ | refine blk_drew ?_ | refine blk_alloc ?_ _)); refine blk_put (cs := #[.string (⟨#[]⟩ : ByteArray), .int .i32 0, .bool false]) ?_ 0 _ rfl; (with_reducible repeat (first | refine blk_drewN ?_ _ | refine blk_drew ?_ | refine blk_alloc ?_ _)); exact BK246.out⟩
                 have n2_ : Aside0 (Below w.heap.size w (((w34.setCell ⟨gb246, 0, none⟩ (.string ((rd_T26 t242 (ji18)).f0))).setCell ⟨gb246, 1, none⟩ (.int .i32 ((rd_T26 t242 (ji18)).f1))).setCell ⟨gb246, 2, none⟩ (.bool ((rd_T26 t242 (ji18)).f2)))) := ⟨by repeat (first | (with_reducible first | exact HB.out | apply below_alloc | apply pw_below_drewN | apply below_drew1 | refine below_set ?_ GE246.out) | exact HB.out)⟩
                 (try clear HO244)
                 (try clear BK246)
                 (try clear HB)
                 generalize (((w34.setCell ⟨gb246, 0, none⟩ (.string ((rd_T26 t242 (ji18)).f0))).setCell ⟨gb246, 1, none⟩ (.int .i32 ((rd_T26 t242 (ji18)).f1))).setCell ⟨gb246, 2, none⟩ (.bool ((rd_T26 t242 (ji18)).f2))) = w36 at n0_ n1_ n2_ ⊢
                 have HO244 := n0_
                 have BK246 := n1_
                 have HB := n2_
                 clear n0_ n1_ n2_
                 have n0_ := Aside0.mk (Kd.R_drew HO244.out)
                 have n1_ := Aside0.mk (blk_drew BK246.out)
                 have n2_ := Aside0.mk (below_drew1 HB.out)
                 clear HO244
                 clear BK246
                 clear HB
                 have HO244 := n0_
                 have BK246 := n1_
                 have HB := n2_
                 clear n0_ n1_ n2_
                 refine start_ (n := 25) (S := fun w' => True) (ds := []) #[false, false, false, false, false, false, false, false, false, false, false, false, false, false, false, false, false, false, false, false, false, false, false, false, false] (by kernel_rfl) rfl rfl trivial (fun hHeld => ?_); refine with_tabW selvedgelaw03_CharrefNames.tab10 selvedgelaw03_CharrefNames.bits10 (fun HT_ HW_ => ?_)
                 generalize w36.drew = w37 at HO244 BK246 HB hHeld ⊢
                 refine pure_ (i := 0) (N := some 41) (v := ?_) (a' := ?_) #[true, false, false, false, false, false, false, false, false, false, false, false, false, false, false, false, false, false, false, false, false, false, false, false, false] rfl rfl (any_of HT_.out (by kernel_rfl)) (fun _ _ _ h => h) (Or.inl ⟨by rfl, ?_⟩) ?_ ?_
                 rotate_left
                 ·intro w'
                  go_simp
                  with_reducible rfl
                 rotate_left
                 ·simp only [Act.put, List.setIfInBounds_toArray, List.set_cons_zero, List.set_cons_succ, i64_w, i32_w]
                  rfl
                 refine pure_ (i := 2) (N := some 43) (v := ?_) (a' := ?_) #[true, false, true, false, false, false, false, false, false, false, false, false, false, false, false, false, false, false, false, false, false, false, false, false, false] rfl rfl (any_of HT_.out (by kernel_rfl)) (fun _ _ _ h => h) (Or.inl ⟨by rfl, ?_⟩) ?_ ?_
                 rotate_left
                 ·intro w'
                  go_simp
                  with_reducible rfl
                 rotate_left
                 ·simp only [Act.put, List.setIfInBounds_toArray, List.set_cons_zero, List.set_cons_succ, i64_w, i32_w]
                  rfl
                 refine pure_ (i := 6) (N := some 47) (v := ?_) (a' := ?_) #[true, false, true, false, false, false, true, false, false, false, false, false, false, false, false, false, false, false, false, false, false, false, false, false, false] rfl rfl (any_of HT_.out (by kernel_rfl)) (fun _ _ _ h => h) (Or.inl ⟨by rfl, ?_⟩) ?_ ?_
                 rotate_left
                 ·intro w'
                  go_simp
                  with_reducible rfl
                 rotate_left
                 ·simp only [Act.put, List.setIfInBounds_toArray, List.set_cons_zero, List.set_cons_succ, i64_w, i32_w]
                  rfl
                 refine pure_ (i := 8) (N := some 49) (v := ?_) (a' := ?_) #[true, false, true, false, false, false, true, false, true, false, false, false, false, false, false, false, false, false, false, false, false, false, false, false, false] rfl rfl (any_of HT_.out (by kernel_rfl)) (fun _ _ _ h => h) (Or.inl ⟨by rfl, ?_⟩) ?_ ?_
                 rotate_left
                 ·intro w'
                  go_simp
                  with_reducible rfl
                 rotate_left
                 ·simp only [Act.put, List.setIfInBounds_toArray, List.set_cons_zero, List.set_cons_succ, i64_w, i32_w]
                  rfl
                 refine pure_ (i := 10) (N := some 51) (v := ?_) (a' := ?_) #[true, false, true, false, false, false, true, false, true, false, true, false, false, false, false, false, false, false, false, false, false, false, false, false, false] rfl rfl (any_of HT_.out (by kernel_rfl)) (fun _ _ _ h => h) (Or.inl ⟨by rfl, ?_⟩) ?_ ?_
                 rotate_left
                 ·intro w'
                  go_simp
                  with_reducible rfl
                 rotate_left
                 ·simp only [Act.put, List.setIfInBounds_toArray, List.set_cons_zero, List.set_cons_succ, i64_w, i32_w]
                  rfl
                 refine pure_ (i := 11) (N := some 52) (v := ?_) (a' := ?_) #[true, false, true, false, false, false, true, false, true, false, true, true, false, false, false, false, false, false, false, false, false, false, false, false, false] rfl rfl (any_of HT_.out (by kernel_rfl)) (fun _ _ _ h => h) (Or.inl ⟨by rfl, ?_⟩) ?_ ?_
                 rotate_left
                 ·intro w'
                  go_simp
                  with_reducible rfl
                 rotate_left
                 ·simp only [Act.put, List.setIfInBounds_toArray, List.set_cons_zero, List.set_cons_succ, i64_w, i32_w]
                  rfl
                 refine pure_ (i := 16) (N := some 57) (v := ?_) (a' := ?_) #[true, false, true, false, false, false, true, false, true, false, true, true, false, false, false, false, true, false, false, false, false, false, false, false, false] rfl rfl (any_of HT_.out (by kernel_rfl)) (fun _ _ _ h => h) (Or.inl ⟨by rfl, ?_⟩) ?_ ?_
                 rotate_left
                 ·intro w'
                  go_simp
                  with_reducible rfl
                 rotate_left
                 ·simp only [Act.put, List.setIfInBounds_toArray, List.set_cons_zero, List.set_cons_succ, i64_w, i32_w]
                  rfl
                 refine pure_ (i := 17) (N := some 58) (v := ?_) (a' := ?_) #[true, false, true, false, false, false, true, false, true, false, true, true, false, false, false, false, true, true, false, false, false, false, false, false, false] rfl rfl (any_of HT_.out (by kernel_rfl)) (fun _ _ _ h => h) (Or.inl ⟨by rfl, ?_⟩) ?_ ?_
                 rotate_left
                 ·intro w'
                  go_simp
                  with_reducible rfl
                 rotate_left
                 ·simp only [Act.put, List.setIfInBounds_toArray, List.set_cons_zero, List.set_cons_succ, i64_w, i32_w]
                  rfl
                 refine inv_at [1, 3, 4, 5, 7, 9, 12, 13, 14, 15, 18, 19, 20, 21, 22, 23, 24] (fun a0_ b a w' => ∃ (v249 : Value), a = putSel a0_ b [(1, 42, .string (a1 ++ (⟨#[38]⟩ : ByteArray))), (3, 44, .string ((rd_T26 t242 (ji18)).f0)), (4, 45, .string ((a1 ++ (⟨#[38]⟩ : ByteArray)) ++ ((rd_T26 t242 (ji18)).f0))), (5, 46, .string (((a1 ++ (⟨#[38]⟩ : ByteArray)) ++ ((rd_T26 t242 (ji18)).f0)) ++ (⟨#[59]⟩ : ByteArray))), (7, 48, .string ((((a1 ++ (⟨#[38]⟩ : ByteArray)) ++ ((rd_T26 t242 (ji18)).f0)) ++ (⟨#[59]⟩ : ByteArray)) ++ a2)), (9, 50, .string t247), (12, 53, .int .i32 ((rd_T26 t242 (ji18)).f1)), (13, 54, v249), (14, 55, .string t251), (15, 56, .string (a1 ++ t251)), (18, 59, .string t252), (19, 60, .string ((a1 ++ t251) ++ t252)), (20, 61, .bool (t247.toList == ((a1 ++ t251) ++ t252).toList)), (21, 62, .bool (t247.toList == ((a1 ++ t251) ++ t252).toList)), (22, 63, .bool t253), (23, 64, .bool t253), (24, 8, .bool t253)] ∧ (Kd.R k26 26 w' w.heap.size (fun k_ => k_ ≠ gb246) (.slice (some ad245) t242.length co33) t242) ∧ (w'.heap[gb246]? = some (.cells #[.string ((rd_T26 t242 (ji18)).f0), .int .i32 ((rd_T26 t242 (ji18)).f1), .bool ((rd_T26 t242 (ji18)).f2)] 26 (0, 0))) ∧ (Below w.heap.size w w') ∧ (b 13 = true → Kd.R (Kd.int .i32) 21 w' w.heap.size (fun _ => True) v249 y248)) HT_.out HW_.out (by kernel_rfl) (by kernel_rfl) ?_ ?_ ?_
                 ·exact ⟨.bool false, by simp only [putSel, Bool.false_eq_true, if_false], HO244.out, BK246.out, HB.out, fun h_ => absurd h_ (by decide)⟩
                 ·skip
                  clear BK246 HB HO244
                  refine steps_cons ?_ ?_
                  ·rintro b a w' ⟨v249, ha, Q_HO244, Q_BK246, Q_HB, Q_HO250⟩ hb_ hon hoff
                   refine ⟨_, rfl, fun K hK => ?_⟩
                   have e41 : a.tmps[41]? = some (.string a1) := by rw [ha]; exact (putSel_off rfl).trans rfl
                   replace ha := Aside0.mk ha
                   have HO244 := Aside0.mk Q_HO244
                   have BK246 := Aside0.mk Q_BK246
                   have HB := Aside0.mk Q_HB
                   refine value_ (w1 := w') (v := .string (a1 ++ (⟨#[38]⟩ : ByteArray))) (by rfl) rfl ?_ ?_
                   ·go_simp
                    (try simp only [i64_w])
                    try rfl
                   refine hK.out _ _ ⟨v249, (by rw [ha.out]; exact putSel_upk 0 hb_ rfl rfl rfl), Q_HO244, Q_BK246, Q_HB, Q_HO250⟩
                  refine steps_cons ?_ ?_
                  ·rintro b a w' ⟨v249, ha, Q_HO244, Q_BK246, Q_HB, Q_HO250⟩ hb_ hon hoff
                   refine ⟨_, rfl, fun K hK => ?_⟩
                   have e43 : a.tmps[43]? = some (.pointer (some ⟨gb246, 0, none⟩)) := by rw [ha]; exact (putSel_off rfl).trans rfl
                   replace ha := Aside0.mk ha
                   have HO244 := Aside0.mk Q_HO244
                   have BK246 := Aside0.mk Q_BK246
                   have HB := Aside0.mk Q_HB
                   have hc0_ : w'.cell? ⟨gb246, 0, none⟩ = some (.string ((rd_T26 t242 (ji18)).f0)) := (blk_cell BK246.out 0).trans rfl
                   have hc1_ : w'.cell? ⟨gb246, 1, none⟩ = some (.int .i32 ((rd_T26 t242 (ji18)).f1)) := (blk_cell BK246.out 1).trans rfl
                   have hc2_ : w'.cell? ⟨gb246, 2, none⟩ = some (.bool ((rd_T26 t242 (ji18)).f2)) := (blk_cell BK246.out 2).trans rfl
                   refine value_ (w1 := w') (v := .string ((rd_T26 t242 (ji18)).f0)) (by rfl) rfl ?_ ?_
                   ·go_simp
                    (try simp only [i64_w])
                    try rfl
                   refine hK.out _ _ ⟨v249, (by rw [ha.out]; exact putSel_upk 1 hb_ rfl rfl rfl), Q_HO244, Q_BK246, Q_HB, Q_HO250⟩
                  refine steps_cons ?_ ?_
                  ·rintro b a w' ⟨v249, ha, Q_HO244, Q_BK246, Q_HB, Q_HO250⟩ hb_ hon hoff
                   refine ⟨_, rfl, fun K hK => ?_⟩
                   have e42 : a.tmps[42]? = some (.string (a1 ++ (⟨#[38]⟩ : ByteArray))) := by rw [ha]; exact putSel_on (e := (1, 42, .string (a1 ++ (⟨#[38]⟩ : ByteArray)))) 0 rfl rfl (hon 1 (by kernel_rfl)) rfl
                   have e44 : a.tmps[44]? = some (.string ((rd_T26 t242 (ji18)).f0)) := by rw [ha]; exact putSel_on (e := (3, 44, .string ((rd_T26 t242 (ji18)).f0))) 1 rfl rfl (hon 3 (by kernel_rfl)) rfl
                   replace ha := Aside0.mk ha
                   have HO244 := Aside0.mk Q_HO244
                   have BK246 := Aside0.mk Q_BK246
                   have HB := Aside0.mk Q_HB
                   refine value_ (w1 := w') (v := .string ((a1 ++ (⟨#[38]⟩ : ByteArray)) ++ ((rd_T26 t242 (ji18)).f0))) (by rfl) rfl ?_ ?_
                   ·go_simp
                    (try simp only [i64_w])
                    try rfl
                   refine hK.out _ _ ⟨v249, (by rw [ha.out]; exact putSel_upk 2 hb_ rfl rfl rfl), Q_HO244, Q_BK246, Q_HB, Q_HO250⟩
                  refine steps_cons ?_ ?_
                  ·rintro b a w' ⟨v249, ha, Q_HO244, Q_BK246, Q_HB, Q_HO250⟩ hb_ hon hoff
                   refine ⟨_, rfl, fun K hK => ?_⟩
                   have e45 : a.tmps[45]? = some (.string ((a1 ++ (⟨#[38]⟩ : ByteArray)) ++ ((rd_T26 t242 (ji18)).f0))) := by rw [ha]; exact putSel_on (e := (4, 45, .string ((a1 ++ (⟨#[38]⟩ : ByteArray)) ++ ((rd_T26 t242 (ji18)).f0)))) 2 rfl rfl (hon 4 (by kernel_rfl)) rfl
                   replace ha := Aside0.mk ha
                   have HO244 := Aside0.mk Q_HO244
                   have BK246 := Aside0.mk Q_BK246
                   have HB := Aside0.mk Q_HB
                   refine value_ (w1 := w') (v := .string (((a1 ++ (⟨#[38]⟩ : ByteArray)) ++ ((rd_T26 t242 (ji18)).f0)) ++ (⟨#[59]⟩ : ByteArray))) (by rfl) rfl ?_ ?_
                   ·go_simp
                    (try simp only [i64_w])
                    try rfl
                   refine hK.out _ _ ⟨v249, (by rw [ha.out]; exact putSel_upk 3 hb_ rfl rfl rfl), Q_HO244, Q_BK246, Q_HB, Q_HO250⟩
                  refine steps_cons ?_ ?_
                  ·rintro b a w' ⟨v249, ha, Q_HO244, Q_BK246, Q_HB, Q_HO250⟩ hb_ hon hoff
                   refine ⟨_, rfl, fun K hK => ?_⟩
                   have e46 : a.tmps[46]? = some (.string (((a1 ++ (⟨#[38]⟩ : ByteArray)) ++ ((rd_T26 t242 (ji18)).f0)) ++ (⟨#[59]⟩ : ByteArray))) := by rw [ha]; exact putSel_on (e := (5, 46, .string (((a1 ++ (⟨#[38]⟩ : ByteArray)) ++ ((rd_T26 t242 (ji18)).f0)) ++ (⟨#[59]⟩ : ByteArray)))) 3 rfl rfl (hon 5 (by kernel_rfl)) rfl
                   have e47 : a.tmps[47]? = some (.string a2) := by rw [ha]; exact (putSel_off rfl).trans rfl
                   replace ha := Aside0.mk ha
                   have HO244 := Aside0.mk Q_HO244
                   have BK246 := Aside0.mk Q_BK246
                   have HB := Aside0.mk Q_HB
                   refine value_ (w1 := w') (v := .string ((((a1 ++ (⟨#[38]⟩ : ByteArray)) ++ ((rd_T26 t242 (ji18)).f0)) ++ (⟨#[59]⟩ : ByteArray)) ++ a2)) (by rfl) rfl ?_ ?_
                   ·go_simp
                    (try simp only [i64_w])
                    try rfl
                   refine hK.out _ _ ⟨v249, (by rw [ha.out]; exact putSel_upk 4 hb_ rfl rfl rfl), Q_HO244, Q_BK246, Q_HB, Q_HO250⟩
                  refine steps_cons ?_ ?_
                  ·rintro b a w' ⟨v249, ha, Q_HO244, Q_BK246, Q_HB, Q_HO250⟩ hb_ hon hoff
                   refine ⟨_, rfl, fun K hK => ?_⟩
                   have e48 : a.tmps[48]? = some (.string ((((a1 ++ (⟨#[38]⟩ : ByteArray)) ++ ((rd_T26 t242 (ji18)).f0)) ++ (⟨#[59]⟩ : ByteArray)) ++ a2)) := by rw [ha]; exact putSel_on (e := (7, 48, .string ((((a1 ++ (⟨#[38]⟩ : ByteArray)) ++ ((rd_T26 t242 (ji18)).f0)) ++ (⟨#[59]⟩ : ByteArray)) ++ a2))) 4 rfl rfl (hon 7 (by kernel_rfl)) rfl
                   have e49 : a.tmps[49]? = some (.bool a3) := by rw [ha]; exact (putSel_off rfl).trans rfl
                   replace ha := Aside0.mk ha
                   have HO244 := Aside0.mk Q_HO244
                   have BK246 := Aside0.mk Q_BK246
                   have HB := Aside0.mk Q_HB
                   refine goes_ Tryd.func14 (by kernel_rfl) rfl #[.string ((((a1 ++ (⟨#[38]⟩ : ByteArray)) ++ ((rd_T26 t242 (ji18)).f0)) ++ (⟨#[59]⟩ : ByteArray)) ++ a2), .bool a3] (by rfl) rfl rfl (by first | (simp only [List.map_toArray, List.map_cons, List.map_nil, Act.eval, Array.getD_eq_getD_getElem?, Option.getD_some, e48, e49]; done) | (simp only [List.map_toArray, List.map_cons, List.map_nil, Act.eval, Array.getD_eq_getD_getElem?, Option.getD_some, e48, e49]; rfl)) ?_
                   with_reducible refine (charref_Decode.calls k2 ((((a1 ++ (⟨#[38]⟩ : ByteArray)) ++ ((rd_T26 t242 (ji18)).f0)) ++ (⟨#[59]⟩ : ByteArray)) ++ a2) a3 t247 _ A25.out (by exact HT.out.below (mvB HB))).mono ?_
                   rintro e w38 ⟨rfl, hb⟩
                   refine ⟨_, rfl, ?_⟩
                   have n0_ := Aside0.mk (Kd.R_below (mvR HO244) hb)
                   have n1_ := Aside0.mk (blk_below (g := gb246) (o := .cells #[.string ((rd_T26 t242 (ji18)).f0), .int .i32 ((rd_T26 t242 (ji18)).f1), .bool ((rd_T26 t242 (ji18)).f2)] 26 (0, 0)) (by (with_reducible repeat (first | refine blk_drewN ?_ _ | refine blk_drew ?_ | refine blk_alloc ?_ _)); exact BK246.out) hb)
                   have n2_ := Aside0.mk (below_step (by repeat (first | (with_reducible first | exact HB.out | apply below_alloc | apply pw_below_drewN | apply below_drew1 | refine below_set ?_ GE246.out) | exact HB.out)) hb)
                   have z_HO250 := fun (h0_ : b 13 = true) => (show Kd.R (Kd.int .i32) 21 w38 w.heap.size (fun _ => True) v249 y248 from by first | exact (Kd.R_below (by (with_reducible repeat (first | apply Kd.R_alloc | apply Kd.R_drewN | apply Kd.R_drew)); exact (Q_HO250 h0_)) hb) | exact Kd.R_mono (Kd.R_below (by (with_reducible repeat (first | apply Kd.R_alloc | apply Kd.R_drewN | apply Kd.R_drew)); exact (Q_HO250 h0_)) hb) (fun _ h_ => by first | trivial | exact h_ | exact h_.1))
                   clear HO244
                   clear BK246
                   clear HB
                   have HO244 := n0_
                   have BK246 := n1_
                   have HB := n2_
                   clear n0_ n1_ n2_
                   (try clear hb)
                   (try clear hb2)
                   (try clear hk)
                   (try clear hi)
                   refine hK.out _ _ ⟨v249, (by rw [ha.out]; exact putSel_upk 5 hb_ rfl rfl rfl), (mvR HO244), (by (with_reducible repeat (first | refine blk_drewN ?_ _ | refine blk_drew ?_ | refine blk_alloc ?_ _)); exact BK246.out), (by repeat (first | (with_reducible first | exact HB.out | apply below_alloc | apply pw_below_drewN | apply below_drew1 | refine below_set ?_ GE246.out) | exact HB.out)), z_HO250⟩
                  refine steps_cons ?_ ?_
                  ·rintro b a w' ⟨v249, ha, Q_HO244, Q_BK246, Q_HB, Q_HO250⟩ hb_ hon hoff
                   refine ⟨_, rfl, fun K hK => ?_⟩
                   have e52 : a.tmps[52]? = some (.pointer (some ⟨gb246, 1, none⟩)) := by rw [ha]; exact (putSel_off rfl).trans rfl
                   replace ha := Aside0.mk ha
                   have HO244 := Aside0.mk Q_HO244
                   have BK246 := Aside0.mk Q_BK246
                   have HB := Aside0.mk Q_HB
                   have hc0_ : w'.cell? ⟨gb246, 0, none⟩ = some (.string ((rd_T26 t242 (ji18)).f0)) := (blk_cell BK246.out 0).trans rfl
                   have hc1_ : w'.cell? ⟨gb246, 1, none⟩ = some (.int .i32 ((rd_T26 t242 (ji18)).f1)) := (blk_cell BK246.out 1).trans rfl
                   have hc2_ : w'.cell? ⟨gb246, 2, none⟩ = some (.bool ((rd_T26 t242 (ji18)).f2)) := (blk_cell BK246.out 2).trans rfl
                   refine value_ (w1 := w') (v := .int .i32 ((rd_T26 t242 (ji18)).f1)) (by rfl) rfl ?_ ?_
                   ·go_simp
                    (try simp only [i64_w])
                    try rfl
                   refine hK.out _ _ ⟨v249, (by rw [ha.out]; exact putSel_upk 6 hb_ rfl rfl rfl), Q_HO244, Q_BK246, Q_HB, fun h0_ => absurd ((hoff 13 (by kernel_rfl)).symm.trans h0_) (by decide)⟩
                  refine steps_cons ?_ ?_
                  ·rintro b a w' ⟨v249, ha, Q_HO244, Q_BK246, Q_HB, Q_HO250⟩ hb_ hon hoff
                   refine ⟨_, rfl, fun K hK => ?_⟩
                   have e53 : a.tmps[53]? = some (.int .i32 ((rd_T26 t242 (ji18)).f1)) := by rw [ha]; exact putSel_on (e := (12, 53, .int .i32 ((rd_T26 t242 (ji18)).f1))) 6 rfl rfl (hon 12 (by kernel_rfl)) rfl
                   replace ha := Aside0.mk ha
                   have HO244 := Aside0.mk Q_HO244
                   have BK246 := Aside0.mk Q_BK246
                   have HB := Aside0.mk Q_HB
                   refine Kd.R_lit_step (Kd.int .i32) _ 21 ?hg (N := 54) ?hd (xs := ([(rd_T26 t242 (ji18)).f1] : List Int)) (inner := [.int .i32 ((rd_T26 t242 (ji18)).f1)]) (ok := fun _ => True) (okp := fun _ => True) ?hr ?hp (fun _ hk => hk) trivial (Below.refl _ _) (Nat.le_refl _) (by simp) ?_; (case hd => rfl); (case hg => rfl); (case hr => first | (go_simp; done) | (go_simp; rfl)); (case hp => exact (Reps.one (show Kd.M (Kd.int .i32) _ _ _ ((rd_T26 t242 (ji18)).f1) [.int .i32 ((rd_T26 t242 (ji18)).f1)] from rfl) (Reps.none _ _)))
                   intro v249 w38 ho39 hb hg_ hnew_
                   clear hg_ hnew_
                   (first | rw [← Ny248.out] at ho39 | (simp only [Int.reduceToNat] at ho39; rw [← Ny248.out] at ho39))
                   have n0_ := Aside0.mk (Kd.R_below (mvR HO244) hb)
                   have n1_ := Aside0.mk (Kd.R_lower ho39 (below_size (by repeat (first | (with_reducible first | exact HB.out | apply below_alloc | apply pw_below_drewN | apply below_drew1 | refine below_set ?_ GE246.out) | exact HB.out))))
                   have n2_ := Aside0.mk (blk_below (g := gb246) (o := .cells #[.string ((rd_T26 t242 (ji18)).f0), .int .i32 ((rd_T26 t242 (ji18)).f1), .bool ((rd_T26 t242 (ji18)).f2)] 26 (0, 0)) (by (with_reducible repeat (first | refine blk_drewN ?_ _ | refine blk_drew ?_ | refine blk_alloc ?_ _)); exact BK246.out) hb)
                   have n3_ := Aside0.mk (below_step (by repeat (first | (with_reducible first | exact HB.out | apply below_alloc | apply pw_below_drewN | apply below_drew1 | refine below_set ?_ GE246.out) | exact HB.out)) hb)
                   clear HO244
                   clear BK246
                   clear HB
                   have HO244 := n0_
                   have HO250 := n1_
                   have BK246 := n2_
                   have HB := n3_
                   clear n0_ n1_ n2_ n3_
                   clear hb ho39
                   refine hK.out _ _ ⟨v249, (by rw [ha.out]; exact putSel_upk 7 hb_ rfl rfl rfl), (mvR HO244), (by (with_reducible repeat (first | refine blk_drewN ?_ _ | refine blk_drew ?_ | refine blk_alloc ?_ _)); exact BK246.out), (by repeat (first | (with_reducible first | exact HB.out | apply below_alloc | apply pw_below_drewN | apply below_drew1 | refine below_set ?_ GE246.out) | exact HB.out)), fun _ => (mvR HO250)⟩
                  refine steps_cons ?_ ?_
                  ·rintro b a w' ⟨v249, ha, Q_HO244, Q_BK246, Q_HB, Q_HO250⟩ hb_ hon hoff
                   refine ⟨_, rfl, fun K hK => ?_⟩
                   have e54 : a.tmps[54]? = some (v249) := by rw [ha]; exact putSel_on (e := (13, 54, v249)) 7 rfl rfl (hon 13 (by kernel_rfl)) rfl
                   replace ha := Aside0.mk ha
                   have HO244 := Aside0.mk Q_HO244
                   have BK246 := Aside0.mk Q_BK246
                   have HB := Aside0.mk Q_HB
                   have HO250 := Aside0.mk (Q_HO250 (hon 13 (by kernel_rfl)))
                   obtain ⟨Ao42, co42, eo42⟩ := Kd.R_slice HO250.out
                   (first | subst eo42 | (injection eo42 with f1_ f2_ f3_; have f4_ := f1_.symm; have f5_ := f3_.symm; clear f1_ f2_ f3_; subst f4_; subst f5_))
                   refine goes_ Tryd.func16 (by kernel_rfl) rfl #[.slice Ao42 y248.length co42] (by rfl) rfl rfl (by first | (simp only [List.map_toArray, List.map_cons, List.map_nil, Act.eval, Array.getD_eq_getD_getElem?, Option.getD_some, e54]; done) | (simp only [List.map_toArray, List.map_cons, List.map_nil, Act.eval, Array.getD_eq_getD_getElem?, Option.getD_some, e54]; rfl)) ?_
                   with_reducible refine (selvedgeref02_String.calls k2 _ _ y248 t251 _ ?side1 ?side2 A26.out).mono ?_
                   (case side1 => repeat (first | exact (Kd.R_reads' HO250.out).2.2 | (with_reducible refine Kd.C_alloc ?_ _) | (with_reducible refine Kd.C_drewN ?_ _) | (with_reducible refine Kd.C_drew ?_)))
                   (case side2 => exact (Kd.R_reads' HO250.out).2.1)
                   rintro e w43 ⟨rfl, hb⟩
                   refine ⟨_, rfl, ?_⟩
                   have n0_ := Aside0.mk (Kd.R_below (mvR HO244) hb)
                   have n1_ := Aside0.mk (Kd.R_below (mvR HO250) hb)
                   have n2_ := Aside0.mk (blk_below (g := gb246) (o := .cells #[.string ((rd_T26 t242 (ji18)).f0), .int .i32 ((rd_T26 t242 (ji18)).f1), .bool ((rd_T26 t242 (ji18)).f2)] 26 (0, 0)) (by (with_reducible repeat (first | refine blk_drewN ?_ _ | refine blk_drew ?_ | refine blk_alloc ?_ _)); exact BK246.out) hb)
                   have n3_ := Aside0.mk (below_step (by repeat (first | (with_reducible first | exact HB.out | apply below_alloc | apply pw_below_drewN | apply below_drew1 | refine below_set ?_ GE246.out) | exact HB.out)) hb)
                   clear HO244
                   clear HO250
                   clear BK246
                   clear HB
                   have HO244 := n0_
                   have HO250 := n1_
                   have BK246 := n2_
                   have HB := n3_
                   clear n0_ n1_ n2_ n3_
                   (try clear hb)
                   (try clear hb2)
                   (try clear hk)
                   (try clear hi)
                   refine hK.out _ _ ⟨.slice Ao42 y248.length co42, (by rw [ha.out]; exact putSel_upk 8 hb_ rfl rfl rfl), (mvR HO244), (by (with_reducible repeat (first | refine blk_drewN ?_ _ | refine blk_drew ?_ | refine blk_alloc ?_ _)); exact BK246.out), (by repeat (first | (with_reducible first | exact HB.out | apply below_alloc | apply pw_below_drewN | apply below_drew1 | refine below_set ?_ GE246.out) | exact HB.out)), fun _ => (mvR HO250)⟩
                  refine steps_cons ?_ ?_
                  ·rintro b a w' ⟨v249, ha, Q_HO244, Q_BK246, Q_HB, Q_HO250⟩ hb_ hon hoff
                   refine ⟨_, rfl, fun K hK => ?_⟩
                   have e51 : a.tmps[51]? = some (.string a1) := by rw [ha]; exact (putSel_off rfl).trans rfl
                   have e55 : a.tmps[55]? = some (.string t251) := by rw [ha]; exact putSel_on (e := (14, 55, .string t251)) 8 rfl rfl (hon 14 (by kernel_rfl)) rfl
                   replace ha := Aside0.mk ha
                   have HO244 := Aside0.mk Q_HO244
                   have BK246 := Aside0.mk Q_BK246
                   have HB := Aside0.mk Q_HB
                   have HO250 := Aside0.mk (Q_HO250 (hon 13 (by kernel_rfl)))
                   refine value_ (w1 := w') (v := .string (a1 ++ t251)) (by rfl) rfl ?_ ?_
                   ·go_simp
                    (try simp only [i64_w])
                    try rfl
                   refine hK.out _ _ ⟨v249, (by rw [ha.out]; exact putSel_upk 9 hb_ rfl rfl rfl), Q_HO244, Q_BK246, Q_HB, Q_HO250⟩
                  refine steps_cons ?_ ?_
                  ·rintro b a w' ⟨v249, ha, Q_HO244, Q_BK246, Q_HB, Q_HO250⟩ hb_ hon hoff
                   refine ⟨_, rfl, fun K hK => ?_⟩
                   have e57 : a.tmps[57]? = some (.string a2) := by rw [ha]; exact (putSel_off rfl).trans rfl
                   have e58 : a.tmps[58]? = some (.bool a3) := by rw [ha]; exact (putSel_off rfl).trans rfl
                   replace ha := Aside0.mk ha
                   have HO244 := Aside0.mk Q_HO244
                   have BK246 := Aside0.mk Q_BK246
                   have HB := Aside0.mk Q_HB
                   have HO250 := Aside0.mk (Q_HO250 (hon 13 (by kernel_rfl)))
                   refine goes_ Tryd.func14 (by kernel_rfl) rfl #[.string a2, .bool a3] (by rfl) rfl rfl (by first | (simp only [List.map_toArray, List.map_cons, List.map_nil, Act.eval, Array.getD_eq_getD_getElem?, Option.getD_some, e57, e58]; done) | (simp only [List.map_toArray, List.map_cons, List.map_nil, Act.eval, Array.getD_eq_getD_getElem?, Option.getD_some, e57, e58]; rfl)) ?_
                   with_reducible refine (charref_Decode.calls k2 a2 a3 t252 _ A28.out (by exact HT.out.below (mvB HB))).mono ?_
                   rintro e w44 ⟨rfl, hb⟩
                   refine ⟨_, rfl, ?_⟩
                   have n0_ := Aside0.mk (Kd.R_below (mvR HO244) hb)
                   have n1_ := Aside0.mk (Kd.R_below (mvR HO250) hb)
                   have n2_ := Aside0.mk (blk_below (g := gb246) (o := .cells #[.string ((rd_T26 t242 (ji18)).f0), .int .i32 ((rd_T26 t242 (ji18)).f1), .bool ((rd_T26 t242 (ji18)).f2)] 26 (0, 0)) (by (with_reducible repeat (first | refine blk_drewN ?_ _ | refine blk_drew ?_ | refine blk_alloc ?_ _)); exact BK246.out) hb)
                   have n3_ := Aside0.mk (below_step (by repeat (first | (with_reducible first | exact HB.out | apply below_alloc | apply pw_below_drewN | apply below_drew1 | refine below_set ?_ GE246.out) | exact HB.out)) hb)
                   clear HO244
                   clear HO250
                   clear BK246
                   clear HB
                   have HO244 := n0_
                   have HO250 := n1_
                   have BK246 := n2_
                   have HB := n3_
                   clear n0_ n1_ n2_ n3_
                   (try clear hb)
                   (try clear hb2)
                   (try clear hk)
                   (try clear hi)
                   refine hK.out _ _ ⟨v249, (by rw [ha.out]; exact putSel_upk 10 hb_ rfl rfl rfl), (mvR HO244), (by (with_reducible repeat (first | refine blk_drewN ?_ _ | refine blk_drew ?_ | refine blk_alloc ?_ _)); exact BK246.out), (by repeat (first | (with_reducible first | exact HB.out | apply below_alloc | apply pw_below_drewN | apply below_drew1 | refine below_set ?_ GE246.out) | exact HB.out)), fun _ => (mvR HO250)⟩
                  refine steps_cons ?_ ?_
                  ·rintro b a w' ⟨v249, ha, Q_HO244, Q_BK246, Q_HB, Q_HO250⟩ hb_ hon hoff
                   refine ⟨_, rfl, fun K hK => ?_⟩
                   have e56 : a.tmps[56]? = some (.string (a1 ++ t251)) := by rw [ha]; exact putSel_on (e := (15, 56, .string (a1 ++ t251))) 9 rfl rfl (hon 15 (by kernel_rfl)) rfl
                   have e59 : a.tmps[59]? = some (.string t252) := by rw [ha]; exact putSel_on (e := (18, 59, .string t252)) 10 rfl rfl (hon 18 (by kernel_rfl)) rfl
                   replace ha := Aside0.mk ha
                   have HO244 := Aside0.mk Q_HO244
                   have BK246 := Aside0.mk Q_BK246
                   have HB := Aside0.mk Q_HB
                   have HO250 := Aside0.mk (Q_HO250 (hon 13 (by kernel_rfl)))
                   refine value_ (w1 := w') (v := .string ((a1 ++ t251) ++ t252)) (by rfl) rfl ?_ ?_
                   ·go_simp
                    (try simp only [i64_w])
                    try rfl
                   refine hK.out _ _ ⟨v249, (by rw [ha.out]; exact putSel_upk 11 hb_ rfl rfl rfl), Q_HO244, Q_BK246, Q_HB, Q_HO250⟩
                  refine steps_cons ?_ ?_
                  ·rintro b a w' ⟨v249, ha, Q_HO244, Q_BK246, Q_HB, Q_HO250⟩ hb_ hon hoff
                   refine ⟨_, rfl, fun K hK => ?_⟩
                   have e50 : a.tmps[50]? = some (.string t247) := by rw [ha]; exact putSel_on (e := (9, 50, .string t247)) 5 rfl rfl (hon 9 (by kernel_rfl)) rfl
                   have e60 : a.tmps[60]? = some (.string ((a1 ++ t251) ++ t252)) := by rw [ha]; exact putSel_on (e := (19, 60, .string ((a1 ++ t251) ++ t252))) 11 rfl rfl (hon 19 (by kernel_rfl)) rfl
                   replace ha := Aside0.mk ha
                   have HO244 := Aside0.mk Q_HO244
                   have BK246 := Aside0.mk Q_BK246
                   have HB := Aside0.mk Q_HB
                   have HO250 := Aside0.mk (Q_HO250 (hon 13 (by kernel_rfl)))
                   refine value_ (w1 := w') (v := .bool (t247.toList == ((a1 ++ t251) ++ t252).toList)) (by rfl) rfl ?_ ?_
                   ·go_simp
                    (try simp only [i64_w])
                    try rfl
                   refine hK.out _ _ ⟨v249, (by rw [ha.out]; exact putSel_upk 12 hb_ rfl rfl rfl), Q_HO244, Q_BK246, Q_HB, Q_HO250⟩
                  refine steps_cons ?_ ?_
                  ·rintro b a w' ⟨v249, ha, Q_HO244, Q_BK246, Q_HB, Q_HO250⟩ hb_ hon hoff
                   refine ⟨_, rfl, fun K hK => ?_⟩
                   have e61 : a.tmps[61]? = some (.bool (t247.toList == ((a1 ++ t251) ++ t252).toList)) := by rw [ha]; exact putSel_on (e := (20, 61, .bool (t247.toList == ((a1 ++ t251) ++ t252).toList))) 12 rfl rfl (hon 20 (by kernel_rfl)) rfl
                   replace ha := Aside0.mk ha
                   have HO244 := Aside0.mk Q_HO244
                   have BK246 := Aside0.mk Q_BK246
                   have HB := Aside0.mk Q_HB
                   have HO250 := Aside0.mk (Q_HO250 (hon 13 (by kernel_rfl)))
                   refine value_ (w1 := w') (v := .bool (t247.toList == ((a1 ++ t251) ++ t252).toList)) (by rfl) rfl ?_ ?_
                   ·go_simp
                    (try simp only [i64_w])
                    try rfl
                   refine hK.out _ _ ⟨v249, (by rw [ha.out]; exact putSel_upk 13 hb_ rfl rfl rfl), Q_HO244, Q_BK246, Q_HB, Q_HO250⟩
                  refine steps_cons ?_ ?_
                  ·rintro b a w' ⟨v249, ha, Q_HO244, Q_BK246, Q_HB, Q_HO250⟩ hb_ hon hoff
                   refine ⟨_, rfl, fun K hK => ?_⟩
                   have e62 : a.tmps[62]? = some (.bool (t247.toList == ((a1 ++ t251) ++ t252).toList)) := by rw [ha]; exact putSel_on (e := (21, 62, .bool (t247.toList == ((a1 ++ t251) ++ t252).toList))) 13 rfl rfl (hon 21 (by kernel_rfl)) rfl
                   replace ha := Aside0.mk ha
                   have HO244 := Aside0.mk Q_HO244
                   have BK246 := Aside0.mk Q_BK246
                   have HB := Aside0.mk Q_HB
                   have HO250 := Aside0.mk (Q_HO250 (hon 13 (by kernel_rfl)))
                   refine goes_ Tryd.func10 (by kernel_rfl) rfl #[] (wanted_on rfl rfl rfl (e62.trans (by first | rfl | (simp [*]; done)))) rfl rfl (by first | (simp only [List.map_toArray, List.map_cons, List.map_nil, Act.eval, Array.getD_eq_getD_getElem?, Option.getD_some, e62]; done) | (simp only [List.map_toArray, List.map_cons, List.map_nil, Act.eval, Array.getD_eq_getD_getElem?, Option.getD_some, e62]; rfl)) ?_
                   with_reducible refine (selvedgelaw03_works.calls k2  t253 _ A31.out (by exact HT.out.below (mvB HB))).mono ?_
                   rintro e w45 ⟨rfl, hb⟩
                   refine ⟨_, rfl, ?_⟩
                   have n0_ := Aside0.mk (Kd.R_below (mvR HO244) hb)
                   have n1_ := Aside0.mk (Kd.R_below (mvR HO250) hb)
                   have n2_ := Aside0.mk (blk_below (g := gb246) (o := .cells #[.string ((rd_T26 t242 (ji18)).f0), .int .i32 ((rd_T26 t242 (ji18)).f1), .bool ((rd_T26 t242 (ji18)).f2)] 26 (0, 0)) (by (with_reducible repeat (first | refine blk_drewN ?_ _ | refine blk_drew ?_ | refine blk_alloc ?_ _)); exact BK246.out) hb)
                   have n3_ := Aside0.mk (below_step (by repeat (first | (with_reducible first | exact HB.out | apply below_alloc | apply pw_below_drewN | apply below_drew1 | refine below_set ?_ GE246.out) | exact HB.out)) hb)
                   clear HO244
                   clear HO250
                   clear BK246
                   clear HB
                   have HO244 := n0_
                   have HO250 := n1_
                   have BK246 := n2_
                   have HB := n3_
                   clear n0_ n1_ n2_ n3_
                   (try clear hb)
                   (try clear hb2)
                   (try clear hk)
                   (try clear hi)
                   refine hK.out _ _ ⟨v249, (by rw [ha.out]; exact putSel_upk 14 hb_ rfl rfl rfl), (mvR HO244), (by (with_reducible repeat (first | refine blk_drewN ?_ _ | refine blk_drew ?_ | refine blk_alloc ?_ _)); exact BK246.out), (by repeat (first | (with_reducible first | exact HB.out | apply below_alloc | apply pw_below_drewN | apply below_drew1 | refine below_set ?_ GE246.out) | exact HB.out)), fun _ => (mvR HO250)⟩
                  refine steps_cons ?_ ?_
                  ·rintro b a w' ⟨v249, ha, Q_HO244, Q_BK246, Q_HB, Q_HO250⟩ hb_ hon hoff
                   refine ⟨_, rfl, fun K hK => ?_⟩
                   have e62 : a.tmps[62]? = some (.bool (t247.toList == ((a1 ++ t251) ++ t252).toList)) := by rw [ha]; exact putSel_on (e := (21, 62, .bool (t247.toList == ((a1 ++ t251) ++ t252).toList))) 13 rfl rfl (hon 21 (by kernel_rfl)) rfl
                   have e63 : a.tmps[63]? = some (.bool t253) := by rw [ha]; exact putSel_on (e := (22, 63, .bool t253)) 14 rfl rfl (hon 22 (by kernel_rfl)) rfl
                   replace ha := Aside0.mk ha
                   have HO244 := Aside0.mk Q_HO244
                   have BK246 := Aside0.mk Q_BK246
                   have HB := Aside0.mk Q_HB
                   have HO250 := Aside0.mk (Q_HO250 (hon 13 (by kernel_rfl)))
                   refine value_ (w1 := w') (v := .bool t253) (by rfl) rfl ?_ ?_
                   ·go_simp
                    (try simp only [i64_w])
                    try rfl
                   refine hK.out _ _ ⟨v249, (by rw [ha.out]; exact putSel_upk 15 hb_ rfl rfl rfl), Q_HO244, Q_BK246, Q_HB, Q_HO250⟩
                  refine steps_cons ?_ ?_
                  ·rintro b a w' ⟨v249, ha, Q_HO244, Q_BK246, Q_HB, Q_HO250⟩ hb_ hon hoff
                   refine ⟨_, rfl, fun K hK => ?_⟩
                   have e64 : a.tmps[64]? = some (.bool t253) := by rw [ha]; exact putSel_on (e := (23, 64, .bool t253)) 15 rfl rfl (hon 23 (by kernel_rfl)) rfl
                   replace ha := Aside0.mk ha
                   have HO244 := Aside0.mk Q_HO244
                   have BK246 := Aside0.mk Q_BK246
                   have HB := Aside0.mk Q_HB
                   have HO250 := Aside0.mk (Q_HO250 (hon 13 (by kernel_rfl)))
                   refine value_ (w1 := w') (v := .bool t253) (by rfl) rfl ?_ ?_
                   ·go_simp
                    (try simp only [i64_w])
                    try rfl
                   refine hK.out _ _ ⟨v249, (by rw [ha.out]; exact putSel_upk 16 hb_ rfl rfl rfl), Q_HO244, Q_BK246, Q_HB, Q_HO250⟩
                  exact steps_nil
                 rintro b a w45 hall ⟨v249, ha, Q_HO244, Q_BK246, Q_HB, Q_HO250⟩
                 clear BK246 HB HO244
                 have hb1_ := hall 1 (by kernel_rfl)
                 have hb3_ := hall 3 (by kernel_rfl)
                 have hb4_ := hall 4 (by kernel_rfl)
                 have hb5_ := hall 5 (by kernel_rfl)
                 have hb7_ := hall 7 (by kernel_rfl)
                 have hb9_ := hall 9 (by kernel_rfl)
                 have hb12_ := hall 12 (by kernel_rfl)
                 have hb13_ := hall 13 (by kernel_rfl)
                 have hb14_ := hall 14 (by kernel_rfl)
                 have hb15_ := hall 15 (by kernel_rfl)
                 have hb18_ := hall 18 (by kernel_rfl)
                 have hb19_ := hall 19 (by kernel_rfl)
                 have hb20_ := hall 20 (by kernel_rfl)
                 have hb21_ := hall 21 (by kernel_rfl)
                 have hb22_ := hall 22 (by kernel_rfl)
                 have hb23_ := hall 23 (by kernel_rfl)
                 have hb24_ := hall 24 (by kernel_rfl)
                 subst ha
                 simp only [putSel, hb1_, hb3_, hb4_, hb5_, hb7_, hb9_, hb12_, hb13_, hb14_, hb15_, hb18_, hb19_, hb20_, hb21_, hb22_, hb23_, hb24_, if_true, Act.put, List.setIfInBounds_toArray, List.set_cons_zero, List.set_cons_succ]
                 have HO244 := Aside0.mk Q_HO244
                 clear Q_HO244
                 have BK246 := Aside0.mk Q_BK246
                 clear Q_BK246
                 have HB := Aside0.mk Q_HB
                 clear Q_HB
                 have HO250 := Aside0.mk (Q_HO250 hb13_)
                 clear Q_HO250
                 clear hall hb1_ hb3_ hb4_ hb5_ hb7_ hb9_ hb12_ hb13_ hb14_ hb15_ hb18_ hb19_ hb20_ hb21_ hb22_ hb23_ hb24_
                 try go_wp2
                 go_ret
                 exact ⟨by first | rfl | (simp [errW_none, errW_some] <;> rfl) | (simp only [← hji18]; first | rfl | (simp [errW_none, errW_some] <;> rfl)) | (simp [*, errW_none, errW_some] <;> rfl), by repeat (first | (with_reducible first | exact HB.out | apply below_alloc | apply pw_below_drewN | apply below_drew1 | refine below_set ?_ GE246.out) | exact HB.out)⟩
                ·rw [if_neg c30] at H
                 have c30b0 : (t247.toList == ((a1 ++ t251) ++ t252).toList) = false := beq_eq_false_iff_ne.mpr c30
                 have c30b1 : (t247.toList != ((a1 ++ t251) ++ t252).toList) = true := bne_iff_ne.mpr c30
                 obtain rfl := Option.some.inj H
                 try go_wp2_with (first | ((with_reducible refine gate_callee (f := 11) rfl ?_); refine goesL_ (some 32) rfl rfl Tryd.func11 (by kernel_rfl) rfl #[] rfl (by (try simp only [List.map_toArray, List.map_cons, List.map_nil]); first | done | rfl | (simp only [List.length_drop, List.length_take]; rfl)) ?_; (with_reducible refine (selvedgeref03_Names.calls  t242 _ A16.out).mono ?_); rintro e w46 ⟨v243, rfl, ho0, hb⟩; refine ⟨_, rfl, ?_⟩; have n0_ := Aside0.mk (Kd.R_lower ho0 (below_size (mvB HB))); have n1_ := Aside0.mk (below_step (mvB HB) hb); clear HB; have HO244 := n0_; have HB := n1_; clear n0_ n1_; (try clear hb); (try clear hb2); (try clear hk); (try clear hi); (try clear ho0); obtain ⟨Ao47, co47, eo47⟩ := Kd.R_slice HO244.out; subst eo47; have p245 := dT (0 ≤ ((ji18) : Int)); have q245 := dT ((ji18) < (t242.length : Int)); obtain ⟨ad245, e245, hx245_0, hx245_1, hx245_2⟩ := at_T26 (Kd.R_reads' HO244.out).2.2 (ji18) p245 q245; cases e245; replace p245 := eq_true p245; replace q245 := eq_true q245) | ((with_reducible refine gate_dst (N := 11) rfl ?_); (try (refine gate_guard (by rfl) ?_; dsimp only)); refine box_event ?hg (N := 11) ?hd (cs := #[.string (⟨#[]⟩ : ByteArray), .int .i32 0, .bool false]) (t := 26) ?hr ?_; (case hd => rfl); (case hg => rfl); (case hr => first | (go_simp; done) | (go_simp; rfl)); intro gb246 hg w48 hbox hb; have n0_ := Aside0.mk (Kd.R_below (Kd.R_elderB (mvR HO244) gb246 (Nat.le_of_eq hg.symm)) hb); have n1_ := Aside0.mk (below_step (mvB HB) hb); have n2_ := Aside0.mk (hbox); have n3_ := Aside0.mk ((by rw [hg]; exact (below_size (mvB HB)) : w.heap.size ≤ gb246)); have n4_ := Aside0.mk ((by rw [hg]; exact (below_size (mvB HB)) : w.heap.size ≤ gb246)); clear HO244; clear HB; have HO244 := n0_; have HB := n1_; have BK246 := n2_; have GW246 := n3_; have GE246 := n4_; clear n0_ n1_ n2_ n3_ n4_; clear hb hbox hg; have hcz49_0 : w48.cell? ⟨gb246, 0, none⟩ = some (.string (⟨#[]⟩ : ByteArray)) := (blk_cell BK246.out 0).trans rfl; have hcz49_1 : w48.cell? ⟨gb246, 1, none⟩ = some (.int .i32 0) := (blk_cell BK246.out 1).trans rfl; have hcz49_2 : w48.cell? ⟨gb246, 2, none⟩ = some (.bool false) := (blk_cell BK246.out 2).trans rfl; have hfz49_0 := blk_frozen BK246.out 0; have hfz49_1 := blk_frozen BK246.out 1; have hfz49_2 := blk_frozen BK246.out 2))
                 have n0_ : Aside0 (Kd.R k26 26 (((w48.setCell ⟨gb246, 0, none⟩ (.string ((rd_T26 t242 (ji18)).f0))).setCell ⟨gb246, 1, none⟩ (.int .i32 ((rd_T26 t242 (ji18)).f1))).setCell ⟨gb246, 2, none⟩ (.bool ((rd_T26 t242 (ji18)).f2))) w.heap.size (fun k_ => k_ ≠ gb246) (.slice (some ad245) t242.length co47) t242) := ⟨by (with_reducible repeat (first | apply Kd.R_alloc | apply Kd.R_drewN | apply Kd.R_drew)); exact Kd.R_mono (Kd.R_far (p := ⟨gb246, 2, none⟩) (Kd.R_far (p := ⟨gb246, 1, none⟩) (Kd.R_far (p := ⟨gb246, 0, none⟩) (Kd.R_mono HO244.out (fun k_ hk => (⟨hk, hk.2⟩ : _ ∧ k_ ≠ gb246))) (fun _ hk => hk.2) (.string ((rd_T26 t242 (ji18)).f0))) (fun _ hk => hk.2) (.int .i32 ((rd_T26 t242 (ji18)).f1))) (fun _ hk => hk.2) (.bool ((rd_T26 t242 (ji18)).f2))) (fun _ hk => hk.1.2)⟩
                 have n1_ : Aside0 ((((w48.setCell ⟨gb246, 0, none⟩ (.string ((rd_T26 t242 (ji18)).f0))).setCell ⟨gb246, 1, none⟩ (.int .i32 ((rd_T26 t242 (ji18)).f1))).setCell ⟨gb246, 2, none⟩ (.bool ((rd_T26 t242 (ji18)).f2))).heap[gb246]? = some (.cells #[.string ((rd_T26 t242 (ji18)).f0), .int .i32 ((rd_T26 t242 (ji18)).f1), .bool ((rd_T26 t242 (ji18)).f2)] 26 (0, 0))) := ⟨by (with_reducible repeat (first | refine blk_drewN ?_ _ | refine blk_drew ?_ | refine blk_alloc ?_ _)); refine blk_put (cs := #[.string ((rd_T26 t242 (ji18)).f0), .int .i32 ((rd_T26 t242 (ji18)).f1), .bool false]) ?_ 2 _ rfl; (with_reducible repeat (first | refine blk_drewN ?_ _ | refine blk_drew ?_ | refine blk_alloc ?_ _)); refine blk_put (cs := #[.string ((rd_T26 t242 (ji18)).f0), .int .i32 0, .bool false]) ?_ 1 _ rfl; (with_reducible repeat (first | refine blk_drewN ?_ _ | refine blk_drew ?_ | refine blk_alloc ?_ _)); refine blk_put (cs := #[.string (⟨#[]⟩ : ByteArray), .int .i32 0, .bool false]) ?_ 0 _ rfl; (with_reducible repeat (first | refine blk_drewN ?_ _ | refine blk_drew ?_ | refine blk_alloc ?_ _)); exact BK246.out⟩
                 have n2_ : Aside0 (Below w.heap.size w (((w48.setCell ⟨gb246, 0, none⟩ (.string ((rd_T26 t242 (ji18)).f0))).setCell ⟨gb246, 1, none⟩ (.int .i32 ((rd_T26 t242 (ji18)).f1))).setCell ⟨gb246, 2, none⟩ (.bool ((rd_T26 t242 (ji18)).f2)))) := ⟨by repeat (first | (with_reducible first | exact HB.out | apply below_alloc | apply pw_below_drewN | apply below_drew1 | refine below_set ?_ GE246.out) | exact HB.out)⟩
                 (try clear HO244)
                 (try clear BK246)
                 (try clear HB)
                 generalize (((w48.setCell ⟨gb246, 0, none⟩ (.string ((rd_T26 t242 (ji18)).f0))).setCell ⟨gb246, 1, none⟩ (.int .i32 ((rd_T26 t242 (ji18)).f1))).setCell ⟨gb246, 2, none⟩ (.bool ((rd_T26 t242 (ji18)).f2))) = w50 at n0_ n1_ n2_ ⊢
                 have HO244 := n0_
                 have BK246 := n1_
                 have HB := n2_
                 clear n0_ n1_ n2_
                 have n0_ := Aside0.mk (Kd.R_drew HO244.out)
                 have n1_ := Aside0.mk (blk_drew BK246.out)
                 have n2_ := Aside0.mk (below_drew1 HB.out)
                 clear HO244
                 clear BK246
                 clear HB
                 have HO244 := n0_
                 have BK246 := n1_
                 have HB := n2_
                 clear n0_ n1_ n2_
                 refine start_ (n := 25) (S := fun w' => True) (ds := []) #[false, false, false, false, false, false, false, false, false, false, false, false, false, false, false, false, false, false, false, false, false, false, false, false, false] (by kernel_rfl) rfl rfl trivial (fun hHeld => ?_); refine with_tabW selvedgelaw03_CharrefNames.tab10 selvedgelaw03_CharrefNames.bits10 (fun HT_ HW_ => ?_)
                 generalize w50.drew = w51 at HO244 BK246 HB hHeld ⊢
                 refine pure_ (i := 0) (N := some 41) (v := ?_) (a' := ?_) #[true, false, false, false, false, false, false, false, false, false, false, false, false, false, false, false, false, false, false, false, false, false, false, false, false] rfl rfl (any_of HT_.out (by kernel_rfl)) (fun _ _ _ h => h) (Or.inl ⟨by rfl, ?_⟩) ?_ ?_
                 rotate_left
                 ·intro w'
                  go_simp
                  with_reducible rfl
                 rotate_left
                 ·simp only [Act.put, List.setIfInBounds_toArray, List.set_cons_zero, List.set_cons_succ, i64_w, i32_w]
                  rfl
                 refine pure_ (i := 2) (N := some 43) (v := ?_) (a' := ?_) #[true, false, true, false, false, false, false, false, false, false, false, false, false, false, false, false, false, false, false, false, false, false, false, false, false] rfl rfl (any_of HT_.out (by kernel_rfl)) (fun _ _ _ h => h) (Or.inl ⟨by rfl, ?_⟩) ?_ ?_
                 rotate_left
                 ·intro w'
                  go_simp
                  with_reducible rfl
                 rotate_left
                 ·simp only [Act.put, List.setIfInBounds_toArray, List.set_cons_zero, List.set_cons_succ, i64_w, i32_w]
                  rfl
                 refine pure_ (i := 6) (N := some 47) (v := ?_) (a' := ?_) #[true, false, true, false, false, false, true, false, false, false, false, false, false, false, false, false, false, false, false, false, false, false, false, false, false] rfl rfl (any_of HT_.out (by kernel_rfl)) (fun _ _ _ h => h) (Or.inl ⟨by rfl, ?_⟩) ?_ ?_
                 rotate_left
                 ·intro w'
                  go_simp
                  with_reducible rfl
                 rotate_left
                 ·simp only [Act.put, List.setIfInBounds_toArray, List.set_cons_zero, List.set_cons_succ, i64_w, i32_w]
                  rfl
                 refine pure_ (i := 8) (N := some 49) (v := ?_) (a' := ?_) #[true, false, true, false, false, false, true, false, true, false, false, false, false, false, false, false, false, false, false, false, false, false, false, false, false] rfl rfl (any_of HT_.out (by kernel_rfl)) (fun _ _ _ h => h) (Or.inl ⟨by rfl, ?_⟩) ?_ ?_
                 rotate_left
                 ·intro w'
                  go_simp
                  with_reducible rfl
                 rotate_left
                 ·simp only [Act.put, List.setIfInBounds_toArray, List.set_cons_zero, List.set_cons_succ, i64_w, i32_w]
                  rfl
                 refine pure_ (i := 10) (N := some 51) (v := ?_) (a' := ?_) #[true, false, true, false, false, false, true, false, true, false, true, false, false, false, false, false, false, false, false, false, false, false, false, false, false] rfl rfl (any_of HT_.out (by kernel_rfl)) (fun _ _ _ h => h) (Or.inl ⟨by rfl, ?_⟩) ?_ ?_
                 rotate_left
                 ·intro w'
                  go_simp
                  with_reducible rfl
                 rotate_left
                 ·simp only [Act.put, List.setIfInBounds_toArray, List.set_cons_zero, List.set_cons_succ, i64_w, i32_w]
                  rfl
                 refine pure_ (i := 11) (N := some 52) (v := ?_) (a' := ?_) #[true, false, true, false, false, false, true, false, true, false, true, true, false, false, false, false, false, false, false, false, false, false, false, false, false] rfl rfl (any_of HT_.out (by kernel_rfl)) (fun _ _ _ h => h) (Or.inl ⟨by rfl, ?_⟩) ?_ ?_
                 rotate_left
                 ·intro w'
                  go_simp
                  with_reducible rfl
                 rotate_left
                 ·simp only [Act.put, List.setIfInBounds_toArray, List.set_cons_zero, List.set_cons_succ, i64_w, i32_w]
                  rfl
                 refine pure_ (i := 16) (N := some 57) (v := ?_) (a' := ?_) #[true, false, true, false, false, false, true, false, true, false, true, true, false, false, false, false, true, false, false, false, false, false, false, false, false] rfl rfl (any_of HT_.out (by kernel_rfl)) (fun _ _ _ h => h) (Or.inl ⟨by rfl, ?_⟩) ?_ ?_
                 rotate_left
                 ·intro w'
                  go_simp
                  with_reducible rfl
                 rotate_left
                 ·simp only [Act.put, List.setIfInBounds_toArray, List.set_cons_zero, List.set_cons_succ, i64_w, i32_w]
                  rfl
                 refine pure_ (i := 17) (N := some 58) (v := ?_) (a' := ?_) #[true, false, true, false, false, false, true, false, true, false, true, true, false, false, false, false, true, true, false, false, false, false, false, false, false] rfl rfl (any_of HT_.out (by kernel_rfl)) (fun _ _ _ h => h) (Or.inl ⟨by rfl, ?_⟩) ?_ ?_
                 rotate_left
                 ·intro w'
                  go_simp
                  with_reducible rfl
                 rotate_left
                 ·simp only [Act.put, List.setIfInBounds_toArray, List.set_cons_zero, List.set_cons_succ, i64_w, i32_w]
                  rfl
                 refine inv_at [1, 3, 4, 5, 7, 9, 12, 13, 14, 15, 18, 19, 20, 21, 22, 23, 24] (fun a0_ b a w' => ∃ (v249 : Value), a = putSel a0_ b [(1, 42, .string (a1 ++ (⟨#[38]⟩ : ByteArray))), (3, 44, .string ((rd_T26 t242 (ji18)).f0)), (4, 45, .string ((a1 ++ (⟨#[38]⟩ : ByteArray)) ++ ((rd_T26 t242 (ji18)).f0))), (5, 46, .string (((a1 ++ (⟨#[38]⟩ : ByteArray)) ++ ((rd_T26 t242 (ji18)).f0)) ++ (⟨#[59]⟩ : ByteArray))), (7, 48, .string ((((a1 ++ (⟨#[38]⟩ : ByteArray)) ++ ((rd_T26 t242 (ji18)).f0)) ++ (⟨#[59]⟩ : ByteArray)) ++ a2)), (9, 50, .string t247), (12, 53, .int .i32 ((rd_T26 t242 (ji18)).f1)), (13, 54, v249), (14, 55, .string t251), (15, 56, .string (a1 ++ t251)), (18, 59, .string t252), (19, 60, .string ((a1 ++ t251) ++ t252)), (20, 61, .bool (t247.toList == ((a1 ++ t251) ++ t252).toList)), (21, 62, .bool (t247.toList == ((a1 ++ t251) ++ t252).toList)), (22, 63, undef), (23, 64, .bool false), (24, 8, .bool false)] ∧ (Kd.R k26 26 w' w.heap.size (fun k_ => k_ ≠ gb246) (.slice (some ad245) t242.length co47) t242) ∧ (w'.heap[gb246]? = some (.cells #[.string ((rd_T26 t242 (ji18)).f0), .int .i32 ((rd_T26 t242 (ji18)).f1), .bool ((rd_T26 t242 (ji18)).f2)] 26 (0, 0))) ∧ (Below w.heap.size w w') ∧ (b 13 = true → Kd.R (Kd.int .i32) 21 w' w.heap.size (fun _ => True) v249 y248)) HT_.out HW_.out (by kernel_rfl) (by kernel_rfl) ?_ ?_ ?_
                 ·exact ⟨.bool false, by simp only [putSel, Bool.false_eq_true, if_false], HO244.out, BK246.out, HB.out, fun h_ => absurd h_ (by decide)⟩
                 ·skip
                  clear BK246 HB HO244
                  refine steps_cons ?_ ?_
                  ·rintro b a w' ⟨v249, ha, Q_HO244, Q_BK246, Q_HB, Q_HO250⟩ hb_ hon hoff
                   refine ⟨_, rfl, fun K hK => ?_⟩
                   have e41 : a.tmps[41]? = some (.string a1) := by rw [ha]; exact (putSel_off rfl).trans rfl
                   replace ha := Aside0.mk ha
                   have HO244 := Aside0.mk Q_HO244
                   have BK246 := Aside0.mk Q_BK246
                   have HB := Aside0.mk Q_HB
                   refine value_ (w1 := w') (v := .string (a1 ++ (⟨#[38]⟩ : ByteArray))) (by rfl) rfl ?_ ?_
                   ·go_simp
                    (try simp only [i64_w])
                    try rfl
                   refine hK.out _ _ ⟨v249, (by rw [ha.out]; exact putSel_upk 0 hb_ rfl rfl rfl), Q_HO244, Q_BK246, Q_HB, Q_HO250⟩
                  refine steps_cons ?_ ?_
                  ·rintro b a w' ⟨v249, ha, Q_HO244, Q_BK246, Q_HB, Q_HO250⟩ hb_ hon hoff
                   refine ⟨_, rfl, fun K hK => ?_⟩
                   have e43 : a.tmps[43]? = some (.pointer (some ⟨gb246, 0, none⟩)) := by rw [ha]; exact (putSel_off rfl).trans rfl
                   replace ha := Aside0.mk ha
                   have HO244 := Aside0.mk Q_HO244
                   have BK246 := Aside0.mk Q_BK246
                   have HB := Aside0.mk Q_HB
                   have hc0_ : w'.cell? ⟨gb246, 0, none⟩ = some (.string ((rd_T26 t242 (ji18)).f0)) := (blk_cell BK246.out 0).trans rfl
                   have hc1_ : w'.cell? ⟨gb246, 1, none⟩ = some (.int .i32 ((rd_T26 t242 (ji18)).f1)) := (blk_cell BK246.out 1).trans rfl
                   have hc2_ : w'.cell? ⟨gb246, 2, none⟩ = some (.bool ((rd_T26 t242 (ji18)).f2)) := (blk_cell BK246.out 2).trans rfl
                   refine value_ (w1 := w') (v := .string ((rd_T26 t242 (ji18)).f0)) (by rfl) rfl ?_ ?_
                   ·go_simp
                    (try simp only [i64_w])
                    try rfl
                   refine hK.out _ _ ⟨v249, (by rw [ha.out]; exact putSel_upk 1 hb_ rfl rfl rfl), Q_HO244, Q_BK246, Q_HB, Q_HO250⟩
                  refine steps_cons ?_ ?_
                  ·rintro b a w' ⟨v249, ha, Q_HO244, Q_BK246, Q_HB, Q_HO250⟩ hb_ hon hoff
                   refine ⟨_, rfl, fun K hK => ?_⟩
                   have e42 : a.tmps[42]? = some (.string (a1 ++ (⟨#[38]⟩ : ByteArray))) := by rw [ha]; exact putSel_on (e := (1, 42, .string (a1 ++ (⟨#[38]⟩ : ByteArray)))) 0 rfl rfl (hon 1 (by kernel_rfl)) rfl
                   have e44 : a.tmps[44]? = some (.string ((rd_T26 t242 (ji18)).f0)) := by rw [ha]; exact putSel_on (e := (3, 44, .string ((rd_T26 t242 (ji18)).f0))) 1 rfl rfl (hon 3 (by kernel_rfl)) rfl
                   replace ha := Aside0.mk ha
                   have HO244 := Aside0.mk Q_HO244
                   have BK246 := Aside0.mk Q_BK246
                   have HB := Aside0.mk Q_HB
                   refine value_ (w1 := w') (v := .string ((a1 ++ (⟨#[38]⟩ : ByteArray)) ++ ((rd_T26 t242 (ji18)).f0))) (by rfl) rfl ?_ ?_
                   ·go_simp
                    (try simp only [i64_w])
                    try rfl
                   refine hK.out _ _ ⟨v249, (by rw [ha.out]; exact putSel_upk 2 hb_ rfl rfl rfl), Q_HO244, Q_BK246, Q_HB, Q_HO250⟩
                  refine steps_cons ?_ ?_
                  ·rintro b a w' ⟨v249, ha, Q_HO244, Q_BK246, Q_HB, Q_HO250⟩ hb_ hon hoff
                   refine ⟨_, rfl, fun K hK => ?_⟩
                   have e45 : a.tmps[45]? = some (.string ((a1 ++ (⟨#[38]⟩ : ByteArray)) ++ ((rd_T26 t242 (ji18)).f0))) := by rw [ha]; exact putSel_on (e := (4, 45, .string ((a1 ++ (⟨#[38]⟩ : ByteArray)) ++ ((rd_T26 t242 (ji18)).f0)))) 2 rfl rfl (hon 4 (by kernel_rfl)) rfl
                   replace ha := Aside0.mk ha
                   have HO244 := Aside0.mk Q_HO244
                   have BK246 := Aside0.mk Q_BK246
                   have HB := Aside0.mk Q_HB
                   refine value_ (w1 := w') (v := .string (((a1 ++ (⟨#[38]⟩ : ByteArray)) ++ ((rd_T26 t242 (ji18)).f0)) ++ (⟨#[59]⟩ : ByteArray))) (by rfl) rfl ?_ ?_
                   ·go_simp
                    (try simp only [i64_w])
                    try rfl
                   refine hK.out _ _ ⟨v249, (by rw [ha.out]; exact putSel_upk 3 hb_ rfl rfl rfl), Q_HO244, Q_BK246, Q_HB, Q_HO250⟩
                  refine steps_cons ?_ ?_
                  ·rintro b a w' ⟨v249, ha, Q_HO244, Q_BK246, Q_HB, Q_HO250⟩ hb_ hon hoff
                   refine ⟨_, rfl, fun K hK => ?_⟩
                   have e46 : a.tmps[46]? = some (.string (((a1 ++ (⟨#[38]⟩ : ByteArray)) ++ ((rd_T26 t242 (ji18)).f0)) ++ (⟨#[59]⟩ : ByteArray))) := by rw [ha]; exact putSel_on (e := (5, 46, .string (((a1 ++ (⟨#[38]⟩ : ByteArray)) ++ ((rd_T26 t242 (ji18)).f0)) ++ (⟨#[59]⟩ : ByteArray)))) 3 rfl rfl (hon 5 (by kernel_rfl)) rfl
                   have e47 : a.tmps[47]? = some (.string a2) := by rw [ha]; exact (putSel_off rfl).trans rfl
                   replace ha := Aside0.mk ha
                   have HO244 := Aside0.mk Q_HO244
                   have BK246 := Aside0.mk Q_BK246
                   have HB := Aside0.mk Q_HB
                   refine value_ (w1 := w') (v := .string ((((a1 ++ (⟨#[38]⟩ : ByteArray)) ++ ((rd_T26 t242 (ji18)).f0)) ++ (⟨#[59]⟩ : ByteArray)) ++ a2)) (by rfl) rfl ?_ ?_
                   ·go_simp
                    (try simp only [i64_w])
                    try rfl
                   refine hK.out _ _ ⟨v249, (by rw [ha.out]; exact putSel_upk 4 hb_ rfl rfl rfl), Q_HO244, Q_BK246, Q_HB, Q_HO250⟩
                  refine steps_cons ?_ ?_
                  ·rintro b a w' ⟨v249, ha, Q_HO244, Q_BK246, Q_HB, Q_HO250⟩ hb_ hon hoff
                   refine ⟨_, rfl, fun K hK => ?_⟩
                   have e48 : a.tmps[48]? = some (.string ((((a1 ++ (⟨#[38]⟩ : ByteArray)) ++ ((rd_T26 t242 (ji18)).f0)) ++ (⟨#[59]⟩ : ByteArray)) ++ a2)) := by rw [ha]; exact putSel_on (e := (7, 48, .string ((((a1 ++ (⟨#[38]⟩ : ByteArray)) ++ ((rd_T26 t242 (ji18)).f0)) ++ (⟨#[59]⟩ : ByteArray)) ++ a2))) 4 rfl rfl (hon 7 (by kernel_rfl)) rfl
                   have e49 : a.tmps[49]? = some (.bool a3) := by rw [ha]; exact (putSel_off rfl).trans rfl
                   replace ha := Aside0.mk ha
                   have HO244 := Aside0.mk Q_HO244
                   have BK246 := Aside0.mk Q_BK246
                   have HB := Aside0.mk Q_HB
                   refine goes_ Tryd.func14 (by kernel_rfl) rfl #[.string ((((a1 ++ (⟨#[38]⟩ : ByteArray)) ++ ((rd_T26 t242 (ji18)).f0)) ++ (⟨#[59]⟩ : ByteArray)) ++ a2), .bool a3] (by rfl) rfl rfl (by first | (simp only [List.map_toArray, List.map_cons, List.map_nil, Act.eval, Array.getD_eq_getD_getElem?, Option.getD_some, e48, e49]; done) | (simp only [List.map_toArray, List.map_cons, List.map_nil, Act.eval, Array.getD_eq_getD_getElem?, Option.getD_some, e48, e49]; rfl)) ?_
                   with_reducible refine (charref_Decode.calls k2 ((((a1 ++ (⟨#[38]⟩ : ByteArray)) ++ ((rd_T26 t242 (ji18)).f0)) ++ (⟨#[59]⟩ : ByteArray)) ++ a2) a3 t247 _ A25.out (by exact HT.out.below (mvB HB))).mono ?_
                   rintro e w52 ⟨rfl, hb⟩
                   refine ⟨_, rfl, ?_⟩
                   have n0_ := Aside0.mk (Kd.R_below (mvR HO244) hb)
                   have n1_ := Aside0.mk (blk_below (g := gb246) (o := .cells #[.string ((rd_T26 t242 (ji18)).f0), .int .i32 ((rd_T26 t242 (ji18)).f1), .bool ((rd_T26 t242 (ji18)).f2)] 26 (0, 0)) (by (with_reducible repeat (first | refine blk_drewN ?_ _ | refine blk_drew ?_ | refine blk_alloc ?_ _)); exact BK246.out) hb)
                   have n2_ := Aside0.mk (below_step (by repeat (first | (with_reducible first | exact HB.out | apply below_alloc | apply pw_below_drewN | apply below_drew1 | refine below_set ?_ GE246.out) | exact HB.out)) hb)
                   have z_HO250 := fun (h0_ : b 13 = true) => (show Kd.R (Kd.int .i32) 21 w52 w.heap.size (fun _ => True) v249 y248 from by first | exact (Kd.R_below (by (with_reducible repeat (first | apply Kd.R_alloc | apply Kd.R_drewN | apply Kd.R_drew)); exact (Q_HO250 h0_)) hb) | exact Kd.R_mono (Kd.R_below (by (with_reducible repeat (first | apply Kd.R_alloc | apply Kd.R_drewN | apply Kd.R_drew)); exact (Q_HO250 h0_)) hb) (fun _ h_ => by first | trivial | exact h_ | exact h_.1))
                   clear HO244
                   clear BK246
                   clear HB
                   have HO244 := n0_
                   have BK246 := n1_
                   have HB := n2_
                   clear n0_ n1_ n2_
                   (try clear hb)
                   (try clear hb2)
                   (try clear hk)
                   (try clear hi)
                   refine hK.out _ _ ⟨v249, (by rw [ha.out]; exact putSel_upk 5 hb_ rfl rfl rfl), (mvR HO244), (by (with_reducible repeat (first | refine blk_drewN ?_ _ | refine blk_drew ?_ | refine blk_alloc ?_ _)); exact BK246.out), (by repeat (first | (with_reducible first | exact HB.out | apply below_alloc | apply pw_below_drewN | apply below_drew1 | refine below_set ?_ GE246.out) | exact HB.out)), z_HO250⟩
                  refine steps_cons ?_ ?_
                  ·rintro b a w' ⟨v249, ha, Q_HO244, Q_BK246, Q_HB, Q_HO250⟩ hb_ hon hoff
                   refine ⟨_, rfl, fun K hK => ?_⟩
                   have e52 : a.tmps[52]? = some (.pointer (some ⟨gb246, 1, none⟩)) := by rw [ha]; exact (putSel_off rfl).trans rfl
                   replace ha := Aside0.mk ha
                   have HO244 := Aside0.mk Q_HO244
                   have BK246 := Aside0.mk Q_BK246
                   have HB := Aside0.mk Q_HB
                   have hc0_ : w'.cell? ⟨gb246, 0, none⟩ = some (.string ((rd_T26 t242 (ji18)).f0)) := (blk_cell BK246.out 0).trans rfl
                   have hc1_ : w'.cell? ⟨gb246, 1, none⟩ = some (.int .i32 ((rd_T26 t242 (ji18)).f1)) := (blk_cell BK246.out 1).trans rfl
                   have hc2_ : w'.cell? ⟨gb246, 2, none⟩ = some (.bool ((rd_T26 t242 (ji18)).f2)) := (blk_cell BK246.out 2).trans rfl
                   refine value_ (w1 := w') (v := .int .i32 ((rd_T26 t242 (ji18)).f1)) (by rfl) rfl ?_ ?_
                   ·go_simp
                    (try simp only [i64_w])
                    try rfl
                   refine hK.out _ _ ⟨v249, (by rw [ha.out]; exact putSel_upk 6 hb_ rfl rfl rfl), Q_HO244, Q_BK246, Q_HB, fun h0_ => absurd ((hoff 13 (by kernel_rfl)).symm.trans h0_) (by decide)⟩
                  refine steps_cons ?_ ?_
                  ·rintro b a w' ⟨v249, ha, Q_HO244, Q_BK246, Q_HB, Q_HO250⟩ hb_ hon hoff
                   refine ⟨_, rfl, fun K hK => ?_⟩
                   have e53 : a.tmps[53]? = some (.int .i32 ((rd_T26 t242 (ji18)).f1)) := by rw [ha]; exact putSel_on (e := (12, 53, .int .i32 ((rd_T26 t242 (ji18)).f1))) 6 rfl rfl (hon 12 (by kernel_rfl)) rfl
                   replace ha := Aside0.mk ha
                   have HO244 := Aside0.mk Q_HO244
                   have BK246 := Aside0.mk Q_BK246
                   have HB := Aside0.mk Q_HB
                   refine Kd.R_lit_step (Kd.int .i32) _ 21 ?hg (N := 54) ?hd (xs := ([(rd_T26 t242 (ji18)).f1] : List Int)) (inner := [.int .i32 ((rd_T26 t242 (ji18)).f1)]) (ok := fun _ => True) (okp := fun _ => True) ?hr ?hp (fun _ hk => hk) trivial (Below.refl _ _) (Nat.le_refl _) (by simp) ?_; (case hd => rfl); (case hg => rfl); (case hr => first | (go_simp; done) | (go_simp; rfl)); (case hp => exact (Reps.one (show Kd.M (Kd.int .i32) _ _ _ ((rd_T26 t242 (ji18)).f1) [.int .i32 ((rd_T26 t242 (ji18)).f1)] from rfl) (Reps.none _ _)))
                   intro v249 w52 ho53 hb hg_ hnew_
                   clear hg_ hnew_
                   (first | rw [← Ny248.out] at ho53 | (simp only [Int.reduceToNat] at ho53; rw [← Ny248.out] at ho53))
                   have n0_ := Aside0.mk (Kd.R_below (mvR HO244) hb)
                   have n1_ := Aside0.mk (Kd.R_lower ho53 (below_size (by repeat (first | (with_reducible first | exact HB.out | apply below_alloc | apply pw_below_drewN | apply below_drew1 | refine below_set ?_ GE246.out) | exact HB.out))))
                   have n2_ := Aside0.mk (blk_below (g := gb246) (o := .cells #[.string ((rd_T26 t242 (ji18)).f0), .int .i32 ((rd_T26 t242 (ji18)).f1), .bool ((rd_T26 t242 (ji18)).f2)] 26 (0, 0)) (by (with_reducible repeat (first | refine blk_drewN ?_ _ | refine blk_drew ?_ | refine blk_alloc ?_ _)); exact BK246.out) hb)
                   have n3_ := Aside0.mk (below_step (by repeat (first | (with_reducible first | exact HB.out | apply below_alloc | apply pw_below_drewN | apply below_drew1 | refine below_set ?_ GE246.out) | exact HB.out)) hb)
                   clear HO244
                   clear BK246
                   clear HB
                   have HO244 := n0_
                   have HO250 := n1_
                   have BK246 := n2_
                   have HB := n3_
                   clear n0_ n1_ n2_ n3_
                   clear hb ho53
                   refine hK.out _ _ ⟨v249, (by rw [ha.out]; exact putSel_upk 7 hb_ rfl rfl rfl), (mvR HO244), (by (with_reducible repeat (first | refine blk_drewN ?_ _ | refine blk_drew ?_ | refine blk_alloc ?_ _)); exact BK246.out), (by repeat (first | (with_reducible first | exact HB.out | apply below_alloc | apply pw_below_drewN | apply below_drew1 | refine below_set ?_ GE246.out) | exact HB.out)), fun _ => (mvR HO250)⟩
                  refine steps_cons ?_ ?_
                  ·rintro b a w' ⟨v249, ha, Q_HO244, Q_BK246, Q_HB, Q_HO250⟩ hb_ hon hoff
                   refine ⟨_, rfl, fun K hK => ?_⟩
                   have e54 : a.tmps[54]? = some (v249) := by rw [ha]; exact putSel_on (e := (13, 54, v249)) 7 rfl rfl (hon 13 (by kernel_rfl)) rfl
                   replace ha := Aside0.mk ha
                   have HO244 := Aside0.mk Q_HO244
                   have BK246 := Aside0.mk Q_BK246
                   have HB := Aside0.mk Q_HB
                   have HO250 := Aside0.mk (Q_HO250 (hon 13 (by kernel_rfl)))
                   obtain ⟨Ao56, co56, eo56⟩ := Kd.R_slice HO250.out
                   (first | subst eo56 | (injection eo56 with f1_ f2_ f3_; have f4_ := f1_.symm; have f5_ := f3_.symm; clear f1_ f2_ f3_; subst f4_; subst f5_))
                   refine goes_ Tryd.func16 (by kernel_rfl) rfl #[.slice Ao56 y248.length co56] (by rfl) rfl rfl (by first | (simp only [List.map_toArray, List.map_cons, List.map_nil, Act.eval, Array.getD_eq_getD_getElem?, Option.getD_some, e54]; done) | (simp only [List.map_toArray, List.map_cons, List.map_nil, Act.eval, Array.getD_eq_getD_getElem?, Option.getD_some, e54]; rfl)) ?_
                   with_reducible refine (selvedgeref02_String.calls k2 _ _ y248 t251 _ ?side1 ?side2 A26.out).mono ?_
                   (case side1 => repeat (first | exact (Kd.R_reads' HO250.out).2.2 | (with_reducible refine Kd.C_alloc ?_ _) | (with_reducible refine Kd.C_drewN ?_ _) | (with_reducible refine Kd.C_drew ?_)))
                   (case side2 => exact (Kd.R_reads' HO250.out).2.1)
                   rintro e w57 ⟨rfl, hb⟩
                   refine ⟨_, rfl, ?_⟩
                   have n0_ := Aside0.mk (Kd.R_below (mvR HO244) hb)
                   have n1_ := Aside0.mk (Kd.R_below (mvR HO250) hb)
                   have n2_ := Aside0.mk (blk_below (g := gb246) (o := .cells #[.string ((rd_T26 t242 (ji18)).f0), .int .i32 ((rd_T26 t242 (ji18)).f1), .bool ((rd_T26 t242 (ji18)).f2)] 26 (0, 0)) (by (with_reducible repeat (first | refine blk_drewN ?_ _ | refine blk_drew ?_ | refine blk_alloc ?_ _)); exact BK246.out) hb)
                   have n3_ := Aside0.mk (below_step (by repeat (first | (with_reducible first | exact HB.out | apply below_alloc | apply pw_below_drewN | apply below_drew1 | refine below_set ?_ GE246.out) | exact HB.out)) hb)
                   clear HO244
                   clear HO250
                   clear BK246
                   clear HB
                   have HO244 := n0_
                   have HO250 := n1_
                   have BK246 := n2_
                   have HB := n3_
                   clear n0_ n1_ n2_ n3_
                   (try clear hb)
                   (try clear hb2)
                   (try clear hk)
                   (try clear hi)
                   refine hK.out _ _ ⟨.slice Ao56 y248.length co56, (by rw [ha.out]; exact putSel_upk 8 hb_ rfl rfl rfl), (mvR HO244), (by (with_reducible repeat (first | refine blk_drewN ?_ _ | refine blk_drew ?_ | refine blk_alloc ?_ _)); exact BK246.out), (by repeat (first | (with_reducible first | exact HB.out | apply below_alloc | apply pw_below_drewN | apply below_drew1 | refine below_set ?_ GE246.out) | exact HB.out)), fun _ => (mvR HO250)⟩
                  refine steps_cons ?_ ?_
                  ·rintro b a w' ⟨v249, ha, Q_HO244, Q_BK246, Q_HB, Q_HO250⟩ hb_ hon hoff
                   refine ⟨_, rfl, fun K hK => ?_⟩
                   have e51 : a.tmps[51]? = some (.string a1) := by rw [ha]; exact (putSel_off rfl).trans rfl
                   have e55 : a.tmps[55]? = some (.string t251) := by rw [ha]; exact putSel_on (e := (14, 55, .string t251)) 8 rfl rfl (hon 14 (by kernel_rfl)) rfl
                   replace ha := Aside0.mk ha
                   have HO244 := Aside0.mk Q_HO244
                   have BK246 := Aside0.mk Q_BK246
                   have HB := Aside0.mk Q_HB
                   have HO250 := Aside0.mk (Q_HO250 (hon 13 (by kernel_rfl)))
                   refine value_ (w1 := w') (v := .string (a1 ++ t251)) (by rfl) rfl ?_ ?_
                   ·go_simp
                    (try simp only [i64_w])
                    try rfl
                   refine hK.out _ _ ⟨v249, (by rw [ha.out]; exact putSel_upk 9 hb_ rfl rfl rfl), Q_HO244, Q_BK246, Q_HB, Q_HO250⟩
                  refine steps_cons ?_ ?_
                  ·rintro b a w' ⟨v249, ha, Q_HO244, Q_BK246, Q_HB, Q_HO250⟩ hb_ hon hoff
                   refine ⟨_, rfl, fun K hK => ?_⟩
                   have e57 : a.tmps[57]? = some (.string a2) := by rw [ha]; exact (putSel_off rfl).trans rfl
                   have e58 : a.tmps[58]? = some (.bool a3) := by rw [ha]; exact (putSel_off rfl).trans rfl
                   replace ha := Aside0.mk ha
                   have HO244 := Aside0.mk Q_HO244
                   have BK246 := Aside0.mk Q_BK246
                   have HB := Aside0.mk Q_HB
                   have HO250 := Aside0.mk (Q_HO250 (hon 13 (by kernel_rfl)))
                   refine goes_ Tryd.func14 (by kernel_rfl) rfl #[.string a2, .bool a3] (by rfl) rfl rfl (by first | (simp only [List.map_toArray, List.map_cons, List.map_nil, Act.eval, Array.getD_eq_getD_getElem?, Option.getD_some, e57, e58]; done) | (simp only [List.map_toArray, List.map_cons, List.map_nil, Act.eval, Array.getD_eq_getD_getElem?, Option.getD_some, e57, e58]; rfl)) ?_
                   with_reducible refine (charref_Decode.calls k2 a2 a3 t252 _ A28.out (by exact HT.out.below (mvB HB))).mono ?_
                   rintro e w58 ⟨rfl, hb⟩
                   refine ⟨_, rfl, ?_⟩
                   have n0_ := Aside0.mk (Kd.R_below (mvR HO244) hb)
                   have n1_ := Aside0.mk (Kd.R_below (mvR HO250) hb)
                   have n2_ := Aside0.mk (blk_below (g := gb246) (o := .cells #[.string ((rd_T26 t242 (ji18)).f0), .int .i32 ((rd_T26 t242 (ji18)).f1), .bool ((rd_T26 t242 (ji18)).f2)] 26 (0, 0)) (by (with_reducible repeat (first | refine blk_drewN ?_ _ | refine blk_drew ?_ | refine blk_alloc ?_ _)); exact BK246.out) hb)
                   have n3_ := Aside0.mk (below_step (by repeat (first | (with_reducible first | exact HB.out | apply below_alloc | apply pw_below_drewN | apply below_drew1 | refine below_set ?_ GE246.out) | exact HB.out)) hb)
                   clear HO244
                   clear HO250
                   clear BK246
                   clear HB
                   have HO244 := n0_
                   have HO250 := n1_
                   have BK246 := n2_
                   have HB := n3_
                   clear n0_ n1_ n2_ n3_
                   (try clear hb)
                   (try clear hb2)
                   (try clear hk)
                   (try clear hi)
                   refine hK.out _ _ ⟨v249, (by rw [ha.out]; exact putSel_upk 10 hb_ rfl rfl rfl), (mvR HO244), (by (with_reducible repeat (first | refine blk_drewN ?_ _ | refine blk_drew ?_ | refine blk_alloc ?_ _)); exact BK246.out), (by repeat (first | (with_reducible first | exact HB.out | apply below_alloc | apply pw_below_drewN | apply below_drew1 | refine below_set ?_ GE246.out) | exact HB.out)), fun _ => (mvR HO250)⟩
                  refine steps_cons ?_ ?_
                  ·rintro b a w' ⟨v249, ha, Q_HO244, Q_BK246, Q_HB, Q_HO250⟩ hb_ hon hoff
                   refine ⟨_, rfl, fun K hK => ?_⟩
                   have e56 : a.tmps[56]? = some (.string (a1 ++ t251)) := by rw [ha]; exact putSel_on (e := (15, 56, .string (a1 ++ t251))) 9 rfl rfl (hon 15 (by kernel_rfl)) rfl
                   have e59 : a.tmps[59]? = some (.string t252) := by rw [ha]; exact putSel_on (e := (18, 59, .string t252)) 10 rfl rfl (hon 18 (by kernel_rfl)) rfl
                   replace ha := Aside0.mk ha
                   have HO244 := Aside0.mk Q_HO244
                   have BK246 := Aside0.mk Q_BK246
                   have HB := Aside0.mk Q_HB
                   have HO250 := Aside0.mk (Q_HO250 (hon 13 (by kernel_rfl)))
                   refine value_ (w1 := w') (v := .string ((a1 ++ t251) ++ t252)) (by rfl) rfl ?_ ?_
                   ·go_simp
                    (try simp only [i64_w])
                    try rfl
                   refine hK.out _ _ ⟨v249, (by rw [ha.out]; exact putSel_upk 11 hb_ rfl rfl rfl), Q_HO244, Q_BK246, Q_HB, Q_HO250⟩
                  refine steps_cons ?_ ?_
                  ·rintro b a w' ⟨v249, ha, Q_HO244, Q_BK246, Q_HB, Q_HO250⟩ hb_ hon hoff
                   refine ⟨_, rfl, fun K hK => ?_⟩
                   have e50 : a.tmps[50]? = some (.string t247) := by rw [ha]; exact putSel_on (e := (9, 50, .string t247)) 5 rfl rfl (hon 9 (by kernel_rfl)) rfl
                   have e60 : a.tmps[60]? = some (.string ((a1 ++ t251) ++ t252)) := by rw [ha]; exact putSel_on (e := (19, 60, .string ((a1 ++ t251) ++ t252))) 11 rfl rfl (hon 19 (by kernel_rfl)) rfl
                   replace ha := Aside0.mk ha
                   have HO244 := Aside0.mk Q_HO244
                   have BK246 := Aside0.mk Q_BK246
                   have HB := Aside0.mk Q_HB
                   have HO250 := Aside0.mk (Q_HO250 (hon 13 (by kernel_rfl)))
                   refine value_ (w1 := w') (v := .bool (t247.toList == ((a1 ++ t251) ++ t252).toList)) (by rfl) rfl ?_ ?_
                   ·go_simp
                    (try simp only [i64_w])
                    try rfl
                   refine hK.out _ _ ⟨v249, (by rw [ha.out]; exact putSel_upk 12 hb_ rfl rfl rfl), Q_HO244, Q_BK246, Q_HB, Q_HO250⟩
                  refine steps_cons ?_ ?_
                  ·rintro b a w' ⟨v249, ha, Q_HO244, Q_BK246, Q_HB, Q_HO250⟩ hb_ hon hoff
                   refine ⟨_, rfl, fun K hK => ?_⟩
                   have e61 : a.tmps[61]? = some (.bool (t247.toList == ((a1 ++ t251) ++ t252).toList)) := by rw [ha]; exact putSel_on (e := (20, 61, .bool (t247.toList == ((a1 ++ t251) ++ t252).toList))) 12 rfl rfl (hon 20 (by kernel_rfl)) rfl
                   replace ha := Aside0.mk ha
                   have HO244 := Aside0.mk Q_HO244
                   have BK246 := Aside0.mk Q_BK246
                   have HB := Aside0.mk Q_HB
                   have HO250 := Aside0.mk (Q_HO250 (hon 13 (by kernel_rfl)))
                   refine value_ (w1 := w') (v := .bool (t247.toList == ((a1 ++ t251) ++ t252).toList)) (by rfl) rfl ?_ ?_
                   ·go_simp
                    (try simp only [i64_w])
                    try rfl
                   refine hK.out _ _ ⟨v249, (by rw [ha.out]; exact putSel_upk 13 hb_ rfl rfl rfl), Q_HO244, Q_BK246, Q_HB, Q_HO250⟩
                  refine steps_cons ?_ ?_
                  ·rintro b a w' ⟨v249, ha, Q_HO244, Q_BK246, Q_HB, Q_HO250⟩ hb_ hon hoff
                   refine ⟨_, rfl, fun K hK => ?_⟩
                   have e62 : a.tmps[62]? = some (.bool (t247.toList == ((a1 ++ t251) ++ t252).toList)) := by rw [ha]; exact putSel_on (e := (21, 62, .bool (t247.toList == ((a1 ++ t251) ++ t252).toList))) 13 rfl rfl (hon 21 (by kernel_rfl)) rfl
                   replace ha := Aside0.mk ha
                   have HO244 := Aside0.mk Q_HO244
                   have BK246 := Aside0.mk Q_BK246
                   have HB := Aside0.mk Q_HB
                   have HO250 := Aside0.mk (Q_HO250 (hon 13 (by kernel_rfl)))
                   refine off_ (wanted_off rfl rfl rfl (e62.trans (by first | rfl | (simp [*]; done)))) ?_
                   refine hK.out _ _ ⟨v249, (by rw [ha.out]; exact putSel_upk 14 hb_ rfl rfl rfl), Q_HO244, Q_BK246, Q_HB, Q_HO250⟩
                  refine steps_cons ?_ ?_
                  ·rintro b a w' ⟨v249, ha, Q_HO244, Q_BK246, Q_HB, Q_HO250⟩ hb_ hon hoff
                   refine ⟨_, rfl, fun K hK => ?_⟩
                   have e62 : a.tmps[62]? = some (.bool (t247.toList == ((a1 ++ t251) ++ t252).toList)) := by rw [ha]; exact putSel_on (e := (21, 62, .bool (t247.toList == ((a1 ++ t251) ++ t252).toList))) 13 rfl rfl (hon 21 (by kernel_rfl)) rfl
                   have e63 : a.tmps[63]? = some (undef) := by rw [ha]; exact putSel_on (e := (22, 63, undef)) 14 rfl rfl (hon 22 (by kernel_rfl)) rfl
                   replace ha := Aside0.mk ha
                   have HO244 := Aside0.mk Q_HO244
                   have BK246 := Aside0.mk Q_BK246
                   have HB := Aside0.mk Q_HB
                   have HO250 := Aside0.mk (Q_HO250 (hon 13 (by kernel_rfl)))
                   refine value_ (w1 := w') (v := .bool false) (by rfl) rfl ?_ ?_
                   ·go_simp
                    (try simp only [i64_w])
                    try rfl
                   refine hK.out _ _ ⟨v249, (by rw [ha.out]; exact putSel_upk 15 hb_ rfl rfl rfl), Q_HO244, Q_BK246, Q_HB, Q_HO250⟩
                  refine steps_cons ?_ ?_
                  ·rintro b a w' ⟨v249, ha, Q_HO244, Q_BK246, Q_HB, Q_HO250⟩ hb_ hon hoff
                   refine ⟨_, rfl, fun K hK => ?_⟩
                   have e64 : a.tmps[64]? = some (.bool false) := by rw [ha]; exact putSel_on (e := (23, 64, .bool false)) 15 rfl rfl (hon 23 (by kernel_rfl)) rfl
                   replace ha := Aside0.mk ha
                   have HO244 := Aside0.mk Q_HO244
                   have BK246 := Aside0.mk Q_BK246
                   have HB := Aside0.mk Q_HB
                   have HO250 := Aside0.mk (Q_HO250 (hon 13 (by kernel_rfl)))
                   refine value_ (w1 := w') (v := .bool false) (by rfl) rfl ?_ ?_
                   ·go_simp
                    (try simp only [i64_w])
                    try rfl
                   refine hK.out _ _ ⟨v249, (by rw [ha.out]; exact putSel_upk 16 hb_ rfl rfl rfl), Q_HO244, Q_BK246, Q_HB, Q_HO250⟩
                  exact steps_nil
                 rintro b a w58 hall ⟨v249, ha, Q_HO244, Q_BK246, Q_HB, Q_HO250⟩
                 clear BK246 HB HO244
                 have hb1_ := hall 1 (by kernel_rfl)
                 have hb3_ := hall 3 (by kernel_rfl)
                 have hb4_ := hall 4 (by kernel_rfl)
                 have hb5_ := hall 5 (by kernel_rfl)
                 have hb7_ := hall 7 (by kernel_rfl)
                 have hb9_ := hall 9 (by kernel_rfl)
                 have hb12_ := hall 12 (by kernel_rfl)
                 have hb13_ := hall 13 (by kernel_rfl)
                 have hb14_ := hall 14 (by kernel_rfl)
                 have hb15_ := hall 15 (by kernel_rfl)
                 have hb18_ := hall 18 (by kernel_rfl)
                 have hb19_ := hall 19 (by kernel_rfl)
                 have hb20_ := hall 20 (by kernel_rfl)
                 have hb21_ := hall 21 (by kernel_rfl)
                 have hb22_ := hall 22 (by kernel_rfl)
                 have hb23_ := hall 23 (by kernel_rfl)
                 have hb24_ := hall 24 (by kernel_rfl)
                 subst ha
                 simp only [putSel, hb1_, hb3_, hb4_, hb5_, hb7_, hb9_, hb12_, hb13_, hb14_, hb15_, hb18_, hb19_, hb20_, hb21_, hb22_, hb23_, hb24_, if_true, Act.put, List.setIfInBounds_toArray, List.set_cons_zero, List.set_cons_succ]
                 have HO244 := Aside0.mk Q_HO244
                 clear Q_HO244
                 have BK246 := Aside0.mk Q_BK246
                 clear Q_BK246
                 have HB := Aside0.mk Q_HB
                 clear Q_HB
                 have HO250 := Aside0.mk (Q_HO250 hb13_)
                 clear Q_HO250
                 clear hall hb1_ hb3_ hb4_ hb5_ hb7_ hb9_ hb12_ hb13_ hb14_ hb15_ hb18_ hb19_ hb20_ hb21_ hb22_ hb23_ hb24_
                 try go_wp2
                 go_ret
                 exact ⟨by first | rfl | (simp [errW_none, errW_some] <;> rfl) | (simp only [← hji18]; first | rfl | (simp [errW_none, errW_some] <;> rfl)) | (simp [*, errW_none, errW_some] <;> rfl), by repeat (first | (with_reducible first | exact HB.out | apply below_alloc | apply pw_below_drewN | apply below_drew1 | refine below_set ?_ GE246.out) | exact HB.out)⟩
               ·rw [if_neg c29] at H
                exact absurd H (by simp)
              ·rw [if_neg c27] at H
               exact absurd H (by simp)
             ·rw [if_neg c24] at H
              exact absurd H (by simp)
            ·rw [if_neg c23] at H
             exact absurd H (by simp)
           ·rw [if_neg c22] at H
            exact absurd H (by simp)
          ·rw [if_neg c21] at H
           exact absurd H (by simp)
         ·rw [if_neg c20] at H
          exact absurd H (by simp)
        ·rw [if_neg c19] at H
         exact absurd H (by simp)

/-- THE ONE PURE STATEMENT of selvedgelaw03_CharrefNames: yours. -/
def selvedgelaw03_CharrefNames.Pure : Prop := ∀ (a0 : Int) (a1 : ByteArray) (a2 : ByteArray) (a3 : Bool), (Lit.int .u8 a0).wf = true → a1.size ≤ 140737488351232 → a2.size ≤ 140737488351232 → ∃ k, selvedgelaw03_CharrefNames.f k a0 a1 a2 a3 = some true
theorem selvedgelaw03_CharrefNames.walk (P : selvedgelaw03_CharrefNames.Pure) (a0 : Int) (a1 : ByteArray) (a2 : ByteArray) (a3 : Bool) (w : World) (w0 : (Lit.int .u8 a0).wf = true) (w1 : a1.size ≤ 140737488351232) (w2 : a2.size ≤ 140737488351232) (hT : Tabs w) :
  Calls Tryd.prog 8 #[.int .u8 a0, .string a1, .string a2, .bool a3] w fun e w' => e = .returned (.bool true) ∧ Below w.heap.size w w' := by
 obtain ⟨k, h⟩ := P a0 a1 a2 a3 w0 w1 w2
 refine (selvedgelaw03_CharrefNames.calls k a0 a1 a2 a3 true w h hT).mono ?_
 rintro e w' ⟨rfl, hd⟩
 exact ⟨rfl, hd⟩

end Go.Proofs.YtaohghcmlohngaaDoor.X
