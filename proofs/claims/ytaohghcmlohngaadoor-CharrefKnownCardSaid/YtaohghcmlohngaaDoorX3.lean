-- by xprint.py: the kit's printer over texts of this session
import Derived.Test.YtaohghcmlohngaaDoorX0
import Derived.Test.YtaohghcmlohngaaDoorX1
import Derived.Test.YtaohghcmlohngaaDoorX2
import Derived.Test.YtaohghcmlohngaaDoorT1
import Derived.Test.YtaohghcmlohngaaDoorT2
namespace Go.Proofs.YtaohghcmlohngaaDoor.X
open Go.RowKit Go.Proofs.YtaohghcmlohngaaDoorW.PrintWords Go.Proofs.YtaohghcmlohngaaDoorW.PrintLast Go.Proofs.YtaohghcmlohngaaDoorW.PrintMore
attribute [local go_sem] max2_int min2_int max_two min_two max_three min_three max_four min_four   -- for this text's walks alone
set_option linter.unusedVariables false
set_option linter.unusedSimpArgs false

/-! ### charref_Find: function 12 -/
mutual
def charref_Find.j0 : Nat → ByteArray → Bool → Bool → Option (Int × Int × Bool)
 | 0, _, _, _ => none
 | k + 1, x0, x1, x20 => if x20 = true then (some (0, 0, false)) else ((strings_HasPrefix.f x0 (⟨#[38, 35]⟩ : ByteArray)).bind fun t112 => (if t112 = true then (if 2 ≤ (x0.size : Int) then ((charref_number.f k (x0.extract 2 x0.size)).bind fun bt113 => (if bt113.2.2 = true then (some (bt113.1, wrap64 (bt113.2.1 + 2), true)) else (some (0, 0, false)))) else (none)) else (charref_Find.l0 k x0 x1 1)))
def charref_Find.j2 : Nat → ByteArray → Bool → Int → Option (Int × Int × Bool)
 | 0, _, _, _ => none
 | k + 1, x0, x1, x10 => charref_Find.l1 k x0 x1 x10
def charref_Find.l1 : Nat → ByteArray → Bool → Int → Option (Int × Int × Bool)
 | 0, _, _, _ => none
 | k + 1, x0, x1, x10 => if x10 > 1 then (if 1 ≤ x10 then (if x10 ≤ (x0.size : Int) then ((charref_search.f (x0.extract 1 (x10 : Int).toNat)).bind fun bt117 => (if bt117.2 = true then (if x10 < (x0.size : Int) then (if 0 ≤ x10 then (charref_Find.j4 k x0 x1 x10 bt117.1 ((bt x0 x10) == 59)) else (none)) else (charref_Find.j4 k x0 x1 x10 bt117.1 false)) else (charref_Find.l1 k x0 x1 (wrap64 (x10 - 1))))) else (none)) else (none)) else (some (0, 0, false))
def charref_Find.j4 : Nat → ByteArray → Bool → Int → Int → Bool → Option (Int × Int × Bool)
 | 0, _, _, _, _, _ => none
 | k + 1, x0, x1, x10, x12, x67 => if x67 = true then ((charref_nameR.f x12).bind fun t119 => (some (t119, wrap64 (x10 + 1), true))) else ((charref_nameAlone.f x12).bind fun t120 => (if t120 = true then (if x1 = true then (if x10 < (x0.size : Int) then (if 0 ≤ x10 then (if (bt x0 x10) = 61 then (some (0, 0, false)) else ((charref_alnum.f (bt x0 x10)).bind fun t121 => (if t121 = true then (some (0, 0, false)) else ((charref_nameR.f x12).bind fun t122 => (some (t122, x10, true)))))) else (none)) else ((charref_nameR.f x12).bind fun t123 => (some (t123, x10, true)))) else ((charref_nameR.f x12).bind fun t124 => (some (t124, x10, true)))) else (charref_Find.l1 k x0 x1 (wrap64 (x10 - 1)))))
def charref_Find.l0 : Nat → ByteArray → Bool → Int → Option (Int × Int × Bool)
 | 0, _, _, _ => none
 | k + 1, x0, x1, x10 => if x10 < (x0.size : Int) then (if 0 ≤ x10 then ((charref_alnum.f (bt x0 x10)).bind fun t116 => (if t116 = true then (charref_Find.l0 k x0 x1 (wrap64 (x10 + 1))) else (charref_Find.j2 k x0 x1 x10))) else (none)) else (charref_Find.j2 k x0 x1 x10)
end
def charref_Find.f (k : Nat) (a0 : ByteArray) (a1 : Bool) : Option (Int × Int × Bool) := if a0.toList = ([] : List UInt8) then (charref_Find.j0 k a0 a1 true) else (if 0 < (a0.size : Int) then (charref_Find.j0 k a0 a1 ((bt a0 0) != 38)) else (none))
theorem charref_Find.mono_l : ∀ k, (∀ y0 y1 y2, LeO (charref_Find.j0 k y0 y1 y2) (charref_Find.j0 (k + 1) y0 y1 y2)) ∧ (∀ y0 y1 y2, LeO (charref_Find.j2 k y0 y1 y2) (charref_Find.j2 (k + 1) y0 y1 y2)) ∧ (∀ y0 y1 y2, LeO (charref_Find.l1 k y0 y1 y2) (charref_Find.l1 (k + 1) y0 y1 y2)) ∧ (∀ y0 y1 y2 y3 y4, LeO (charref_Find.j4 k y0 y1 y2 y3 y4) (charref_Find.j4 (k + 1) y0 y1 y2 y3 y4)) ∧ (∀ y0 y1 y2, LeO (charref_Find.l0 k y0 y1 y2) (charref_Find.l0 (k + 1) y0 y1 y2))
 | 0 => ⟨fun _ _ _ r h => by simp [charref_Find.j0] at h, fun _ _ _ r h => by simp [charref_Find.j2] at h, fun _ _ _ r h => by simp [charref_Find.l1] at h, fun _ _ _ _ _ r h => by simp [charref_Find.j4] at h, fun _ _ _ r h => by simp [charref_Find.l0] at h⟩
 | k + 1 => by
  obtain ⟨ih0, ih1, ih2, ih3, ih4⟩ := charref_Find.mono_l k
  refine ⟨?_, ?_, ?_, ?_, ?_⟩
  ·intro y0 y1 y2
   unfold charref_Find.j0
   repeat' first
   | (with_reducible exact ih0 _ _ _)
   | (with_reducible exact ih1 _ _ _)
   | (with_reducible exact ih2 _ _ _)
   | (with_reducible exact ih3 _ _ _ _ _)
   | (with_reducible exact ih4 _ _ _)
   | (with_reducible exact charref_number.mono _ _)
   | (with_reducible exact LeO.refl _)
   | (with_reducible exact LeO.none _)
   | (with_reducible refine LeO.ite ?_ ?_)
   | (with_reducible refine LeO.bind ?_ (fun _ => ?_))
   | exact ih0 _ _ _
   | exact ih1 _ _ _
   | exact ih2 _ _ _
   | exact ih3 _ _ _ _ _
   | exact ih4 _ _ _
   | exact charref_number.mono _ _
   | exact LeO.none _
   | refine LeO.ite ?_ ?_
   | refine LeO.bind ?_ (fun _ => ?_)
  ·intro y0 y1 y2
   unfold charref_Find.j2
   repeat' first
   | (with_reducible exact ih0 _ _ _)
   | (with_reducible exact ih1 _ _ _)
   | (with_reducible exact ih2 _ _ _)
   | (with_reducible exact ih3 _ _ _ _ _)
   | (with_reducible exact ih4 _ _ _)
   | (with_reducible exact charref_number.mono _ _)
   | (with_reducible exact LeO.refl _)
   | (with_reducible exact LeO.none _)
   | (with_reducible refine LeO.ite ?_ ?_)
   | (with_reducible refine LeO.bind ?_ (fun _ => ?_))
   | exact ih0 _ _ _
   | exact ih1 _ _ _
   | exact ih2 _ _ _
   | exact ih3 _ _ _ _ _
   | exact ih4 _ _ _
   | exact charref_number.mono _ _
   | exact LeO.none _
   | refine LeO.ite ?_ ?_
   | refine LeO.bind ?_ (fun _ => ?_)
  ·intro y0 y1 y2
   unfold charref_Find.l1
   repeat' first
   | (with_reducible exact ih0 _ _ _)
   | (with_reducible exact ih1 _ _ _)
   | (with_reducible exact ih2 _ _ _)
   | (with_reducible exact ih3 _ _ _ _ _)
   | (with_reducible exact ih4 _ _ _)
   | (with_reducible exact charref_number.mono _ _)
   | (with_reducible exact LeO.refl _)
   | (with_reducible exact LeO.none _)
   | (with_reducible refine LeO.ite ?_ ?_)
   | (with_reducible refine LeO.bind ?_ (fun _ => ?_))
   | exact ih0 _ _ _
   | exact ih1 _ _ _
   | exact ih2 _ _ _
   | exact ih3 _ _ _ _ _
   | exact ih4 _ _ _
   | exact charref_number.mono _ _
   | exact LeO.none _
   | refine LeO.ite ?_ ?_
   | refine LeO.bind ?_ (fun _ => ?_)
  ·intro y0 y1 y2 y3 y4
   unfold charref_Find.j4
   repeat' first
   | (with_reducible exact ih0 _ _ _)
   | (with_reducible exact ih1 _ _ _)
   | (with_reducible exact ih2 _ _ _)
   | (with_reducible exact ih3 _ _ _ _ _)
   | (with_reducible exact ih4 _ _ _)
   | (with_reducible exact charref_number.mono _ _)
   | (with_reducible exact LeO.refl _)
   | (with_reducible exact LeO.none _)
   | (with_reducible refine LeO.ite ?_ ?_)
   | (with_reducible refine LeO.bind ?_ (fun _ => ?_))
   | exact ih0 _ _ _
   | exact ih1 _ _ _
   | exact ih2 _ _ _
   | exact ih3 _ _ _ _ _
   | exact ih4 _ _ _
   | exact charref_number.mono _ _
   | exact LeO.none _
   | refine LeO.ite ?_ ?_
   | refine LeO.bind ?_ (fun _ => ?_)
  ·intro y0 y1 y2
   unfold charref_Find.l0
   repeat' first
   | (with_reducible exact ih0 _ _ _)
   | (with_reducible exact ih1 _ _ _)
   | (with_reducible exact ih2 _ _ _)
   | (with_reducible exact ih3 _ _ _ _ _)
   | (with_reducible exact ih4 _ _ _)
   | (with_reducible exact charref_number.mono _ _)
   | (with_reducible exact LeO.refl _)
   | (with_reducible exact LeO.none _)
   | (with_reducible refine LeO.ite ?_ ?_)
   | (with_reducible refine LeO.bind ?_ (fun _ => ?_))
   | exact ih0 _ _ _
   | exact ih1 _ _ _
   | exact ih2 _ _ _
   | exact ih3 _ _ _ _ _
   | exact ih4 _ _ _
   | exact charref_number.mono _ _
   | exact LeO.none _
   | refine LeO.ite ?_ ?_
   | refine LeO.bind ?_ (fun _ => ?_)
theorem charref_Find.mono : ∀ a0 a1 k, LeO (charref_Find.f k a0 a1) (charref_Find.f (k + 1) a0 a1) := by
 intro a0 a1 k
 obtain ⟨ih0, ih1, ih2, ih3, ih4⟩ := charref_Find.mono_l k
 unfold charref_Find.f
 repeat' first
   | (with_reducible exact ih0 _ _ _)
   | (with_reducible exact ih1 _ _ _)
   | (with_reducible exact ih2 _ _ _)
   | (with_reducible exact ih3 _ _ _ _ _)
   | (with_reducible exact ih4 _ _ _)
   | (with_reducible exact charref_number.mono _ _)
   | (with_reducible exact LeO.refl _)
   | (with_reducible exact LeO.none _)
   | (with_reducible refine LeO.ite ?_ ?_)
   | (with_reducible refine LeO.bind ?_ (fun _ => ?_))
   | exact ih0 _ _ _
   | exact ih1 _ _ _
   | exact ih2 _ _ _
   | exact ih3 _ _ _ _ _
   | exact ih4 _ _ _
   | exact charref_number.mono _ _
   | exact LeO.none _
   | refine LeO.ite ?_ ?_
   | refine LeO.bind ?_ (fun _ => ?_)
set_option maxHeartbeats 8000000 in
set_option maxRecDepth 100000 in
theorem charref_Find.calls (k : Nat) (a0 : ByteArray) (a1 : Bool) (r1 : Int) (r2 : Int) (r3 : Bool) (w : World) (h : charref_Find.f k a0 a1 = some (r1, r2, r3)) (hT : Tabs w) :
  Calls Tryd.prog 12 #[.string a0, .bool a1] w fun e w' => e = .returned (.tuple #[.int .i32 r1, .int .i64 r2, .bool r3]) ∧ Below w.heap.size w w' := by
 have HT := Aside0.mk hT
 clear hT
 have HB := Aside0.mk (Below.refl w.heap.size w)
 have H : (if a0.toList = ([] : List UInt8) then (charref_Find.j0 k a0 a1 true) else (if 0 < (a0.size : Int) then (charref_Find.j0 k a0 a1 ((bt a0 0) != 38)) else (none))) = some (r1, r2, r3) := h
 clear h
 have HC3 := Aside0.mk H
 clear H
 go_enter Tryd.func12, Tryd.ntmps12
 go_upto_region 1 with (fail)
 go_cut [20] (fun v20 wc => ∃ (kq : Nat) (x20_2 : Bool), v20 = .bool x20_2 ∧ Aside0 (charref_Find.j0 kq a0 a1 x20_2 = some (r1, r2, r3)) ∧ Aside0 (kq ≤ k) ∧ Aside0 (Below w.heap.size w wc))
 case first =>
  have H := HC3.out
  clear HC3
  by_cases c4 : a0.toList = ([] : List UInt8)
  ·rw [if_pos c4] at H
   have c4b0 : (a0.toList == ([] : List UInt8)) = true := beq_iff_eq.mpr c4
   have c4b1 : (a0.toList != ([] : List UInt8)) = false := bne_eq_false_iff_eq.mpr c4
   clear c4
   (first | rw [c4b0] | (simp only [i64_w, i32_w]; rw [c4b0]) | skip)
   have H' := Aside0.mk H
   clear H
   go_wp2
   go_meet
   case rel => exact ⟨_, (true), (by first | rfl | (simp; done) | (simp [*]; done)), H', ⟨by first | omega | exact Nat.le_refl _⟩, ⟨mvB HB⟩⟩
  ·rw [if_neg c4] at H
   have c4b0 : (a0.toList == ([] : List UInt8)) = false := beq_eq_false_iff_ne.mpr c4
   have c4b1 : (a0.toList != ([] : List UInt8)) = true := bne_iff_ne.mpr c4
   (first | rw [c4b0] | (simp only [i64_w, i32_w]; rw [c4b0]) | skip)
   by_cases c5 : 0 < (a0.size : Int)
   ·rw [if_pos c5] at H
    have c5b0 : decide (0 < (a0.size : Int)) = true := decide_eq_true c5
    have c5b1 : decide (0 < a0.size) = true := decide_eq_true (by omega)
    clear c5
    have H' := Aside0.mk H
    clear H
    have p6 : 0 ≤ (0 : Int) := (by omega)
    have q6 : 0 < a0.size := (by have : (0 : Int) < (a0.size : Int) := of_decide_eq_true (by first | (with_reducible assumption) | assumption); omega)
    have hx6 : ∀ h : 0 < a0.size, ((a0[0]'h).toNat : Int) = bt a0 0 := bt_at a0 0
    clear p6
    have qi6 : (0 < (a0.size : Int)) = True := eq_true (of_decide_eq_true (by first | (with_reducible assumption) | assumption))
    replace q6 := eq_true q6
    go_wp2
    go_meet
    case rel => exact ⟨_, (((bt a0 0) != 38)), (by first | rfl | (simp; done) | (simp [*]; done)), H', ⟨by first | omega | exact Nat.le_refl _⟩, ⟨mvB HB⟩⟩
   ·rw [if_neg c5] at H
    exact absurd H (by simp)
 case rest =>
  clear HC3
  try clear c1
  try clear p2
  try clear c4
  try clear c4b0
  try clear c4b1
  try clear c5
  try clear c5b0
  try clear c5b1
  try clear p6
  try clear q6
  try clear hx6
  try clear qi6
  try clear p6
  try clear q6
  obtain ⟨kq, x20_2, rfl, HA, HJ2, HB⟩ := hcut
  cases kq with
  | zero => exact absurd HA.out (by simp [charref_Find.j0])
  | succ kj2 =>
   have H := HA.out
   clear HA
   simp only [charref_Find.j0] at H
   by_cases c7 : x20_2 = true
   ·subst c7
    have H1 : (some (0, 0, false)) = some (r1, r2, r3) := by rw [if_pos rfl] at H; exact H
    clear H
    have H := H1
    clear H1
    simp only [Option.some.injEq, Prod.mk.injEq] at H
    obtain ⟨rfl, rfl, rfl⟩ := H
    go_wp2
    go_ret3
    exact ⟨by first | rfl | (simp [errW_none, errW_some] <;> rfl) | (simp [*, errW_none, errW_some] <;> rfl), mvB HB⟩
   ·replace c7 := Bool.eq_false_iff.mpr c7
    subst c7
    have H1 : ((strings_HasPrefix.f a0 (⟨#[38, 35]⟩ : ByteArray)).bind fun t112 => (if t112 = true then (if 2 ≤ (a0.size : Int) then ((charref_number.f kj2 (a0.extract 2 a0.size)).bind fun bt113 => (if bt113.2.2 = true then (some (bt113.1, wrap64 (bt113.2.1 + 2), true)) else (some (0, 0, false)))) else (none)) else (charref_Find.l0 kj2 a0 a1 1))) = some (r1, r2, r3) := by rw [if_neg (show ¬ (false = true) by decide)] at H; exact H
    clear H
    have H := H1
    clear H1
    replace H := Option.bind_eq_some_iff.mp H
    obtain ⟨t112, A80, H⟩ := H
    replace H : (if t112 = true then (if 2 ≤ (a0.size : Int) then ((charref_number.f kj2 (a0.extract 2 a0.size)).bind fun bt113 => (if bt113.2.2 = true then (some (bt113.1, wrap64 (bt113.2.1 + 2), true)) else (some (0, 0, false)))) else (none)) else (charref_Find.l0 kj2 a0 a1 1)) = some (r1, r2, r3) := H
    have A8 := Aside0.mk A80
    (first | (have tb8 := tab_others HT.out (mvB HB) A80; obtain ⟨tb8a, tb8b, tb8c⟩ := tb8) | (have tb8 := tab_nameR HT.out (mvB HB) A80; obtain ⟨tb8a, tb8b, tb8c⟩ := tb8) | (have tb8 := tab_nameAlone HT.out (mvB HB) A80; obtain ⟨tb8a, tb8b, tb8c⟩ := tb8) | skip)
    clear A80
    by_cases c9 : t112 = true
    ·subst c9
     have H1 : (if 2 ≤ (a0.size : Int) then ((charref_number.f kj2 (a0.extract 2 a0.size)).bind fun bt113 => (if bt113.2.2 = true then (some (bt113.1, wrap64 (bt113.2.1 + 2), true)) else (some (0, 0, false)))) else (none)) = some (r1, r2, r3) := by rw [if_pos rfl] at H; exact H
     clear H
     have H := H1
     clear H1
     by_cases c10 : 2 ≤ (a0.size : Int)
     ·rw [if_pos c10] at H
      have c10b0 := eq_true c10
      have c10b1 : decide (2 ≤ (a0.size : Int)) = true := decide_eq_true c10
      clear c10
      replace H := Option.bind_eq_some_iff.mp H
      obtain ⟨⟨t113, t114, t115⟩, A110, H⟩ := H
      replace H : (if t115 = true then (some (t113, wrap64 (t114 + 2), true)) else (some (0, 0, false))) = some (r1, r2, r3) := H
      have A11 := Aside0.mk A110
      (first | (have tb11 := tab_others HT.out (mvB HB) A110; obtain ⟨tb11a, tb11b, tb11c⟩ := tb11) | (have tb11 := tab_nameR HT.out (mvB HB) A110; obtain ⟨tb11a, tb11b, tb11c⟩ := tb11) | (have tb11 := tab_nameAlone HT.out (mvB HB) A110; obtain ⟨tb11a, tb11b, tb11c⟩ := tb11) | skip)
      clear A110
      by_cases c12 : t115 = true
      ·subst c12
       have H1 : (some (t113, wrap64 (t114 + 2), true)) = some (r1, r2, r3) := by rw [if_pos rfl] at H; exact H
       clear H
       have H := H1
       clear H1
       simp only [Option.some.injEq, Prod.mk.injEq] at H
       obtain ⟨rfl, rfl, rfl⟩ := H
       go_wp2_with (first | ((with_reducible refine gate_callee (f := 18) rfl ?_); refine goesL_ (some 22) rfl rfl Tryd.func18 (by kernel_rfl) rfl #[.string a0, .string (⟨#[38, 35]⟩ : ByteArray)] rfl (by (try simp only [List.map_toArray, List.map_cons, List.map_nil]); first | done | rfl | (simp only [List.length_drop, List.length_take]; rfl)) ?_; (with_reducible refine (strings_HasPrefix.calls a0 (⟨#[38, 35]⟩ : ByteArray) true _ A8.out).mono ?_); rintro e w' ⟨rfl, ⟨nd, rfl⟩⟩; refine ⟨_, rfl, ?_⟩) | ((with_reducible refine gate_callee (f := 19) rfl ?_); refine goesL_ (some 26) rfl rfl Tryd.func19 (by kernel_rfl) rfl #[.string (a0.extract 2 a0.size)] rfl (by (try simp only [List.map_toArray, List.map_cons, List.map_nil]); first | done | rfl | (simp only [List.length_drop, List.length_take]; rfl)) ?_; (with_reducible refine (charref_number.calls kj2 (a0.extract 2 a0.size) t113 t114 true _ A11.out (by exact HT.out.below (mvB HB))).mono ?_); rintro e w13 ⟨rfl, hb⟩; refine ⟨_, rfl, ?_⟩; have n0_ := Aside0.mk (below_step (mvB HB) hb); clear HB; have HB := n0_; clear n0_; (try clear hb); (try clear hb2); (try clear hk); (try clear hi)))
       go_ret3
       exact ⟨by first | rfl | (simp [errW_none, errW_some] <;> rfl) | (simp [*, errW_none, errW_some] <;> rfl), mvB HB⟩
      ·replace c12 := Bool.eq_false_iff.mpr c12
       subst c12
       have H1 : (some (0, 0, false)) = some (r1, r2, r3) := by rw [if_neg (show ¬ (false = true) by decide)] at H; exact H
       clear H
       have H := H1
       clear H1
       simp only [Option.some.injEq, Prod.mk.injEq] at H
       obtain ⟨rfl, rfl, rfl⟩ := H
       go_wp2_with (first | ((with_reducible refine gate_callee (f := 18) rfl ?_); refine goesL_ (some 22) rfl rfl Tryd.func18 (by kernel_rfl) rfl #[.string a0, .string (⟨#[38, 35]⟩ : ByteArray)] rfl (by (try simp only [List.map_toArray, List.map_cons, List.map_nil]); first | done | rfl | (simp only [List.length_drop, List.length_take]; rfl)) ?_; (with_reducible refine (strings_HasPrefix.calls a0 (⟨#[38, 35]⟩ : ByteArray) true _ A8.out).mono ?_); rintro e w' ⟨rfl, ⟨nd, rfl⟩⟩; refine ⟨_, rfl, ?_⟩) | ((with_reducible refine gate_callee (f := 19) rfl ?_); refine goesL_ (some 26) rfl rfl Tryd.func19 (by kernel_rfl) rfl #[.string (a0.extract 2 a0.size)] rfl (by (try simp only [List.map_toArray, List.map_cons, List.map_nil]); first | done | rfl | (simp only [List.length_drop, List.length_take]; rfl)) ?_; (with_reducible refine (charref_number.calls kj2 (a0.extract 2 a0.size) t113 t114 false _ A11.out (by exact HT.out.below (mvB HB))).mono ?_); rintro e w14 ⟨rfl, hb⟩; refine ⟨_, rfl, ?_⟩; have n0_ := Aside0.mk (below_step (mvB HB) hb); clear HB; have HB := n0_; clear n0_; (try clear hb); (try clear hb2); (try clear hk); (try clear hi)))
       go_ret3
       exact ⟨by first | rfl | (simp [errW_none, errW_some] <;> rfl) | (simp [*, errW_none, errW_some] <;> rfl), mvB HB⟩
     ·rw [if_neg c10] at H
      exact absurd H (by simp)
    ·replace c9 := Bool.eq_false_iff.mpr c9
     subst c9
     have H1 : (charref_Find.l0 kj2 a0 a1 1) = some (r1, r2, r3) := by rw [if_neg (show ¬ (false = true) by decide)] at H; exact H
     clear H
     have H := H1
     clear H1
     have HC15 := Aside0.mk H
     clear H
     go_upto_block 0 with (first | ((with_reducible refine gate_callee (f := 18) rfl ?_); refine goesL_ (some 22) rfl rfl Tryd.func18 (by kernel_rfl) rfl #[.string a0, .string (⟨#[38, 35]⟩ : ByteArray)] rfl (by (try simp only [List.map_toArray, List.map_cons, List.map_nil]); first | done | rfl | (simp only [List.length_drop, List.length_take]; rfl)) ?_; (with_reducible refine (strings_HasPrefix.calls a0 (⟨#[38, 35]⟩ : ByteArray) false _ A8.out).mono ?_); rintro e w' ⟨rfl, ⟨nd, rfl⟩⟩; refine ⟨_, rfl, ?_⟩))
     (try simp only [Act.put, List.setIfInBounds_toArray, List.set_cons_zero, List.set_cons_succ])
     go_cut [10] (fun v10 wc => ∃ (kq : Nat) (x10_14 : Int), v10 = .int .i64 x10_14 ∧ Aside0 (charref_Find.j2 kq a0 a1 x10_14 = some (r1, r2, r3)) ∧ Aside0 (kq ≤ kj2) ∧ Aside0 (Below w.heap.size w wc))
     case first =>
      have H := HC15.out
      clear HC15
      have H' := Aside0.mk H
      clear H
      go_wp2
      go_loopg [10] kj2 (fun kq v10 w' => ∃ (x10_2 : Int), v10 = .int .i64 x10_2 ∧ Aside0 (charref_Find.l0 kq a0 a1 x10_2 = some (r1, r2, r3)) ∧ Aside0 (kq ≤ kj2) ∧ Aside0 (Below w.heap.size w w'))
      case atStart => exact ⟨(1), (by first | rfl | (simp; done) | (simp [*]; done)), H', ⟨Nat.le_refl _⟩, ⟨mvB HB⟩⟩
      case round =>
       clear H'
       try clear c1
       try clear p2
       try clear c4
       try clear c4b0
       try clear c4b1
       try clear c5
       try clear c5b0
       try clear c5b1
       try clear p6
       try clear q6
       try clear hx6
       try clear qi6
       try clear c7
       try clear c9
       try clear c10
       try clear c10b0
       try clear c10b1
       try clear c12
       try clear p2
       try clear p6
       try clear q6
       obtain ⟨x10_2, rfl, HA, HK2, HB⟩ := hrel
       cases gk with
       | zero => exact absurd HA.out (by simp [charref_Find.l0])
       | succ k2 =>
        have H := HA.out
        clear HA
        simp only [charref_Find.l0] at H
        by_cases c16 : x10_2 < (a0.size : Int)
        ·rw [if_pos c16] at H
         have c16b0 : decide (x10_2 < (a0.size : Int)) = true := decide_eq_true c16
         clear c16
         (first | rw [c16b0] | (simp only [i64_w, i32_w]; rw [c16b0]) | skip)
         by_cases c17 : 0 ≤ x10_2
         ·rw [if_pos c17] at H
          have c17b0 : decide (0 ≤ x10_2) = true := decide_eq_true c17
          clear c17
          replace H := Option.bind_eq_some_iff.mp H
          obtain ⟨t116, A190, H⟩ := H
          replace H : (if t116 = true then (charref_Find.l0 k2 a0 a1 (wrap64 (x10_2 + 1))) else (charref_Find.j2 k2 a0 a1 x10_2)) = some (r1, r2, r3) := H
          have A19 := Aside0.mk A190
          (first | (have tb19 := tab_others HT.out (mvB HB) A190; obtain ⟨tb19a, tb19b, tb19c⟩ := tb19) | (have tb19 := tab_nameR HT.out (mvB HB) A190; obtain ⟨tb19a, tb19b, tb19c⟩ := tb19) | (have tb19 := tab_nameAlone HT.out (mvB HB) A190; obtain ⟨tb19a, tb19b, tb19c⟩ := tb19) | skip)
          clear A190
          by_cases c20 : t116 = true
          ·subst c20
           have H1 : (charref_Find.l0 k2 a0 a1 (wrap64 (x10_2 + 1))) = some (r1, r2, r3) := by rw [if_pos rfl] at H; exact H
           clear H
           have H := H1
           clear H1
           have H' := Aside0.mk H
           clear H
           have p18 := dT (0 ≤ (x10_2 : Int))
           have q18 := dT (x10_2 < (a0.size : Int))
           have hx18 := bt_at a0 x10_2
           replace p18 := eq_true p18
           replace q18 := eq_true q18
           go_wp2_with (first | (go_at_call 20; (with_reducible refine (charref_alnum.calls (bt a0 x10_2) true _ A19.out).mono ?_); rintro e w' ⟨rfl, ⟨nd, rfl⟩⟩))
           go_roundg k2
           case measure => have := HJ2.out; have := HK2.out; omega
           case rel => exact ⟨(wrap64 (x10_2 + 1)), (by first | rfl | (simp; done) | (simp [*]; done)), H', ⟨by have := HJ2.out; have := HK2.out; omega⟩, ⟨mvB HB⟩⟩
          ·replace c20 := Bool.eq_false_iff.mpr c20
           subst c20
           have H1 : (charref_Find.j2 k2 a0 a1 x10_2) = some (r1, r2, r3) := by rw [if_neg (show ¬ (false = true) by decide)] at H; exact H
           clear H
           have H := H1
           clear H1
           have H' := Aside0.mk H
           clear H
           have p18 := dT (0 ≤ (x10_2 : Int))
           have q18 := dT (x10_2 < (a0.size : Int))
           have hx18 := bt_at a0 x10_2
           replace p18 := eq_true p18
           replace q18 := eq_true q18
           go_wp2_with (first | (go_at_call 20; (with_reducible refine (charref_alnum.calls (bt a0 x10_2) false _ A19.out).mono ?_); rintro e w' ⟨rfl, ⟨nd, rfl⟩⟩))
           go_meet
           case rel => exact ⟨_, (x10_2), (by first | rfl | (simp; done) | (simp [*]; done)), H', ⟨by have := HJ2.out; have := HK2.out; first | omega | exact Nat.le_refl _⟩, ⟨mvB HB⟩⟩
         ·rw [if_neg c17] at H
          exact absurd H (by simp)
        ·rw [if_neg c16] at H
         have c16b0 : decide (x10_2 < (a0.size : Int)) = false := decide_eq_false c16
         clear c16
         (first | rw [c16b0] | (simp only [i64_w, i32_w]; rw [c16b0]) | skip)
         have H' := Aside0.mk H
         clear H
         go_wp2
         go_meet
         case rel => exact ⟨_, (x10_2), (by first | rfl | (simp; done) | (simp [*]; done)), H', ⟨by have := HJ2.out; have := HK2.out; first | omega | exact Nat.le_refl _⟩, ⟨mvB HB⟩⟩
     case rest =>
      clear HC15
      try clear c1
      try clear p1
      try clear q1
      try clear hx1
      try clear c2
      try clear p2
      try clear c4
      try clear c4b0
      try clear c4b1
      try clear c5
      try clear c5b0
      try clear c5b1
      try clear p6
      try clear q6
      try clear hx6
      try clear qi6
      try clear c7
      try clear c9
      try clear c10
      try clear c10b0
      try clear c10b1
      try clear c12
      try clear c16
      try clear c16b0
      try clear c17
      try clear c17b0
      try clear c18
      try clear p18
      try clear q18
      try clear hx18
      try clear c19
      try clear c20
      try clear p18
      try clear p2
      try clear p6
      try clear q18
      try clear q6
      obtain ⟨kq, x10_14, rfl, HA, HJ14, HB⟩ := hcut
      cases kq with
      | zero => exact absurd HA.out (by simp [charref_Find.j2])
      | succ kj14 =>
       have H := HA.out
       clear HA
       simp only [charref_Find.j2] at H
       have H' := Aside0.mk H
       clear H
       go_wp2
       go_loopg [10] kj14 (fun kq v10 w' => ∃ (x10_3 : Int), v10 = .int .i64 x10_3 ∧ Aside0 (charref_Find.l1 kq a0 a1 x10_3 = some (r1, r2, r3)) ∧ Aside0 (kq ≤ kj14) ∧ Aside0 (Below w.heap.size w w'))
       case atStart => exact ⟨(x10_14), (by first | rfl | (simp; done) | (simp [*]; done)), H', ⟨Nat.le_refl _⟩, ⟨mvB HB⟩⟩
       case round =>
        clear H'
        try clear c1
        try clear p1
        try clear q1
        try clear hx1
        try clear c2
        try clear p2
        try clear c4
        try clear c4b0
        try clear c4b1
        try clear c5
        try clear c5b0
        try clear c5b1
        try clear p6
        try clear q6
        try clear hx6
        try clear qi6
        try clear c7
        try clear c9
        try clear c10
        try clear c10b0
        try clear c10b1
        try clear c12
        try clear c16
        try clear c16b0
        try clear c17
        try clear c17b0
        try clear c18
        try clear p18
        try clear q18
        try clear hx18
        try clear c19
        try clear c20
        try clear p1
        try clear p18
        try clear p2
        try clear p6
        try clear q1
        try clear q18
        try clear q6
        obtain ⟨x10_3, rfl, HA, HK3, HB⟩ := hrel
        cases gk with
        | zero => exact absurd HA.out (by simp [charref_Find.l1])
        | succ k3 =>
         have H := HA.out
         clear HA
         simp only [charref_Find.l1] at H
         by_cases c21 : x10_3 > 1
         ·rw [if_pos c21] at H
          have c21b0 : decide (1 < x10_3) = true := decide_eq_true c21
          clear c21
          by_cases c22 : 1 ≤ x10_3
          ·rw [if_pos c22] at H
           have c22b0 := eq_true c22
           have c22b1 : decide (1 ≤ x10_3) = true := decide_eq_true c22
           clear c22
           by_cases c23 : x10_3 ≤ (a0.size : Int)
           ·rw [if_pos c23] at H
            have c23b0 := eq_true c23
            have c23b1 : decide (x10_3 ≤ (a0.size : Int)) = true := decide_eq_true c23
            clear c23
            replace H := Option.bind_eq_some_iff.mp H
            obtain ⟨⟨t117, t118⟩, A240, H⟩ := H
            replace H : (if t118 = true then (if x10_3 < (a0.size : Int) then (if 0 ≤ x10_3 then (charref_Find.j4 k3 a0 a1 x10_3 t117 ((bt a0 x10_3) == 59)) else (none)) else (charref_Find.j4 k3 a0 a1 x10_3 t117 false)) else (charref_Find.l1 k3 a0 a1 (wrap64 (x10_3 - 1)))) = some (r1, r2, r3) := H
            have A24 := Aside0.mk A240
            (first | (have tb24 := tab_others HT.out (mvB HB) A240; obtain ⟨tb24a, tb24b, tb24c⟩ := tb24) | (have tb24 := tab_nameR HT.out (mvB HB) A240; obtain ⟨tb24a, tb24b, tb24c⟩ := tb24) | (have tb24 := tab_nameAlone HT.out (mvB HB) A240; obtain ⟨tb24a, tb24b, tb24c⟩ := tb24) | skip)
            clear A240
            by_cases c25 : t118 = true
            ·subst c25
             have H1 : (if x10_3 < (a0.size : Int) then (if 0 ≤ x10_3 then (charref_Find.j4 k3 a0 a1 x10_3 t117 ((bt a0 x10_3) == 59)) else (none)) else (charref_Find.j4 k3 a0 a1 x10_3 t117 false)) = some (r1, r2, r3) := by rw [if_pos rfl] at H; exact H
             clear H
             have H := H1
             clear H1
             have HC26 := Aside0.mk H
             clear H
             go_upto_region 17 with (first | (go_at_call 21; (with_reducible refine (charref_search.calls (a0.extract 1 (x10_3 : Int).toNat) t117 true _ A24.out (by exact HT.out.below (mvB HB))).mono ?_); rintro e w27 ⟨rfl, hb⟩; have n0_ := Aside0.mk (below_step (mvB HB) hb); clear HB; have HB := n0_; clear n0_; (try clear hb); (try clear hb2); (try clear hk); (try clear hi)))
             (try simp only [Act.put, List.setIfInBounds_toArray, List.set_cons_zero, List.set_cons_succ])
             go_cut [67] (fun v67 wc => ∃ (kq : Nat) (x67_25 : Bool), v67 = .bool x67_25 ∧ Aside0 (charref_Find.j4 kq a0 a1 x10_3 t117 x67_25 = some (r1, r2, r3)) ∧ Aside0 (kq ≤ k3) ∧ Aside0 (Below w.heap.size w wc))
             case first =>
              have H := HC26.out
              clear HC26
              by_cases c28 : x10_3 < (a0.size : Int)
              ·rw [if_pos c28] at H
               have c28b0 : decide (x10_3 < (a0.size : Int)) = true := decide_eq_true c28
               clear c28
               (first | rw [c28b0] | (simp only [i64_w, i32_w]; rw [c28b0]) | skip)
               by_cases c29 : 0 ≤ x10_3
               ·rw [if_pos c29] at H
                have c29b0 : decide (0 ≤ x10_3) = true := decide_eq_true c29
                clear c29
                have H' := Aside0.mk H
                clear H
                have p30 := dT (0 ≤ (x10_3 : Int))
                have q30 := dT (x10_3 < (a0.size : Int))
                have hx30 := bt_at a0 x10_3
                replace p30 := eq_true p30
                replace q30 := eq_true q30
                go_wp2
                go_meet
                case rel => exact ⟨_, (((bt a0 x10_3) == 59)), (by first | rfl | (simp; done) | (simp [*]; done)), H', ⟨by have := HJ2.out; have := HJ14.out; have := HK3.out; first | omega | exact Nat.le_refl _⟩, ⟨mvB HB⟩⟩
               ·rw [if_neg c29] at H
                exact absurd H (by simp)
              ·rw [if_neg c28] at H
               have c28b0 : decide (x10_3 < (a0.size : Int)) = false := decide_eq_false c28
               clear c28
               (first | rw [c28b0] | (simp only [i64_w, i32_w]; rw [c28b0]) | skip)
               have H' := Aside0.mk H
               clear H
               go_wp2
               go_meet
               case rel => exact ⟨_, (false), (by first | rfl | (simp; done) | (simp [*]; done)), H', ⟨by have := HJ2.out; have := HJ14.out; have := HK3.out; first | omega | exact Nat.le_refl _⟩, ⟨mvB HB⟩⟩
             case rest =>
              clear HC26
              try clear c1
              try clear p1
              try clear q1
              try clear hx1
              try clear c2
              try clear p2
              try clear p3
              try clear q3
              try clear hx3
              try clear c4
              try clear c4b0
              try clear c4b1
              try clear c5
              try clear c5b0
              try clear c5b1
              try clear p6
              try clear q6
              try clear hx6
              try clear qi6
              try clear c7
              try clear c9
              try clear c10
              try clear c10b0
              try clear c10b1
              try clear c12
              try clear c16
              try clear c16b0
              try clear c17
              try clear c17b0
              try clear c18
              try clear p18
              try clear q18
              try clear hx18
              try clear c19
              try clear c20
              try clear c21
              try clear c21b0
              try clear c22
              try clear c22b0
              try clear c22b1
              try clear c23
              try clear c23b0
              try clear c23b1
              try clear c25
              try clear c28
              try clear c28b0
              try clear c29
              try clear c29b0
              try clear p30
              try clear q30
              try clear hx30
              try clear p1
              try clear p18
              try clear p2
              try clear p30
              try clear p6
              try clear q1
              try clear q18
              try clear q30
              try clear q6
              obtain ⟨kq, x67_25, rfl, HA, HJ25, HB⟩ := hcut
              cases kq with
              | zero => exact absurd HA.out (by simp [charref_Find.j4])
              | succ kj25 =>
               have H := HA.out
               clear HA
               simp only [charref_Find.j4] at H
               by_cases c31 : x67_25 = true
               ·subst c31
                have H1 : ((charref_nameR.f t117).bind fun t119 => (some (t119, wrap64 (x10_3 + 1), true))) = some (r1, r2, r3) := by rw [if_pos rfl] at H; exact H
                clear H
                have H := H1
                clear H1
                replace H := Option.bind_eq_some_iff.mp H
                obtain ⟨t119, A320, H⟩ := H
                replace H : (some (t119, wrap64 (x10_3 + 1), true)) = some (r1, r2, r3) := H
                have A32 := Aside0.mk A320
                (first | (have tb32 := tab_others HT.out (mvB HB) A320; obtain ⟨tb32a, tb32b, tb32c⟩ := tb32) | (have tb32 := tab_nameR HT.out (mvB HB) A320; obtain ⟨tb32a, tb32b, tb32c⟩ := tb32) | (have tb32 := tab_nameAlone HT.out (mvB HB) A320; obtain ⟨tb32a, tb32b, tb32c⟩ := tb32) | skip)
                clear A320
                simp only [Option.some.injEq, Prod.mk.injEq] at H
                obtain ⟨rfl, rfl, rfl⟩ := H
                go_wp2_with (first | fail)
                go_ret3
                exact ⟨by first | rfl | (simp [errW_none, errW_some] <;> rfl) | (simp [*, errW_none, errW_some] <;> rfl), mvB HB⟩
               ·replace c31 := Bool.eq_false_iff.mpr c31
                subst c31
                have H1 : ((charref_nameAlone.f t117).bind fun t120 => (if t120 = true then (if a1 = true then (if x10_3 < (a0.size : Int) then (if 0 ≤ x10_3 then (if (bt a0 x10_3) = 61 then (some (0, 0, false)) else ((charref_alnum.f (bt a0 x10_3)).bind fun t121 => (if t121 = true then (some (0, 0, false)) else ((charref_nameR.f t117).bind fun t122 => (some (t122, x10_3, true)))))) else (none)) else ((charref_nameR.f t117).bind fun t123 => (some (t123, x10_3, true)))) else ((charref_nameR.f t117).bind fun t124 => (some (t124, x10_3, true)))) else (charref_Find.l1 kj25 a0 a1 (wrap64 (x10_3 - 1))))) = some (r1, r2, r3) := by rw [if_neg (show ¬ (false = true) by decide)] at H; exact H
                clear H
                have H := H1
                clear H1
                replace H := Option.bind_eq_some_iff.mp H
                obtain ⟨t120, A330, H⟩ := H
                replace H : (if t120 = true then (if a1 = true then (if x10_3 < (a0.size : Int) then (if 0 ≤ x10_3 then (if (bt a0 x10_3) = 61 then (some (0, 0, false)) else ((charref_alnum.f (bt a0 x10_3)).bind fun t121 => (if t121 = true then (some (0, 0, false)) else ((charref_nameR.f t117).bind fun t122 => (some (t122, x10_3, true)))))) else (none)) else ((charref_nameR.f t117).bind fun t123 => (some (t123, x10_3, true)))) else ((charref_nameR.f t117).bind fun t124 => (some (t124, x10_3, true)))) else (charref_Find.l1 kj25 a0 a1 (wrap64 (x10_3 - 1)))) = some (r1, r2, r3) := H
                have A33 := Aside0.mk A330
                (first | (have tb33 := tab_others HT.out (mvB HB) A330; obtain ⟨tb33a, tb33b, tb33c⟩ := tb33) | (have tb33 := tab_nameR HT.out (mvB HB) A330; obtain ⟨tb33a, tb33b, tb33c⟩ := tb33) | (have tb33 := tab_nameAlone HT.out (mvB HB) A330; obtain ⟨tb33a, tb33b, tb33c⟩ := tb33) | skip)
                clear A330
                by_cases c34 : t120 = true
                ·subst c34
                 have H1 : (if a1 = true then (if x10_3 < (a0.size : Int) then (if 0 ≤ x10_3 then (if (bt a0 x10_3) = 61 then (some (0, 0, false)) else ((charref_alnum.f (bt a0 x10_3)).bind fun t121 => (if t121 = true then (some (0, 0, false)) else ((charref_nameR.f t117).bind fun t122 => (some (t122, x10_3, true)))))) else (none)) else ((charref_nameR.f t117).bind fun t123 => (some (t123, x10_3, true)))) else ((charref_nameR.f t117).bind fun t124 => (some (t124, x10_3, true)))) = some (r1, r2, r3) := by rw [if_pos rfl] at H; exact H
                 clear H
                 have H := H1
                 clear H1
                 by_cases c35 : a1 = true
                 ·subst c35
                  have H1 : (if x10_3 < (a0.size : Int) then (if 0 ≤ x10_3 then (if (bt a0 x10_3) = 61 then (some (0, 0, false)) else ((charref_alnum.f (bt a0 x10_3)).bind fun t121 => (if t121 = true then (some (0, 0, false)) else ((charref_nameR.f t117).bind fun t122 => (some (t122, x10_3, true)))))) else (none)) else ((charref_nameR.f t117).bind fun t123 => (some (t123, x10_3, true)))) = some (r1, r2, r3) := by rw [if_pos rfl] at H; exact H
                  clear H
                  have H := H1
                  clear H1
                  by_cases c36 : x10_3 < (a0.size : Int)
                  ·rw [if_pos c36] at H
                   have c36b0 : decide (x10_3 < (a0.size : Int)) = true := decide_eq_true c36
                   clear c36
                   by_cases c37 : 0 ≤ x10_3
                   ·rw [if_pos c37] at H
                    have c37b0 : decide (0 ≤ x10_3) = true := decide_eq_true c37
                    clear c37
                    by_cases c39 : (bt a0 x10_3) = 61
                    ·rw [if_pos c39] at H
                     have c39b0 : ((bt a0 x10_3) == 61) = true := beq_iff_eq.mpr c39
                     have c39b1 : ((bt a0 x10_3) != 61) = false := bne_eq_false_iff_eq.mpr c39
                     clear c39
                     simp only [Option.some.injEq, Prod.mk.injEq] at H
                     obtain ⟨rfl, rfl, rfl⟩ := H
                     have p38 := dT (0 ≤ (x10_3 : Int))
                     have q38 := dT (x10_3 < (a0.size : Int))
                     have hx38 := bt_at a0 x10_3
                     replace p38 := eq_true p38
                     replace q38 := eq_true q38
                     go_wp2_with (first | fail)
                     go_ret3
                     exact ⟨by first | rfl | (simp [errW_none, errW_some] <;> rfl) | (simp [*, errW_none, errW_some] <;> rfl), mvB HB⟩
                    ·rw [if_neg c39] at H
                     have c39b0 : ((bt a0 x10_3) == 61) = false := beq_eq_false_iff_ne.mpr c39
                     have c39b1 : ((bt a0 x10_3) != 61) = true := bne_iff_ne.mpr c39
                     replace H := Option.bind_eq_some_iff.mp H
                     obtain ⟨t121, A410, H⟩ := H
                     replace H : (if t121 = true then (some (0, 0, false)) else ((charref_nameR.f t117).bind fun t122 => (some (t122, x10_3, true)))) = some (r1, r2, r3) := H
                     have A41 := Aside0.mk A410
                     (first | (have tb41 := tab_others HT.out (mvB HB) A410; obtain ⟨tb41a, tb41b, tb41c⟩ := tb41) | (have tb41 := tab_nameR HT.out (mvB HB) A410; obtain ⟨tb41a, tb41b, tb41c⟩ := tb41) | (have tb41 := tab_nameAlone HT.out (mvB HB) A410; obtain ⟨tb41a, tb41b, tb41c⟩ := tb41) | skip)
                     clear A410
                     by_cases c42 : t121 = true
                     ·subst c42
                      have H1 : (some (0, 0, false)) = some (r1, r2, r3) := by rw [if_pos rfl] at H; exact H
                      clear H
                      have H := H1
                      clear H1
                      simp only [Option.some.injEq, Prod.mk.injEq] at H
                      obtain ⟨rfl, rfl, rfl⟩ := H
                      have p38 := dT (0 ≤ (x10_3 : Int))
                      have q38 := dT (x10_3 < (a0.size : Int))
                      have hx38 := bt_at a0 x10_3
                      replace p38 := eq_true p38
                      replace q38 := eq_true q38
                      have p40 := dT (0 ≤ (x10_3 : Int))
                      have q40 := dT (x10_3 < (a0.size : Int))
                      have hx40 := bt_at a0 x10_3
                      replace p40 := eq_true p40
                      replace q40 := eq_true q40
                      go_wp2_with (first | (go_at_call 20; (with_reducible refine (charref_alnum.calls (bt a0 x10_3) true _ A41.out).mono ?_); rintro e w' ⟨rfl, ⟨nd, rfl⟩⟩))
                      go_ret3
                      exact ⟨by first | rfl | (simp [errW_none, errW_some] <;> rfl) | (simp [*, errW_none, errW_some] <;> rfl), mvB HB⟩
                     ·replace c42 := Bool.eq_false_iff.mpr c42
                      subst c42
                      have H1 : ((charref_nameR.f t117).bind fun t122 => (some (t122, x10_3, true))) = some (r1, r2, r3) := by rw [if_neg (show ¬ (false = true) by decide)] at H; exact H
                      clear H
                      have H := H1
                      clear H1
                      replace H := Option.bind_eq_some_iff.mp H
                      obtain ⟨t122, A430, H⟩ := H
                      replace H : (some (t122, x10_3, true)) = some (r1, r2, r3) := H
                      have A43 := Aside0.mk A430
                      (first | (have tb43 := tab_others HT.out (mvB HB) A430; obtain ⟨tb43a, tb43b, tb43c⟩ := tb43) | (have tb43 := tab_nameR HT.out (mvB HB) A430; obtain ⟨tb43a, tb43b, tb43c⟩ := tb43) | (have tb43 := tab_nameAlone HT.out (mvB HB) A430; obtain ⟨tb43a, tb43b, tb43c⟩ := tb43) | skip)
                      clear A430
                      simp only [Option.some.injEq, Prod.mk.injEq] at H
                      obtain ⟨rfl, rfl, rfl⟩ := H
                      have p38 := dT (0 ≤ (x10_3 : Int))
                      have q38 := dT (x10_3 < (a0.size : Int))
                      have hx38 := bt_at a0 x10_3
                      replace p38 := eq_true p38
                      replace q38 := eq_true q38
                      have p40 := dT (0 ≤ (x10_3 : Int))
                      have q40 := dT (x10_3 < (a0.size : Int))
                      have hx40 := bt_at a0 x10_3
                      replace p40 := eq_true p40
                      replace q40 := eq_true q40
                      go_wp2_with (first | (go_at_call 20; (with_reducible refine (charref_alnum.calls (bt a0 x10_3) false _ A41.out).mono ?_); rintro e w' ⟨rfl, ⟨nd, rfl⟩⟩))
                      go_ret3
                      exact ⟨by first | rfl | (simp [errW_none, errW_some] <;> rfl) | (simp [*, errW_none, errW_some] <;> rfl), mvB HB⟩
                   ·rw [if_neg c37] at H
                    exact absurd H (by simp)
                  ·rw [if_neg c36] at H
                   have c36b0 : decide (x10_3 < (a0.size : Int)) = false := decide_eq_false c36
                   clear c36
                   replace H := Option.bind_eq_some_iff.mp H
                   obtain ⟨t123, A440, H⟩ := H
                   replace H : (some (t123, x10_3, true)) = some (r1, r2, r3) := H
                   have A44 := Aside0.mk A440
                   (first | (have tb44 := tab_others HT.out (mvB HB) A440; obtain ⟨tb44a, tb44b, tb44c⟩ := tb44) | (have tb44 := tab_nameR HT.out (mvB HB) A440; obtain ⟨tb44a, tb44b, tb44c⟩ := tb44) | (have tb44 := tab_nameAlone HT.out (mvB HB) A440; obtain ⟨tb44a, tb44b, tb44c⟩ := tb44) | skip)
                   clear A440
                   simp only [Option.some.injEq, Prod.mk.injEq] at H
                   obtain ⟨rfl, rfl, rfl⟩ := H
                   go_wp2_with (first | fail)
                   go_ret3
                   exact ⟨by first | rfl | (simp [errW_none, errW_some] <;> rfl) | (simp [*, errW_none, errW_some] <;> rfl), mvB HB⟩
                 ·replace c35 := Bool.eq_false_iff.mpr c35
                  subst c35
                  have H1 : ((charref_nameR.f t117).bind fun t124 => (some (t124, x10_3, true))) = some (r1, r2, r3) := by rw [if_neg (show ¬ (false = true) by decide)] at H; exact H
                  clear H
                  have H := H1
                  clear H1
                  replace H := Option.bind_eq_some_iff.mp H
                  obtain ⟨t124, A450, H⟩ := H
                  replace H : (some (t124, x10_3, true)) = some (r1, r2, r3) := H
                  have A45 := Aside0.mk A450
                  (first | (have tb45 := tab_others HT.out (mvB HB) A450; obtain ⟨tb45a, tb45b, tb45c⟩ := tb45) | (have tb45 := tab_nameR HT.out (mvB HB) A450; obtain ⟨tb45a, tb45b, tb45c⟩ := tb45) | (have tb45 := tab_nameAlone HT.out (mvB HB) A450; obtain ⟨tb45a, tb45b, tb45c⟩ := tb45) | skip)
                  clear A450
                  simp only [Option.some.injEq, Prod.mk.injEq] at H
                  obtain ⟨rfl, rfl, rfl⟩ := H
                  go_wp2_with (first | fail)
                  go_ret3
                  exact ⟨by first | rfl | (simp [errW_none, errW_some] <;> rfl) | (simp [*, errW_none, errW_some] <;> rfl), mvB HB⟩
                ·replace c34 := Bool.eq_false_iff.mpr c34
                 subst c34
                 have H1 : (charref_Find.l1 kj25 a0 a1 (wrap64 (x10_3 - 1))) = some (r1, r2, r3) := by rw [if_neg (show ¬ (false = true) by decide)] at H; exact H
                 clear H
                 have H := H1
                 clear H1
                 have H' := Aside0.mk H
                 clear H
                 go_wp2_with (first | fail)
                 go_roundg kj25
                 case measure => have := HJ2.out; have := HJ14.out; have := HK3.out; have := HJ25.out; omega
                 case rel => exact ⟨(wrap64 (x10_3 - 1)), (by first | rfl | (simp; done) | (simp [*]; done)), H', ⟨by have := HJ2.out; have := HJ14.out; have := HK3.out; have := HJ25.out; omega⟩, ⟨mvB HB⟩⟩
            ·replace c25 := Bool.eq_false_iff.mpr c25
             subst c25
             have H1 : (charref_Find.l1 k3 a0 a1 (wrap64 (x10_3 - 1))) = some (r1, r2, r3) := by rw [if_neg (show ¬ (false = true) by decide)] at H; exact H
             clear H
             have H := H1
             clear H1
             have H' := Aside0.mk H
             clear H
             go_wp2_with (first | (go_at_call 21; (with_reducible refine (charref_search.calls (a0.extract 1 (x10_3 : Int).toNat) t117 false _ A24.out (by exact HT.out.below (mvB HB))).mono ?_); rintro e w46 ⟨rfl, hb⟩; have n0_ := Aside0.mk (below_step (mvB HB) hb); clear HB; have HB := n0_; clear n0_; (try clear hb); (try clear hb2); (try clear hk); (try clear hi)))
             go_roundg k3
             case measure => have := HJ2.out; have := HJ14.out; have := HK3.out; omega
             case rel => exact ⟨(wrap64 (x10_3 - 1)), (by first | rfl | (simp; done) | (simp [*]; done)), H', ⟨by have := HJ2.out; have := HJ14.out; have := HK3.out; omega⟩, ⟨mvB HB⟩⟩
           ·rw [if_neg c23] at H
            exact absurd H (by simp)
          ·rw [if_neg c22] at H
           exact absurd H (by simp)
         ·rw [if_neg c21] at H
          have c21b0 : decide (1 < x10_3) = false := decide_eq_false c21
          clear c21
          simp only [Option.some.injEq, Prod.mk.injEq] at H
          obtain ⟨rfl, rfl, rfl⟩ := H
          go_wp2
          go_ret3
          exact ⟨by first | rfl | (simp [errW_none, errW_some] <;> rfl) | (simp [*, errW_none, errW_some] <;> rfl), mvB HB⟩

-- NOT PRINTED: function 45 (bytealg_IndexByteString)

end Go.Proofs.YtaohghcmlohngaaDoor.X
