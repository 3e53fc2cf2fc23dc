import Derived.Test.YtdmkbaebcopjfaaT0
/-! utf.mended: its parts, each put into a builder. -/
namespace Go.Proofs.Ytdmkbaebcopjfaa.X
open Go.RowKit Go.Proofs.YtdmkbaebcopjfaaW.PrintWords Go.Proofs.YtdmkbaebcopjfaaW.PrintLast Go.Proofs.YtdmkbaebcopjfaaW.PrintMore
attribute [local go_sem] max2_int min2_int max_two min_two max_three min_three max_four min_four   -- for this text's walks alone
set_option linter.unusedVariables false
set_option linter.unusedSimpArgs false

/-! ### utf_needs: function 31 -/
mutual
def utf_needs.j1 : Nat → Int → Int → Int → Int → Option (Int × Int × Int × Bool)
 | 0, _, _, _, _ => none
 | k + 1, x0, x2, x3, x4 => if x0 = 224 then (some (x2, 160, x4, true)) else (if x0 = 237 then (some (x2, x3, 159, true)) else (if x0 = 240 then (some (x2, 144, x4, true)) else (if x0 = 244 then (some (x2, x3, 143, true)) else (some (x2, x3, x4, true)))))
def utf_needs.j0 : Nat → Int → Int → Int → Bool → Option (Int × Int × Int × Bool)
 | 0, _, _, _, _ => none
 | k + 1, x0, x3, x4, x9 => if x9 = true then (some (0, 0, 0, false)) else (if x0 < 224 then (some (1, x3, x4, true)) else (if x0 < 240 then (utf_needs.j1 k x0 2 x3 x4) else (utf_needs.j1 k x0 3 x3 x4)))
end
def utf_needs.f (k : Nat) (a0 : Int) : Option (Int × Int × Int × Bool) := if a0 < 128 then (some (0, 0, 0, true)) else (if a0 < 194 then (utf_needs.j0 k a0 128 191 true) else (utf_needs.j0 k a0 128 191 (decide (a0 > 244))))
theorem utf_needs.mono_l : ∀ k, (∀ y0 y1 y2 y3, LeO (utf_needs.j1 k y0 y1 y2 y3) (utf_needs.j1 (k + 1) y0 y1 y2 y3)) ∧ (∀ y0 y1 y2 y3, LeO (utf_needs.j0 k y0 y1 y2 y3) (utf_needs.j0 (k + 1) y0 y1 y2 y3))
 | 0 => ⟨fun _ _ _ _ r h => by simp [utf_needs.j1] at h, fun _ _ _ _ r h => by simp [utf_needs.j0] at h⟩
 | k + 1 => by
  obtain ⟨ih0, ih1⟩ := utf_needs.mono_l k
  refine ⟨?_, ?_⟩
  ·intro y0 y1 y2 y3
   unfold utf_needs.j1
   repeat' first
   | (with_reducible exact ih0 _ _ _ _)
   | (with_reducible exact ih1 _ _ _ _)
   | (with_reducible exact LeO.refl _)
   | (with_reducible exact LeO.none _)
   | (with_reducible refine LeO.ite ?_ ?_)
   | (with_reducible refine LeO.bind ?_ (fun _ => ?_))
   | exact ih0 _ _ _ _
   | exact ih1 _ _ _ _
   | exact LeO.none _
   | refine LeO.ite ?_ ?_
   | refine LeO.bind ?_ (fun _ => ?_)
  ·intro y0 y1 y2 y3
   unfold utf_needs.j0
   repeat' first
   | (with_reducible exact ih0 _ _ _ _)
   | (with_reducible exact ih1 _ _ _ _)
   | (with_reducible exact LeO.refl _)
   | (with_reducible exact LeO.none _)
   | (with_reducible refine LeO.ite ?_ ?_)
   | (with_reducible refine LeO.bind ?_ (fun _ => ?_))
   | exact ih0 _ _ _ _
   | exact ih1 _ _ _ _
   | exact LeO.none _
   | refine LeO.ite ?_ ?_
   | refine LeO.bind ?_ (fun _ => ?_)
theorem utf_needs.mono : ∀ a0 k, LeO (utf_needs.f k a0) (utf_needs.f (k + 1) a0) := by
 intro a0 k
 obtain ⟨ih0, ih1⟩ := utf_needs.mono_l k
 unfold utf_needs.f
 repeat' first
   | (with_reducible exact ih0 _ _ _ _)
   | (with_reducible exact ih1 _ _ _ _)
   | (with_reducible exact LeO.refl _)
   | (with_reducible exact LeO.none _)
   | (with_reducible refine LeO.ite ?_ ?_)
   | (with_reducible refine LeO.bind ?_ (fun _ => ?_))
   | exact ih0 _ _ _ _
   | exact ih1 _ _ _ _
   | exact LeO.none _
   | refine LeO.ite ?_ ?_
   | refine LeO.bind ?_ (fun _ => ?_)
set_option maxHeartbeats 8000000 in
set_option maxRecDepth 100000 in
theorem utf_needs.calls (k : Nat) (a0 : Int) (r1 : Int) (r2 : Int) (r3 : Int) (r4 : Bool) (w : World) (h : utf_needs.f k a0 = some (r1, r2, r3, r4)) :
  Calls Try.prog 31 #[.int .u8 a0] w fun e w' => e = .returned (.tuple #[.int .i64 r1, .int .u8 r2, .int .u8 r3, .bool r4]) ∧ Drawn0 w w' := by
 have H : (if a0 < 128 then (some (0, 0, 0, true)) else (if a0 < 194 then (utf_needs.j0 k a0 128 191 true) else (utf_needs.j0 k a0 128 191 (decide (a0 > 244))))) = some (r1, r2, r3, r4) := h
 clear h
 have HC2 := Aside0.mk H
 clear H
 go_enter Try.func31, Try.ntmps31
 go_upto_block 0 with (fail)
 go_cut [2, 3, 4] (fun v2 v3 v4 wc => ∃ (kq : Nat) (x2_1 : Int) (x3_1 : Int) (x4_1 : Int), v2 = .int .i64 x2_1 ∧ v3 = .int .u8 x3_1 ∧ v4 = .int .u8 x4_1 ∧ Aside0 (utf_needs.j1 kq a0 x2_1 x3_1 x4_1 = some (r1, r2, r3, r4)) ∧ Aside0 (kq ≤ k) ∧ Drawn0 w wc)
 case first =>
  have H := HC2.out
  clear HC2
  by_cases c3 : a0 < 128
  ·rw [if_pos c3] at H
   have c3b0 : decide (a0 < 128) = true := decide_eq_true c3
   clear c3
   (first | rw [c3b0] | (simp only [i64_w, i32_w]; rw [c3b0]) | skip)
   simp only [Option.some.injEq, Prod.mk.injEq] at H
   obtain ⟨rfl, rfl, rfl, rfl⟩ := H
   go_wp2
   refine bodyPost_ret (results_list (rs := [.tmp 2, .tmp 3, .tmp 4, .tmp 5]) rfl (by simp) (.tmp (.tmp (.tmp (.tmp .nil))))) rfl ?_
   exact ⟨by first | rfl | (simp; done) | (simp [*]; done), by repeat (first | exact Drawn0.refl _ | apply Drawn0.step)⟩
  ·rw [if_neg c3] at H
   have c3b0 : decide (a0 < 128) = false := decide_eq_false c3
   clear c3
   (first | rw [c3b0] | (simp only [i64_w, i32_w]; rw [c3b0]) | skip)
   have HC4 := Aside0.mk H
   clear H
   go_upto_region 5 with (fail)
   go_cut [9] (fun v9 wc => ∃ (kq : Nat) (x9_3 : Bool), v9 = .bool x9_3 ∧ Aside0 (utf_needs.j0 kq a0 128 191 x9_3 = some (r1, r2, r3, r4)) ∧ Aside0 (kq ≤ k) ∧ Drawn0 w wc)
   case first =>
    have H := HC4.out
    clear HC4
    by_cases c5 : a0 < 194
    ·rw [if_pos c5] at H
     have c5b0 : decide (a0 < 194) = true := decide_eq_true c5
     clear c5
     (first | rw [c5b0] | (simp only [i64_w, i32_w]; rw [c5b0]) | skip)
     have H' := Aside0.mk H
     clear H
     go_wp2
     go_meet
     case rel => exact ⟨_, (true), (by first | rfl | (simp; done) | (simp [*]; done)), H', ⟨by first | omega | exact Nat.le_refl _⟩, by repeat (first | exact Drawn0.refl _ | apply Drawn0.step)⟩
    ·rw [if_neg c5] at H
     have c5b0 : decide (a0 < 194) = false := decide_eq_false c5
     clear c5
     (first | rw [c5b0] | (simp only [i64_w, i32_w]; rw [c5b0]) | skip)
     have H' := Aside0.mk H
     clear H
     go_wp2
     go_meet
     case rel => exact ⟨_, (decide (a0 > 244)), (by first | rfl | (simp; done) | (simp [*]; done)), H', ⟨by first | omega | exact Nat.le_refl _⟩, by repeat (first | exact Drawn0.refl _ | apply Drawn0.step)⟩
   case rest =>
    clear HC4
    try clear p2
    try clear c3
    try clear c3b0
    try clear c5
    try clear c5b0
    obtain ⟨kq, x9_3, rfl, HA, HJ3, ⟨mc3, rfl⟩⟩ := hcut
    cases kq with
    | zero => exact absurd HA.out (by simp [utf_needs.j0])
    | succ kj3 =>
     have H := HA.out
     clear HA
     simp only [utf_needs.j0] at H
     by_cases c6 : x9_3 = true
     ·subst c6
      have H1 : (some (0, 0, 0, false)) = some (r1, r2, r3, r4) := by rw [if_pos rfl] at H; exact H
      clear H
      have H := H1
      clear H1
      simp only [Option.some.injEq, Prod.mk.injEq] at H
      obtain ⟨rfl, rfl, rfl, rfl⟩ := H
      go_wp2
      refine bodyPost_ret (results_list (rs := [.tmp 2, .tmp 3, .tmp 4, .tmp 5]) rfl (by simp) (.tmp (.tmp (.tmp (.tmp .nil))))) rfl ?_
      exact ⟨by first | rfl | (simp; done) | (simp [*]; done), by repeat (first | exact Drawn0.refl _ | apply Drawn0.step)⟩
     ·replace c6 := Bool.eq_false_iff.mpr c6
      subst c6
      have H1 : (if a0 < 224 then (some (1, 128, 191, true)) else (if a0 < 240 then (utf_needs.j1 kj3 a0 2 128 191) else (utf_needs.j1 kj3 a0 3 128 191))) = some (r1, r2, r3, r4) := by rw [if_neg (show ¬ (false = true) by decide)] at H; exact H
      clear H
      have H := H1
      clear H1
      by_cases c7 : a0 < 224
      ·rw [if_pos c7] at H
       have c7b0 : decide (a0 < 224) = true := decide_eq_true c7
       clear c7
       simp only [Option.some.injEq, Prod.mk.injEq] at H
       obtain ⟨rfl, rfl, rfl, rfl⟩ := H
       go_wp2
       refine bodyPost_ret (results_list (rs := [.tmp 2, .tmp 3, .tmp 4, .tmp 5]) rfl (by simp) (.tmp (.tmp (.tmp (.tmp .nil))))) rfl ?_
       exact ⟨by first | rfl | (simp; done) | (simp [*]; done), by repeat (first | exact Drawn0.refl _ | apply Drawn0.step)⟩
      ·rw [if_neg c7] at H
       have c7b0 : decide (a0 < 224) = false := decide_eq_false c7
       clear c7
       by_cases c8 : a0 < 240
       ·rw [if_pos c8] at H
        have c8b0 : decide (a0 < 240) = true := decide_eq_true c8
        clear c8
        have H' := Aside0.mk H
        clear H
        go_wp2
        go_meet
        case rel => exact ⟨_, (2), (128), (191), (by first | rfl | (simp; done) | (simp [*]; done)), (by first | rfl | (simp; done) | (simp [*]; done)), (by first | rfl | (simp; done) | (simp [*]; done)), H', ⟨by have := HJ3.out; first | omega | exact Nat.le_refl _⟩, by repeat (first | exact Drawn0.refl _ | apply Drawn0.step)⟩
       ·rw [if_neg c8] at H
        have c8b0 : decide (a0 < 240) = false := decide_eq_false c8
        clear c8
        have H' := Aside0.mk H
        clear H
        go_wp2
        go_meet
        case rel => exact ⟨_, (3), (128), (191), (by first | rfl | (simp; done) | (simp [*]; done)), (by first | rfl | (simp; done) | (simp [*]; done)), (by first | rfl | (simp; done) | (simp [*]; done)), H', ⟨by have := HJ3.out; first | omega | exact Nat.le_refl _⟩, by repeat (first | exact Drawn0.refl _ | apply Drawn0.step)⟩
 case rest =>
  clear HC2
  try clear p2
  try clear c3
  try clear c3b0
  try clear c5
  try clear c5b0
  try clear c6
  try clear c7
  try clear c7b0
  try clear c8
  try clear c8b0
  try clear p2
  obtain ⟨kq, x2_1, x3_1, x4_1, rfl, rfl, rfl, HA, HJ1, ⟨mc1, rfl⟩⟩ := hcut
  cases kq with
  | zero => exact absurd HA.out (by simp [utf_needs.j1])
  | succ kj1 =>
   have H := HA.out
   clear HA
   simp only [utf_needs.j1] at H
   by_cases c9 : a0 = 224
   ·rw [if_pos c9] at H
    have c9b0 : (a0 == 224) = true := beq_iff_eq.mpr c9
    have c9b1 : (a0 != 224) = false := bne_eq_false_iff_eq.mpr c9
    clear c9
    simp only [Option.some.injEq, Prod.mk.injEq] at H
    obtain ⟨rfl, rfl, rfl, rfl⟩ := H
    go_wp2
    refine bodyPost_ret (results_list (rs := [.tmp 2, .tmp 3, .tmp 4, .tmp 5]) rfl (by simp) (.tmp (.tmp (.tmp (.tmp .nil))))) rfl ?_
    exact ⟨by first | rfl | (simp; done) | (simp [*]; done), by repeat (first | exact Drawn0.refl _ | apply Drawn0.step)⟩
   ·rw [if_neg c9] at H
    have c9b0 : (a0 == 224) = false := beq_eq_false_iff_ne.mpr c9
    have c9b1 : (a0 != 224) = true := bne_iff_ne.mpr c9
    by_cases c10 : a0 = 237
    ·rw [if_pos c10] at H
     have c10b0 : (a0 == 237) = true := beq_iff_eq.mpr c10
     have c10b1 : (a0 != 237) = false := bne_eq_false_iff_eq.mpr c10
     clear c10
     simp only [Option.some.injEq, Prod.mk.injEq] at H
     obtain ⟨rfl, rfl, rfl, rfl⟩ := H
     go_wp2
     refine bodyPost_ret (results_list (rs := [.tmp 2, .tmp 3, .tmp 4, .tmp 5]) rfl (by simp) (.tmp (.tmp (.tmp (.tmp .nil))))) rfl ?_
     exact ⟨by first | rfl | (simp; done) | (simp [*]; done), by repeat (first | exact Drawn0.refl _ | apply Drawn0.step)⟩
    ·rw [if_neg c10] at H
     have c10b0 : (a0 == 237) = false := beq_eq_false_iff_ne.mpr c10
     have c10b1 : (a0 != 237) = true := bne_iff_ne.mpr c10
     by_cases c11 : a0 = 240
     ·rw [if_pos c11] at H
      have c11b0 : (a0 == 240) = true := beq_iff_eq.mpr c11
      have c11b1 : (a0 != 240) = false := bne_eq_false_iff_eq.mpr c11
      clear c11
      simp only [Option.some.injEq, Prod.mk.injEq] at H
      obtain ⟨rfl, rfl, rfl, rfl⟩ := H
      go_wp2
      refine bodyPost_ret (results_list (rs := [.tmp 2, .tmp 3, .tmp 4, .tmp 5]) rfl (by simp) (.tmp (.tmp (.tmp (.tmp .nil))))) rfl ?_
      exact ⟨by first | rfl | (simp; done) | (simp [*]; done), by repeat (first | exact Drawn0.refl _ | apply Drawn0.step)⟩
     ·rw [if_neg c11] at H
      have c11b0 : (a0 == 240) = false := beq_eq_false_iff_ne.mpr c11
      have c11b1 : (a0 != 240) = true := bne_iff_ne.mpr c11
      by_cases c12 : a0 = 244
      ·rw [if_pos c12] at H
       have c12b0 : (a0 == 244) = true := beq_iff_eq.mpr c12
       have c12b1 : (a0 != 244) = false := bne_eq_false_iff_eq.mpr c12
       clear c12
       simp only [Option.some.injEq, Prod.mk.injEq] at H
       obtain ⟨rfl, rfl, rfl, rfl⟩ := H
       go_wp2
       refine bodyPost_ret (results_list (rs := [.tmp 2, .tmp 3, .tmp 4, .tmp 5]) rfl (by simp) (.tmp (.tmp (.tmp (.tmp .nil))))) rfl ?_
       exact ⟨by first | rfl | (simp; done) | (simp [*]; done), by repeat (first | exact Drawn0.refl _ | apply Drawn0.step)⟩
      ·rw [if_neg c12] at H
       have c12b0 : (a0 == 244) = false := beq_eq_false_iff_ne.mpr c12
       have c12b1 : (a0 != 244) = true := bne_iff_ne.mpr c12
       simp only [Option.some.injEq, Prod.mk.injEq] at H
       obtain ⟨rfl, rfl, rfl, rfl⟩ := H
       go_wp2
       refine bodyPost_ret (results_list (rs := [.tmp 2, .tmp 3, .tmp 4, .tmp 5]) rfl (by simp) (.tmp (.tmp (.tmp (.tmp .nil))))) rfl ?_
       exact ⟨by first | rfl | (simp; done) | (simp [*]; done), by repeat (first | exact Drawn0.refl _ | apply Drawn0.step)⟩



/-- How many bytes follow a first one, and which the next one may be. -/
def uN (b : Int) : Int × Int × Int × Bool :=
  if b < 128 then (0, 0, 0, true) else if b < 194 ∨ 244 < b then (0, 0, 0, false) else if b < 224 then (1, 128, 191, true) else if b < 240 then (2, if b = 224 then 160 else 128, if b = 237 then 159 else 191, true) else (3, if b = 240 then 144 else 128, if b = 244 then 143 else 191, true)
theorem needs_some (b : Int) : utf_needs.f 2 b = some (uN b) := by
  unfold utf_needs.f uN
  by_cases h1 : b < 128
  · rw [if_pos h1, if_pos h1]
  rw [if_neg h1, if_neg h1]
  by_cases h2 : b < 194
  · rw [if_pos h2, if_pos (.inl h2)]; rfl
  rw [if_neg h2]
  by_cases h3 : 244 < b
  · rw [if_pos (.inr h3), decide_eq_true (show b > 244 from h3)]; rfl
  rw [if_neg (by omega), decide_eq_false (show ¬ b > 244 from h3)]
  simp only [utf_needs.j0, utf_needs.j1]
  rw [if_neg (by decide)]
  by_cases h4 : b < 224
  · rw [if_pos h4, if_pos h4]
  rw [if_neg h4, if_neg h4]
  by_cases h5 : b < 240
  · rw [if_pos h5, if_pos h5]
    by_cases e1 : b = 224
    · subst e1; rfl
    rw [if_neg e1, if_neg e1]
    by_cases e2 : b = 237
    · subst e2; rfl
    rw [if_neg e2, if_neg e2, if_neg (by omega), if_neg (by omega)]
  · rw [if_neg h5, if_neg h5, if_neg (by omega), if_neg (by omega)]
    by_cases e1 : b = 240
    · subst e1; rfl
    rw [if_neg e1, if_neg e1]
    by_cases e2 : b = 244
    · subst e2; rfl
    rw [if_neg e2, if_neg e2]
theorem uN_in (b : Int) : 0 ≤ (uN b).1 ∧ (uN b).1 ≤ 3 ∧ 0 ≤ (uN b).2.1 ∧ (uN b).2.1 ≤ 255 ∧ 0 ≤ (uN b).2.2.1 ∧ (uN b).2.2.1 ≤ 255 := by
  unfold uN
  repeat' split
  all_goals simp
/-- The bytes of the first part, from byte k on: where it ends, and whether it is well-formed. -/
def pk (s : ByteArray) (n : Int) : Nat → Int → Int → Int → Int × Bool
  | 0, k, _, _ => (k, true)
  | d + 1, k, lo, hi => if k ≤ n then (if k = s.size ∨ bt s k < lo ∨ hi < bt s k then (k, false) else pk s n d (k + 1) 128 191) else (k, true)
def part (s : ByteArray) : Int × Bool := let u := uN (bt s 0); if u.2.2.2 = true then pk s u.1 4 1 u.2.1 u.2.2.1 else (1, false)
theorem pk_in (s : ByteArray) (n : Int) (hn : n ≤ 3) : ∀ (d : Nat) (k lo hi : Int), k + d = 5 → 1 ≤ k → k ≤ s.size → 1 ≤ (pk s n d k lo hi).1 ∧ (pk s n d k lo hi).1 ≤ s.size := by
  intro d
  induction d with
  | zero => intro k lo hi h h1 h2; simp only [pk]; omega
  | succ d ih =>
    intro k lo hi h h1 h2
    rw [pk]
    split
    · split
      · exact ⟨h1, h2⟩
      · rename_i q
        exact ih (k + 1) 128 191 (by omega) (by omega) (by omega)
    · exact ⟨h1, h2⟩
theorem part_in (s : ByteArray) (h : 0 < s.size) : 1 ≤ (part s).1 ∧ (part s).1 ≤ s.size := by
  unfold part
  have hu := uN_in (bt s 0)
  dsimp only
  split
  · exact pk_in s _ hu.2.1 4 1 _ _ (by omega) (by omega) (by omega)
  · simp; omega
def bad3 : List UInt8 := [239, 191, 189]
/-- What comes of a part. -/
def pb (p : ByteArray) (ok : Bool) : List UInt8 := if ok = true then p.data.toList else bad3
theorem pb_len (p : ByteArray) (ok : Bool) (h : 1 ≤ p.size) : (pb p ok).length ≤ 3 * p.size := by
  have : p.data.toList.length = p.size := by rw [Array.length_toList]; rfl
  unfold pb
  split
  · omega
  · simp [bad3]; omega
/-- The text without what is ill-formed: its bytes. -/
def mend : Nat → ByteArray → List UInt8
  | 0, _ => []
  | f + 1, s => if s.size = 0 then [] else pb (s.extract 0 (part s).1.toNat) (part s).2 ++ mend f (s.extract (part s).1.toNat s.size)
theorem mend_len : ∀ (f : Nat) (s : ByteArray), (mend f s).length ≤ 3 * s.size := by
  intro f
  induction f with
  | zero => intro s; simp [mend]
  | succ f ih =>
    intro s
    rw [mend]
    split
    · simp
    · rename_i h
      have hp := part_in s (by omega)
      have h1 := ih (s.extract (part s).1.toNat s.size)
      have hs : (s.extract (part s).1.toNat s.size).size = s.size - (part s).1.toNat := by simp
      rw [hs] at h1
      rw [List.length_append]
      have hs2 : (s.extract 0 (part s).1.toNat).size = (part s).1.toNat := by rw [ByteArray.size_extract]; omega
      have h2 := pb_len (s.extract 0 (part s).1.toNat) (part s).2 (by omega)
      omega
/-- One part goes into the builder. -/
theorem each_c (B b : Nat) (acc : List UInt8) (p : ByteArray) (ok : Bool) (w : World) (h : Lib.IsBuilderF 38 5 B b (Lib.byteCells acc) w) (hlen : acc.length + p.size + 3 ≤ 140737488355328) (hBw : B ≤ w.heap.size) :
    Calls Try.prog 25 #[.string p, .bool ok, .pointer (some ⟨b, 0, none⟩)] w fun e w' => e = .returned (.tuple #[]) ∧ Lib.IsBuilderF 38 5 B b (Lib.byteCells (acc ++ pb p ok)) w' ∧ Below B w w' ∧ Lib.OthersKept 5 (some b) w w' := by
  cases ok with
  | true =>
    go_enter Try.func25, Try.ntmps25
    go_wp2_with (go_at_call 26; refine (Builder_WriteString_k B b (Lib.byteCells acc) p w h (by rw [Lib.byteCells_length]; omega) hBw).mono ?_)
    rintro e w1 ⟨rfl, h1, b1, k1⟩
    go_wp2
    go_end0
    refine ⟨rfl, ?_, b1, k1⟩
    rw [show pb p true = p.data.toList from rfl, Lib.byteCells_append]
    exact .inr h1
  | false =>
    go_enter Try.func25, Try.ntmps25
    go_wp2_with (go_at_call 26; refine (Builder_WriteString_k B b (Lib.byteCells acc) ⟨#[239, 191, 189]⟩ w h (by rw [Lib.byteCells_length]; have : (⟨#[239, 191, 189]⟩ : ByteArray).size = 3 := rfl; omega) hBw).mono ?_)
    rintro e w1 ⟨rfl, h1, b1, k1⟩
    go_wp2
    go_end0
    refine ⟨rfl, ?_, b1, k1⟩
    rw [show pb p false = bad3 from rfl, Lib.byteCells_append]
    exact .inr h1
end Go.Proofs.Ytdmkbaebcopjfaa.X
