-- by xprint.py: the kit's printer over texts of this session
import Derived.Test.YthckihfkhmoafaaX0
import Derived.Test.YthckihfkhmoafaaX1
import Derived.Test.YthckihfkhmoafaaX3
namespace Go.Proofs.Ythckihfkhmoafaa.X
open Go.RowKit Go.Proofs.YthckihfkhmoafaaW.PrintWords Go.Proofs.YthckihfkhmoafaaW.PrintLast Go.Proofs.YthckihfkhmoafaaW.PrintMore
attribute [local go_sem] max2_int min2_int max_two min_two max_three min_three max_four min_four   -- for this text's walks alone
set_option linter.unusedVariables false
set_option linter.unusedSimpArgs false

/-! ### selvedgelaw21_BreaksAgain: function 4 -/
mutual
def selvedgelaw21_BreaksAgain.j0 : Nat → List (S36) → Int → Int → List Int → Int → Bool → Option (Bool)
 | 0, _, _, _, _, _, _ => none
 | k + 1, x0, x1, x2, x7, x8, x29 => if x29 = true then (if x8 = 0 then (some false) else ((selvedgelaw21_works.f k).bind fun t173 => (some t173))) else ((selvedgekit_Pick.f x2 (x7.length : Int)).bind fun t174 => (if 0 ≤ t174 then (if t174 < (x7.length : Int) then (if 0 ≤ (rd x7 t174) then (if (rd x7 t174) ≤ (x0.length : Int) then ((breaks_Lines.f (x0.drop ((rd x7 t174) : Int).toNat) x1).bind fun bt180 => (if bt180.2 = 0 then (selvedgelaw21_BreaksAgain.j1 k x7 t174 bt180.1 ((bt180.1.length : Int) != (wrap64 ((x7.length : Int) - t174)))) else (selvedgelaw21_BreaksAgain.j1 k x7 t174 bt180.1 true))) else (none)) else (none)) else (none)) else (none)))
def selvedgelaw21_BreaksAgain.j1 : Nat → List Int → Int → List Int → Bool → Option (Bool)
 | 0, _, _, _, _ => none
 | k + 1, x7, x9, x10, x60 => if x60 = true then (some false) else (selvedgelaw21_BreaksAgain.l0 k x7 x9 x10 0)
def selvedgelaw21_BreaksAgain.l0 : Nat → List Int → Int → List Int → Int → Option (Bool)
 | 0, _, _, _, _ => none
 | k + 1, x7, x9, x10, x12 => if x12 < (x10.length : Int) then (if 0 ≤ x12 then (if 0 ≤ x9 then (if x9 < (x7.length : Int) then (if 0 ≤ (wrap64 (x9 + x12)) then (if (wrap64 (x9 + x12)) < (x7.length : Int) then (if (wrap64 ((rd x10 x12) + (rd x7 x9))) = (rd x7 (wrap64 (x9 + x12))) then (selvedgelaw21_BreaksAgain.l0 k x7 x9 x10 (wrap64 (x12 + 1))) else (some false)) else (none)) else (none)) else (none)) else (none)) else (none)) else ((selvedgelaw21_works.f k).bind fun t187 => (some t187))
end
def selvedgelaw21_BreaksAgain.f (k : Nat) (l0 : List (S36)) (a1 : Int) (a2 : Int) : Option (Bool) := if (l0.length : Int) > 300 then ((selvedgelaw21_works.f k).bind fun t168 => (some t168)) else ((breaks_Lines.f l0 a1).bind fun bt169 => (if bt169.2 = 0 then (selvedgelaw21_BreaksAgain.j0 k l0 a1 a2 bt169.1 bt169.2 ((bt169.1.length : Int) == 0)) else (selvedgelaw21_BreaksAgain.j0 k l0 a1 a2 bt169.1 bt169.2 true)))
theorem selvedgelaw21_BreaksAgain.mono_l : ∀ k, (∀ y0 y1 y2 y3 y4 y5, LeO (selvedgelaw21_BreaksAgain.j0 k y0 y1 y2 y3 y4 y5) (selvedgelaw21_BreaksAgain.j0 (k + 1) y0 y1 y2 y3 y4 y5)) ∧ (∀ y0 y1 y2 y3, LeO (selvedgelaw21_BreaksAgain.j1 k y0 y1 y2 y3) (selvedgelaw21_BreaksAgain.j1 (k + 1) y0 y1 y2 y3)) ∧ (∀ y0 y1 y2 y3, LeO (selvedgelaw21_BreaksAgain.l0 k y0 y1 y2 y3) (selvedgelaw21_BreaksAgain.l0 (k + 1) y0 y1 y2 y3))
 | 0 => ⟨fun _ _ _ _ _ _ r h => by simp [selvedgelaw21_BreaksAgain.j0] at h, fun _ _ _ _ r h => by simp [selvedgelaw21_BreaksAgain.j1] at h, fun _ _ _ _ r h => by simp [selvedgelaw21_BreaksAgain.l0] at h⟩
 | k + 1 => by
  obtain ⟨ih0, ih1, ih2⟩ := selvedgelaw21_BreaksAgain.mono_l k
  refine ⟨?_, ?_, ?_⟩
  ·intro y0 y1 y2 y3 y4 y5
   unfold selvedgelaw21_BreaksAgain.j0
   repeat' first
   | (with_reducible exact ih0 _ _ _ _ _ _)
   | (with_reducible exact ih1 _ _ _ _)
   | (with_reducible exact ih2 _ _ _ _)
   | (with_reducible exact selvedgelaw21_works.mono _)
   | (with_reducible exact LeO.refl _)
   | (with_reducible exact LeO.none _)
   | (with_reducible refine LeO.ite ?_ ?_)
   | (with_reducible refine LeO.bind ?_ (fun _ => ?_))
   | exact ih0 _ _ _ _ _ _
   | exact ih1 _ _ _ _
   | exact ih2 _ _ _ _
   | exact selvedgelaw21_works.mono _
   | exact LeO.none _
   | refine LeO.ite ?_ ?_
   | refine LeO.bind ?_ (fun _ => ?_)
  ·intro y0 y1 y2 y3
   unfold selvedgelaw21_BreaksAgain.j1
   repeat' first
   | (with_reducible exact ih0 _ _ _ _ _ _)
   | (with_reducible exact ih1 _ _ _ _)
   | (with_reducible exact ih2 _ _ _ _)
   | (with_reducible exact selvedgelaw21_works.mono _)
   | (with_reducible exact LeO.refl _)
   | (with_reducible exact LeO.none _)
   | (with_reducible refine LeO.ite ?_ ?_)
   | (with_reducible refine LeO.bind ?_ (fun _ => ?_))
   | exact ih0 _ _ _ _ _ _
   | exact ih1 _ _ _ _
   | exact ih2 _ _ _ _
   | exact selvedgelaw21_works.mono _
   | exact LeO.none _
   | refine LeO.ite ?_ ?_
   | refine LeO.bind ?_ (fun _ => ?_)
  ·intro y0 y1 y2 y3
   unfold selvedgelaw21_BreaksAgain.l0
   repeat' first
   | (with_reducible exact ih0 _ _ _ _ _ _)
   | (with_reducible exact ih1 _ _ _ _)
   | (with_reducible exact ih2 _ _ _ _)
   | (with_reducible exact selvedgelaw21_works.mono _)
   | (with_reducible exact LeO.refl _)
   | (with_reducible exact LeO.none _)
   | (with_reducible refine LeO.ite ?_ ?_)
   | (with_reducible refine LeO.bind ?_ (fun _ => ?_))
   | exact ih0 _ _ _ _ _ _
   | exact ih1 _ _ _ _
   | exact ih2 _ _ _ _
   | exact selvedgelaw21_works.mono _
   | exact LeO.none _
   | refine LeO.ite ?_ ?_
   | refine LeO.bind ?_ (fun _ => ?_)
theorem selvedgelaw21_BreaksAgain.mono : ∀ a0 a1 a2 k, LeO (selvedgelaw21_BreaksAgain.f k a0 a1 a2) (selvedgelaw21_BreaksAgain.f (k + 1) a0 a1 a2) := by
 intro a0 a1 a2 k
 obtain ⟨ih0, ih1, ih2⟩ := selvedgelaw21_BreaksAgain.mono_l k
 unfold selvedgelaw21_BreaksAgain.f
 repeat' first
   | (with_reducible exact ih0 _ _ _ _ _ _)
   | (with_reducible exact ih1 _ _ _ _)
   | (with_reducible exact ih2 _ _ _ _)
   | (with_reducible exact selvedgelaw21_works.mono _)
   | (with_reducible exact LeO.refl _)
   | (with_reducible exact LeO.none _)
   | (with_reducible refine LeO.ite ?_ ?_)
   | (with_reducible refine LeO.bind ?_ (fun _ => ?_))
   | exact ih0 _ _ _ _ _ _
   | exact ih1 _ _ _ _
   | exact ih2 _ _ _ _
   | exact selvedgelaw21_works.mono _
   | exact LeO.none _
   | refine LeO.ite ?_ ?_
   | refine LeO.bind ?_ (fun _ => ?_)
set_option maxHeartbeats 8000000 in
set_option maxRecDepth 100000 in
theorem selvedgelaw21_BreaksAgain.calls (k : Nat) (A0 : Option Addr) (c0 : Nat) (l0 : List (S36)) (a1 : Int) (a2 : Int) (r : Bool) (w : World) (hr0 : Kd.C k36 w A0 l0.length l0) (hc0 : l0.length ≤ c0) (h : selvedgelaw21_BreaksAgain.f k l0 a1 a2 = some r) :
  Calls Try.prog 4 #[.slice A0 l0.length c0, .int .i64 a1, .int .i64 a2] w fun e w' => e = .returned (.bool r) ∧ Below w.heap.size w w' := by
 have HR0 := Aside0.mk hr0
 have HC0 := Aside0.mk hc0
 clear hr0 hc0
 have HB := Aside0.mk (Below.refl w.heap.size w)
 have H : (if (l0.length : Int) > 300 then ((selvedgelaw21_works.f k).bind fun t168 => (some t168)) else ((breaks_Lines.f l0 a1).bind fun bt169 => (if bt169.2 = 0 then (selvedgelaw21_BreaksAgain.j0 k l0 a1 a2 bt169.1 bt169.2 ((bt169.1.length : Int) == 0)) else (selvedgelaw21_BreaksAgain.j0 k l0 a1 a2 bt169.1 bt169.2 true)))) = some r := h
 clear h
 by_cases c4 : (l0.length : Int) > 300
 ·rw [if_pos c4] at H
  have c4b0 : decide (300 < (l0.length : Int)) = true := decide_eq_true c4
  have c4b1 : decide (300 < l0.length) = true := decide_eq_true (by omega)
  clear c4
  replace H := Option.bind_eq_some_iff.mp H
  obtain ⟨t168, A50, H⟩ := H
  replace H : (some t168) = some r := H
  have A5 := Aside0.mk A50
  clear A50
  obtain rfl := Option.some.inj H
  go_enter Try.func4, Try.ntmps4
  go_wp2_with (first | (go_at_call 10; (with_reducible refine (selvedgelaw21_works.calls k  t168 _ A5.out).mono ?_); rintro e w6 ⟨rfl, hb⟩; have n0_ := Aside0.mk (below_step (mvB HB) hb); clear HB; have HB := n0_; clear n0_; (try clear hb); (try clear hb2); (try clear hk); (try clear hi)))
  repeat (go_quiet (first | (go_at_call 10; (with_reducible refine (selvedgelaw21_works.calls k  t168 _ A5.out).mono ?_); rintro e w6 ⟨rfl, hb⟩; have n0_ := Aside0.mk (below_step (mvB HB) hb); clear HB; have HB := n0_; clear n0_; (try clear hb); (try clear hb2); (try clear hk); (try clear hi))); try go_wp2_with (first | (go_at_call 10; (with_reducible refine (selvedgelaw21_works.calls k  t168 _ A5.out).mono ?_); rintro e w6 ⟨rfl, hb⟩; have n0_ := Aside0.mk (below_step (mvB HB) hb); clear HB; have HB := n0_; clear n0_; (try clear hb); (try clear hb2); (try clear hk); (try clear hi))))
  go_ret
  exact ⟨by first | rfl | (simp [errW_none, errW_some] <;> rfl) | (simp [*, errW_none, errW_some] <;> rfl), mvB HB⟩
 ·rw [if_neg c4] at H
  have c4b0 : decide (300 < (l0.length : Int)) = false := decide_eq_false c4
  have c4b1 : decide (300 < l0.length) = false := decide_eq_false (by omega)
  clear c4
  replace H := Option.bind_eq_some_iff.mp H
  obtain ⟨⟨t169, t170⟩, A70, H⟩ := H
  replace H : (if t170 = 0 then (selvedgelaw21_BreaksAgain.j0 k l0 a1 a2 t169 t170 ((t169.length : Int) == 0)) else (selvedgelaw21_BreaksAgain.j0 k l0 a1 a2 t169 t170 true)) = some r := H
  have A7 := Aside0.mk A70
  clear A70
  have HC8 := Aside0.mk H
  clear H
  go_enter Try.func4, Try.ntmps4
  go_upto_region 4 with (first | (go_at_call 14; (with_reducible refine (breaks_Lines.calls _ _ l0 a1 t169 t170 _ ?side1 ?side2 A7.out).mono ?_); (case side1 => repeat (first | exact HR0.out | (with_reducible refine Kd.C_alloc ?_ _) | (with_reducible refine Kd.C_drewN ?_ _) | (with_reducible refine Kd.C_drew ?_))); (case side2 => exact HC0.out); rintro e w9 ⟨v171, rfl, ho0, hb⟩; have n0_ := Aside0.mk (Kd.R_lower ho0 (below_size (mvB HB))); have n1_ := Aside0.mk (below_step (mvB HB) hb); clear HB; have HO172 := n0_; have HB := n1_; clear n0_ n1_; (try clear hb); (try clear hb2); (try clear hk); (try clear hi); (try clear ho0)))
  repeat (go_quiet (first | (go_at_call 14; (with_reducible refine (breaks_Lines.calls _ _ l0 a1 t169 t170 _ ?side1 ?side2 A7.out).mono ?_); (case side1 => repeat (first | exact HR0.out | (with_reducible refine Kd.C_alloc ?_ _) | (with_reducible refine Kd.C_drewN ?_ _) | (with_reducible refine Kd.C_drew ?_))); (case side2 => exact HC0.out); rintro e w9 ⟨v171, rfl, ho0, hb⟩; have n0_ := Aside0.mk (Kd.R_lower ho0 (below_size (mvB HB))); have n1_ := Aside0.mk (below_step (mvB HB) hb); clear HB; have HO172 := n0_; have HB := n1_; clear n0_ n1_; (try clear hb); (try clear hb2); (try clear hk); (try clear hi); (try clear ho0))); go_upto_region 4 with (first | (go_at_call 14; (with_reducible refine (breaks_Lines.calls _ _ l0 a1 t169 t170 _ ?side1 ?side2 A7.out).mono ?_); (case side1 => repeat (first | exact HR0.out | (with_reducible refine Kd.C_alloc ?_ _) | (with_reducible refine Kd.C_drewN ?_ _) | (with_reducible refine Kd.C_drew ?_))); (case side2 => exact HC0.out); rintro e w9 ⟨v171, rfl, ho0, hb⟩; have n0_ := Aside0.mk (Kd.R_lower ho0 (below_size (mvB HB))); have n1_ := Aside0.mk (below_step (mvB HB) hb); clear HB; have HO172 := n0_; have HB := n1_; clear n0_ n1_; (try clear hb); (try clear hb2); (try clear hk); (try clear hi); (try clear ho0))))
  (try simp only [Act.put, List.setIfInBounds_toArray, List.set_cons_zero, List.set_cons_succ])
  go_cut [29] (fun v29 wc => ∃ (kq : Nat) (x29_7 : Bool), v29 = .bool x29_7 ∧ Aside0 (selvedgelaw21_BreaksAgain.j0 kq l0 a1 a2 t169 t170 x29_7 = some r) ∧ Aside0 (kq ≤ k) ∧ Aside0 (Kd.R (Kd.int .i64) 3 wc w.heap.size (fun _ => True) v171 t169) ∧ Aside0 (Below w.heap.size w wc))
  case first =>
   have H := HC8.out
   clear HC8
   by_cases c10 : t170 = 0
   ·rw [if_pos c10] at H
    have c10b0 : (t170 == 0) = true := beq_iff_eq.mpr c10
    have c10b1 : (t170 != 0) = false := bne_eq_false_iff_eq.mpr c10
    clear c10
    (first | rw [c10b0] | (simp only [i64_w, i32_w]; rw [c10b0]) | skip)
    have H' := Aside0.mk H
    clear H
    obtain ⟨Ao11, co11, eo11⟩ := Kd.R_slice HO172.out
    subst eo11
    go_wp2
    repeat (go_quiet (fail); try go_wp2)
    go_meet
    case rel => exact ⟨_, (((t169.length : Int) == 0)), (by first | rfl | (simp; done) | (simp [*]; done)), H', ⟨by first | omega | exact Nat.le_refl _⟩, ⟨mvR HO172⟩, ⟨mvB HB⟩⟩
   ·rw [if_neg c10] at H
    have c10b0 : (t170 == 0) = false := beq_eq_false_iff_ne.mpr c10
    have c10b1 : (t170 != 0) = true := bne_iff_ne.mpr c10
    (first | rw [c10b0] | (simp only [i64_w, i32_w]; rw [c10b0]) | skip)
    have H' := Aside0.mk H
    clear H
    go_wp2
    repeat (go_quiet (fail); try go_wp2)
    go_meet
    case rel => exact ⟨_, (true), (by first | rfl | (simp; done) | (simp [*]; done)), H', ⟨by first | omega | exact Nat.le_refl _⟩, ⟨mvR HO172⟩, ⟨mvB HB⟩⟩
  case rest =>
   clear HC8
   try clear c1
   try clear p2
   try clear c4
   try clear c4b0
   try clear c4b1
   try clear c10
   try clear c10b0
   try clear c10b1
   obtain ⟨kq, x29_7, rfl, HA, HJ7, HO_7, HB⟩ := hcut
   cases kq with
   | zero => exact absurd HA.out (by simp [selvedgelaw21_BreaksAgain.j0])
   | succ kj7 =>
    have H := HA.out
    clear HA
    simp only [selvedgelaw21_BreaksAgain.j0] at H
    by_cases c12 : x29_7 = true
    ·subst c12
     have H1 : (if t170 = 0 then (some false) else ((selvedgelaw21_works.f kj7).bind fun t173 => (some t173))) = some r := by rw [if_pos rfl] at H; exact H
     clear H
     have H := H1
     clear H1
     by_cases c13 : t170 = 0
     ·rw [if_pos c13] at H
      have c13b0 : (t170 == 0) = true := beq_iff_eq.mpr c13
      have c13b1 : (t170 != 0) = false := bne_eq_false_iff_eq.mpr c13
      clear c13
      obtain rfl := Option.some.inj H
      go_wp2
      repeat (go_quiet (fail); try go_wp2)
      go_ret
      exact ⟨by first | rfl | (simp [errW_none, errW_some] <;> rfl) | (simp [*, errW_none, errW_some] <;> rfl), mvB HB⟩
     ·rw [if_neg c13] at H
      have c13b0 : (t170 == 0) = false := beq_eq_false_iff_ne.mpr c13
      have c13b1 : (t170 != 0) = true := bne_iff_ne.mpr c13
      replace H := Option.bind_eq_some_iff.mp H
      obtain ⟨t173, A140, H⟩ := H
      replace H : (some t173) = some r := H
      have A14 := Aside0.mk A140
      clear A140
      obtain rfl := Option.some.inj H
      go_wp2_with (first | (go_at_call 10; (with_reducible refine (selvedgelaw21_works.calls kj7  t173 _ A14.out).mono ?_); rintro e w15 ⟨rfl, hb⟩; have n0_ := Aside0.mk (Kd.R_below (mvR HO_7) hb); have n1_ := Aside0.mk (below_step (mvB HB) hb); clear HO_7; clear HB; have HO_7 := n0_; have HB := n1_; clear n0_ n1_; (try clear hb); (try clear hb2); (try clear hk); (try clear hi)))
      repeat (go_quiet (first | (go_at_call 10; (with_reducible refine (selvedgelaw21_works.calls kj7  t173 _ A14.out).mono ?_); rintro e w15 ⟨rfl, hb⟩; have n0_ := Aside0.mk (Kd.R_below (mvR HO_7) hb); have n1_ := Aside0.mk (below_step (mvB HB) hb); clear HO_7; clear HB; have HO_7 := n0_; have HB := n1_; clear n0_ n1_; (try clear hb); (try clear hb2); (try clear hk); (try clear hi))); try go_wp2_with (first | (go_at_call 10; (with_reducible refine (selvedgelaw21_works.calls kj7  t173 _ A14.out).mono ?_); rintro e w15 ⟨rfl, hb⟩; have n0_ := Aside0.mk (Kd.R_below (mvR HO_7) hb); have n1_ := Aside0.mk (below_step (mvB HB) hb); clear HO_7; clear HB; have HO_7 := n0_; have HB := n1_; clear n0_ n1_; (try clear hb); (try clear hb2); (try clear hk); (try clear hi))))
      go_ret
      exact ⟨by first | rfl | (simp [errW_none, errW_some] <;> rfl) | (simp [*, errW_none, errW_some] <;> rfl), mvB HB⟩
    ·replace c12 := Bool.eq_false_iff.mpr c12
     subst c12
     have H1 : ((selvedgekit_Pick.f a2 (t169.length : Int)).bind fun t174 => (if 0 ≤ t174 then (if t174 < (t169.length : Int) then (if 0 ≤ (rd t169 t174) then (if (rd t169 t174) ≤ (l0.length : Int) then ((breaks_Lines.f (l0.drop ((rd t169 t174) : Int).toNat) a1).bind fun bt180 => (if bt180.2 = 0 then (selvedgelaw21_BreaksAgain.j1 kj7 t169 t174 bt180.1 ((bt180.1.length : Int) != (wrap64 ((t169.length : Int) - t174)))) else (selvedgelaw21_BreaksAgain.j1 kj7 t169 t174 bt180.1 true))) else (none)) else (none)) else (none)) else (none))) = some r := by rw [if_neg (show ¬ (false = true) by decide)] at H; exact H
     clear H
     have H := H1
     clear H1
     replace H := Option.bind_eq_some_iff.mp H
     obtain ⟨t174, A160, H⟩ := H
     replace H : (if 0 ≤ t174 then (if t174 < (t169.length : Int) then (if 0 ≤ (rd t169 t174) then (if (rd t169 t174) ≤ (l0.length : Int) then ((breaks_Lines.f (l0.drop ((rd t169 t174) : Int).toNat) a1).bind fun bt180 => (if bt180.2 = 0 then (selvedgelaw21_BreaksAgain.j1 kj7 t169 t174 bt180.1 ((bt180.1.length : Int) != (wrap64 ((t169.length : Int) - t174)))) else (selvedgelaw21_BreaksAgain.j1 kj7 t169 t174 bt180.1 true))) else (none)) else (none)) else (none)) else (none)) = some r := H
     have A16 := Aside0.mk A160
     clear A160
     by_cases c17 : 0 ≤ t174
     ·rw [if_pos c17] at H
      have c17b0 : decide (0 ≤ t174) = true := decide_eq_true c17
      clear c17
      by_cases c18 : t174 < (t169.length : Int)
      ·rw [if_pos c18] at H
       have c18b0 : decide (t174 < (t169.length : Int)) = true := decide_eq_true c18
       clear c18
       by_cases c19 : 0 ≤ (rd t169 t174)
       ·rw [if_pos c19] at H
        have c19b0 := eq_true c19
        have c19b1 : decide (0 ≤ (rd t169 t174)) = true := decide_eq_true c19
        clear c19
        by_cases c20 : (rd t169 t174) ≤ (l0.length : Int)
        ·rw [if_pos c20] at H
         have c20b0 := eq_true c20
         have c20b1 : decide ((rd t169 t174) ≤ (l0.length : Int)) = true := decide_eq_true c20
         clear c20
         obtain ⟨y176, hy176⟩ : ∃ y_ : List (S36), y_ = (l0.drop ((rd t169 t174) : Int).toNat) := ⟨_, rfl⟩
         replace H : ((breaks_Lines.f y176 a1).bind fun bt180 => (if bt180.2 = 0 then (selvedgelaw21_BreaksAgain.j1 kj7 t169 t174 bt180.1 ((bt180.1.length : Int) != (wrap64 ((t169.length : Int) - t174)))) else (selvedgelaw21_BreaksAgain.j1 kj7 t169 t174 bt180.1 true))) = some r := by first | (rw [hy176]; with_reducible exact H) | (have H2_ := (Option.bind_some _ _).symm.trans H; rw [hy176]; with_reducible exact H2_) | (have H2_ := (Option.bind_some _ _).symm.trans H; with_reducible exact H2_) | with_reducible exact H | (rw [hy176]; exact H) | exact H
         have Ny176 := Aside0.mk hy176
         clear hy176
         replace H := Option.bind_eq_some_iff.mp H
         obtain ⟨⟨t180, t181⟩, A210, H⟩ := H
         replace H : (if t181 = 0 then (selvedgelaw21_BreaksAgain.j1 kj7 t169 t174 t180 ((t180.length : Int) != (wrap64 ((t169.length : Int) - t174)))) else (selvedgelaw21_BreaksAgain.j1 kj7 t169 t174 t180 true)) = some r := H
         have A21 := Aside0.mk A210
         clear A210
         have HC22 := Aside0.mk H
         clear H
         obtain ⟨Ao23, co23, eo23⟩ := Kd.R_slice HO_7.out
         subst eo23
         go_upto_region 8 with (first | (go_at_call 15; (with_reducible refine (selvedgekit_Pick.calls a2 (t169.length : Int) t174 _ A16.out).mono ?_); rintro e w' ⟨rfl, ⟨nd, rfl⟩⟩; (try first | exact ⟨rfl, _, World.drewN_drewN _ _ _⟩ | exact ⟨rfl, _, Eq.trans (World.drewN_drewN _ _ _) (congrArg (World.drewN _) (Nat.add_assoc _ _ _))⟩); obtain ⟨ad175, e175, hx175_0, p175, q175⟩ := atI (Kd.R_reads' HO_7.out).2.2 t174; cases e175; have q24 : ((rd t169 t174) : Int) ≤ ((l0.length : Int) : Int) := of_decide_eq_true (by first | (with_reducible assumption) | assumption); obtain ⟨i024, hi024, _, hsz24, _⟩ := info_parts info36; have hroom24 : l0.length ≤ c0 := HC0.out; have hC24 : Kd.C k36 _ A0 l0.length l0 := HR0.out; have q024 : (0 : Int) ≤ ((rd t169 t174) : Int) := of_decide_eq_true (by first | (with_reducible assumption) | assumption); have hcut24 := cut_from (P := Try.prog) 22 36 .i64 Try.underlying22 hi024 4 hsz24 A0 l0.length c0 (rd t169 t174) q024 q24; have hr24 := Kd.C_drop (m := ((rd t169 t174) : Int).toNat) (c := c0) hC24 (by omega) hroom24; obtain ⟨A24, hA24⟩ : ∃ A1, A1 = (if c0 = ((rd t169 t174) : Int).toNat then A0 else (A0 : Option Addr).map (·.add (((rd t169 t174) : Int).toNat * 4))) := ⟨_, rfl⟩; obtain ⟨c24, hc24⟩ : ∃ c1, c1 = c0 - ((rd t169 t174) : Int).toNat := ⟨_, rfl⟩; have hy24 : y176.length = l0.length - ((rd t169 t174) : Int).toNat := (by rw [Ny176.out, List.length_drop] <;> omega); rw [show (l0).drop ((rd t169 t174) : Int).toNat = y176 from Ny176.out.symm] at hr24; replace hr24 : Kd.C k36 _ A24 y176.length y176 := (by rw [hA24]; exact hr24); rw [← hy24, ← hA24, ← hc24] at hcut24; have HR179 := Aside0.mk hr24; have HC179 := Aside0.mk (show y176.length ≤ c24 from by rw [hy24, hc24]; exact Nat.sub_le_sub_right hroom24 _); clear hr24 hC24 hroom24 hi024 hsz24 hc24; have KY24 := Aside0.mk hy24; have KA24 := Aside0.mk hA24; clear hy24 hA24; replace q24 := eq_true q24) | (go_at_call 14; (with_reducible refine (breaks_Lines.calls _ _ y176 a1 t180 t181 _ ?side1 ?side2 A21.out).mono ?_); (case side1 => repeat (first | exact (Kd.C_below HR179.out (mvB HB)) | (with_reducible refine Kd.C_alloc ?_ _) | (with_reducible refine Kd.C_drewN ?_ _) | (with_reducible refine Kd.C_drew ?_))); (case side2 => exact HC179.out); rintro e w25 ⟨v182, rfl, ho0, hb⟩; have n0_ := Aside0.mk (Kd.R_elder' (mvR HO_7) (Kd.R_base ho0) hb); have n1_ := Aside0.mk (Kd.R_lower (Kd.R_new' ho0 (Kd.R_lt (mvR HO_7))) (below_size (mvB HB))); have n2_ := Aside0.mk (below_step (mvB HB) hb); clear HO_7; clear HB; have HO_7 := n0_; have HO183 := n1_; have HB := n2_; clear n0_ n1_ n2_; (try clear hb); (try clear hb2); (try clear hk); (try clear hi); (try clear ho0)))
         repeat (go_quiet (first | (go_at_call 15; (with_reducible refine (selvedgekit_Pick.calls a2 (t169.length : Int) t174 _ A16.out).mono ?_); rintro e w' ⟨rfl, ⟨nd, rfl⟩⟩; (try first | exact ⟨rfl, _, World.drewN_drewN _ _ _⟩ | exact ⟨rfl, _, Eq.trans (World.drewN_drewN _ _ _) (congrArg (World.drewN _) (Nat.add_assoc _ _ _))⟩); obtain ⟨ad175, e175, hx175_0, p175, q175⟩ := atI (Kd.R_reads' HO_7.out).2.2 t174; cases e175; have q24 : ((rd t169 t174) : Int) ≤ ((l0.length : Int) : Int) := of_decide_eq_true (by first | (with_reducible assumption) | assumption); obtain ⟨i024, hi024, _, hsz24, _⟩ := info_parts info36; have hroom24 : l0.length ≤ c0 := HC0.out; have hC24 : Kd.C k36 _ A0 l0.length l0 := HR0.out; have q024 : (0 : Int) ≤ ((rd t169 t174) : Int) := of_decide_eq_true (by first | (with_reducible assumption) | assumption); have hcut24 := cut_from (P := Try.prog) 22 36 .i64 Try.underlying22 hi024 4 hsz24 A0 l0.length c0 (rd t169 t174) q024 q24; have hr24 := Kd.C_drop (m := ((rd t169 t174) : Int).toNat) (c := c0) hC24 (by omega) hroom24; obtain ⟨A24, hA24⟩ : ∃ A1, A1 = (if c0 = ((rd t169 t174) : Int).toNat then A0 else (A0 : Option Addr).map (·.add (((rd t169 t174) : Int).toNat * 4))) := ⟨_, rfl⟩; obtain ⟨c24, hc24⟩ : ∃ c1, c1 = c0 - ((rd t169 t174) : Int).toNat := ⟨_, rfl⟩; have hy24 : y176.length = l0.length - ((rd t169 t174) : Int).toNat := (by rw [Ny176.out, List.length_drop] <;> omega); rw [show (l0).drop ((rd t169 t174) : Int).toNat = y176 from Ny176.out.symm] at hr24; replace hr24 : Kd.C k36 _ A24 y176.length y176 := (by rw [hA24]; exact hr24); rw [← hy24, ← hA24, ← hc24] at hcut24; have HR179 := Aside0.mk hr24; have HC179 := Aside0.mk (show y176.length ≤ c24 from by rw [hy24, hc24]; exact Nat.sub_le_sub_right hroom24 _); clear hr24 hC24 hroom24 hi024 hsz24 hc24; have KY24 := Aside0.mk hy24; have KA24 := Aside0.mk hA24; clear hy24 hA24; replace q24 := eq_true q24) | (go_at_call 14; (with_reducible refine (breaks_Lines.calls _ _ y176 a1 t180 t181 _ ?side1 ?side2 A21.out).mono ?_); (case side1 => repeat (first | exact (Kd.C_below HR179.out (mvB HB)) | (with_reducible refine Kd.C_alloc ?_ _) | (with_reducible refine Kd.C_drewN ?_ _) | (with_reducible refine Kd.C_drew ?_))); (case side2 => exact HC179.out); rintro e w25 ⟨v182, rfl, ho0, hb⟩; have n0_ := Aside0.mk (Kd.R_elder' (mvR HO_7) (Kd.R_base ho0) hb); have n1_ := Aside0.mk (Kd.R_lower (Kd.R_new' ho0 (Kd.R_lt (mvR HO_7))) (below_size (mvB HB))); have n2_ := Aside0.mk (below_step (mvB HB) hb); clear HO_7; clear HB; have HO_7 := n0_; have HO183 := n1_; have HB := n2_; clear n0_ n1_ n2_; (try clear hb); (try clear hb2); (try clear hk); (try clear hi); (try clear ho0))); go_upto_region 8 with (first | (go_at_call 15; (with_reducible refine (selvedgekit_Pick.calls a2 (t169.length : Int) t174 _ A16.out).mono ?_); rintro e w' ⟨rfl, ⟨nd, rfl⟩⟩; (try first | exact ⟨rfl, _, World.drewN_drewN _ _ _⟩ | exact ⟨rfl, _, Eq.trans (World.drewN_drewN _ _ _) (congrArg (World.drewN _) (Nat.add_assoc _ _ _))⟩); obtain ⟨ad175, e175, hx175_0, p175, q175⟩ := atI (Kd.R_reads' HO_7.out).2.2 t174; cases e175; have q24 : ((rd t169 t174) : Int) ≤ ((l0.length : Int) : Int) := of_decide_eq_true (by first | (with_reducible assumption) | assumption); obtain ⟨i024, hi024, _, hsz24, _⟩ := info_parts info36; have hroom24 : l0.length ≤ c0 := HC0.out; have hC24 : Kd.C k36 _ A0 l0.length l0 := HR0.out; have q024 : (0 : Int) ≤ ((rd t169 t174) : Int) := of_decide_eq_true (by first | (with_reducible assumption) | assumption); have hcut24 := cut_from (P := Try.prog) 22 36 .i64 Try.underlying22 hi024 4 hsz24 A0 l0.length c0 (rd t169 t174) q024 q24; have hr24 := Kd.C_drop (m := ((rd t169 t174) : Int).toNat) (c := c0) hC24 (by omega) hroom24; obtain ⟨A24, hA24⟩ : ∃ A1, A1 = (if c0 = ((rd t169 t174) : Int).toNat then A0 else (A0 : Option Addr).map (·.add (((rd t169 t174) : Int).toNat * 4))) := ⟨_, rfl⟩; obtain ⟨c24, hc24⟩ : ∃ c1, c1 = c0 - ((rd t169 t174) : Int).toNat := ⟨_, rfl⟩; have hy24 : y176.length = l0.length - ((rd t169 t174) : Int).toNat := (by rw [Ny176.out, List.length_drop] <;> omega); rw [show (l0).drop ((rd t169 t174) : Int).toNat = y176 from Ny176.out.symm] at hr24; replace hr24 : Kd.C k36 _ A24 y176.length y176 := (by rw [hA24]; exact hr24); rw [← hy24, ← hA24, ← hc24] at hcut24; have HR179 := Aside0.mk hr24; have HC179 := Aside0.mk (show y176.length ≤ c24 from by rw [hy24, hc24]; exact Nat.sub_le_sub_right hroom24 _); clear hr24 hC24 hroom24 hi024 hsz24 hc24; have KY24 := Aside0.mk hy24; have KA24 := Aside0.mk hA24; clear hy24 hA24; replace q24 := eq_true q24) | (go_at_call 14; (with_reducible refine (breaks_Lines.calls _ _ y176 a1 t180 t181 _ ?side1 ?side2 A21.out).mono ?_); (case side1 => repeat (first | exact (Kd.C_below HR179.out (mvB HB)) | (with_reducible refine Kd.C_alloc ?_ _) | (with_reducible refine Kd.C_drewN ?_ _) | (with_reducible refine Kd.C_drew ?_))); (case side2 => exact HC179.out); rintro e w25 ⟨v182, rfl, ho0, hb⟩; have n0_ := Aside0.mk (Kd.R_elder' (mvR HO_7) (Kd.R_base ho0) hb); have n1_ := Aside0.mk (Kd.R_lower (Kd.R_new' ho0 (Kd.R_lt (mvR HO_7))) (below_size (mvB HB))); have n2_ := Aside0.mk (below_step (mvB HB) hb); clear HO_7; clear HB; have HO_7 := n0_; have HO183 := n1_; have HB := n2_; clear n0_ n1_ n2_; (try clear hb); (try clear hb2); (try clear hk); (try clear hi); (try clear ho0))))
         (try simp only [Act.put, List.setIfInBounds_toArray, List.set_cons_zero, List.set_cons_succ])
         go_cut [60] (fun v60 wc => ∃ (kq : Nat) (x60_21 : Bool), v60 = .bool x60_21 ∧ Aside0 (selvedgelaw21_BreaksAgain.j1 kq t169 t174 t180 x60_21 = some r) ∧ Aside0 (kq ≤ kj7) ∧ Aside0 (Kd.R (Kd.int .i64) 3 wc w.heap.size (fun k_ => some k_ ≠ (v182 : Value).ownBlock) (.slice (some ad175) t169.length co23) t169) ∧ Aside0 (Kd.R (Kd.int .i64) 3 wc w.heap.size (fun k_ => some k_ ≠ ((.slice (some ad175) t169.length co23) : Value).ownBlock) v182 t180) ∧ Aside0 (Below w.heap.size w wc))
         case first =>
          have H := HC22.out
          clear HC22
          by_cases c26 : t181 = 0
          ·rw [if_pos c26] at H
           have c26b0 : (t181 == 0) = true := beq_iff_eq.mpr c26
           have c26b1 : (t181 != 0) = false := bne_eq_false_iff_eq.mpr c26
           clear c26
           (first | rw [c26b0] | (simp only [i64_w, i32_w]; rw [c26b0]) | skip)
           have H' := Aside0.mk H
           clear H
           obtain ⟨Ao27, co27, eo27⟩ := Kd.R_slice HO183.out
           subst eo27
           go_wp2
           repeat (go_quiet (fail); try go_wp2)
           go_meet
           case rel => exact ⟨_, (((t180.length : Int) != (wrap64 ((t169.length : Int) - t174)))), (by first | rfl | (simp; done) | (simp [*]; done)), H', ⟨by have := HJ7.out; first | omega | exact Nat.le_refl _⟩, ⟨by (with_reducible repeat (first | apply Kd.R_alloc | apply Kd.R_drewN | apply Kd.R_drew)); exact Kd.R_mono HO_7.out (fun _ hk => hk.2)⟩, ⟨by (with_reducible repeat (first | apply Kd.R_alloc | apply Kd.R_drewN | apply Kd.R_drew)); exact Kd.R_mono HO183.out (fun _ hk => hk.2)⟩, ⟨mvB HB⟩⟩
          ·rw [if_neg c26] at H
           have c26b0 : (t181 == 0) = false := beq_eq_false_iff_ne.mpr c26
           have c26b1 : (t181 != 0) = true := bne_iff_ne.mpr c26
           (first | rw [c26b0] | (simp only [i64_w, i32_w]; rw [c26b0]) | skip)
           have H' := Aside0.mk H
           clear H
           go_wp2
           repeat (go_quiet (fail); try go_wp2)
           go_meet
           case rel => exact ⟨_, (true), (by first | rfl | (simp; done) | (simp [*]; done)), H', ⟨by have := HJ7.out; first | omega | exact Nat.le_refl _⟩, ⟨by (with_reducible repeat (first | apply Kd.R_alloc | apply Kd.R_drewN | apply Kd.R_drew)); exact Kd.R_mono HO_7.out (fun _ hk => hk.2)⟩, ⟨by (with_reducible repeat (first | apply Kd.R_alloc | apply Kd.R_drewN | apply Kd.R_drew)); exact Kd.R_mono HO183.out (fun _ hk => hk.2)⟩, ⟨mvB HB⟩⟩
         case rest =>
          clear HC22
          try clear c1
          try clear p1
          try clear q1
          try clear hx1
          try clear c2
          try clear p2
          try clear q2
          try clear c4
          try clear c4b0
          try clear c4b1
          try clear p6
          try clear c10
          try clear c10b0
          try clear c10b1
          try clear c12
          try clear c13
          try clear c13b0
          try clear c13b1
          try clear c17
          try clear c17b0
          try clear p17
          try clear q17
          try clear hx17
          try clear c18
          try clear c18b0
          try clear c19
          try clear c19b0
          try clear c19b1
          try clear c20
          try clear c20b0
          try clear c20b1
          try clear c24
          try clear q24
          try clear c26
          try clear c26b0
          try clear c26b1
          try clear hx175_0
          try clear p175
          try clear p2
          try clear q024
          try clear q175
          try clear q24
          obtain ⟨kq, x60_21, rfl, HA, HJ21, HO_7, HO_10, HB⟩ := hcut
          cases kq with
          | zero => exact absurd HA.out (by simp [selvedgelaw21_BreaksAgain.j1])
          | succ kj21 =>
           have H := HA.out
           clear HA
           simp only [selvedgelaw21_BreaksAgain.j1] at H
           by_cases c28 : x60_21 = true
           ·subst c28
            have H1 : (some false) = some r := by rw [if_pos rfl] at H; exact H
            clear H
            have H := H1
            clear H1
            obtain rfl := Option.some.inj H
            go_wp2
            repeat (go_quiet (fail); try go_wp2)
            go_ret
            exact ⟨by first | rfl | (simp [errW_none, errW_some] <;> rfl) | (simp [*, errW_none, errW_some] <;> rfl), mvB HB⟩
           ·replace c28 := Bool.eq_false_iff.mpr c28
            subst c28
            have H1 : (selvedgelaw21_BreaksAgain.l0 kj21 t169 t174 t180 0) = some r := by rw [if_neg (show ¬ (false = true) by decide)] at H; exact H
            clear H
            have H := H1
            clear H1
            have H' := Aside0.mk H
            clear H
            go_wp2
            repeat (go_quiet (fail); try go_wp2)
            go_loopg [12] kj21 (fun kq v12 w' => ∃ (x12_3 : Int), v12 = .int .i64 x12_3 ∧ Aside0 (selvedgelaw21_BreaksAgain.l0 kq t169 t174 t180 x12_3 = some r) ∧ Aside0 (kq ≤ kj21) ∧ Aside0 (Kd.R (Kd.int .i64) 3 w' w.heap.size (fun k_ => some k_ ≠ (v182 : Value).ownBlock) (.slice (some ad175) t169.length co23) t169) ∧ Aside0 (Kd.R (Kd.int .i64) 3 w' w.heap.size (fun k_ => some k_ ≠ ((.slice (some ad175) t169.length co23) : Value).ownBlock) v182 t180) ∧ Aside0 (Below w.heap.size w w'))
            case atStart => exact ⟨(0), (by first | rfl | (simp; done) | (simp [*]; done)), H', ⟨Nat.le_refl _⟩, ⟨mvR HO_7⟩, ⟨mvR HO_10⟩, ⟨mvB HB⟩⟩
            case round =>
             clear H'
             try clear c1
             try clear p1
             try clear q1
             try clear hx1
             try clear c2
             try clear p2
             try clear q2
             try clear c4
             try clear c4b0
             try clear c4b1
             try clear p6
             try clear c10
             try clear c10b0
             try clear c10b1
             try clear c12
             try clear c13
             try clear c13b0
             try clear c13b1
             try clear c17
             try clear c17b0
             try clear p17
             try clear q17
             try clear hx17
             try clear c18
             try clear c18b0
             try clear c19
             try clear c19b0
             try clear c19b1
             try clear c20
             try clear c20b0
             try clear c20b1
             try clear c24
             try clear q24
             try clear c26
             try clear c26b0
             try clear c26b1
             try clear c28
             try clear hx175_0
             try clear p1
             try clear p17
             try clear p175
             try clear p2
             try clear p6
             try clear q024
             try clear q1
             try clear q17
             try clear q175
             try clear q2
             try clear q24
             obtain ⟨x12_3, rfl, HA, HK3, HO_7, HO_10, HB⟩ := hrel
             cases gk with
             | zero => exact absurd HA.out (by simp [selvedgelaw21_BreaksAgain.l0])
             | succ k3 =>
              have H := HA.out
              clear HA
              simp only [selvedgelaw21_BreaksAgain.l0] at H
              by_cases c29 : x12_3 < (t180.length : Int)
              ·rw [if_pos c29] at H
               have c29b0 : decide (x12_3 < (t180.length : Int)) = true := decide_eq_true c29
               clear c29
               by_cases c30 : 0 ≤ x12_3
               ·rw [if_pos c30] at H
                have c30b0 : decide (0 ≤ x12_3) = true := decide_eq_true c30
                clear c30
                by_cases c31 : 0 ≤ t174
                ·rw [if_pos c31] at H
                 have c31b0 : decide (0 ≤ t174) = true := decide_eq_true c31
                 clear c31
                 by_cases c32 : t174 < (t169.length : Int)
                 ·rw [if_pos c32] at H
                  have c32b0 : decide (t174 < (t169.length : Int)) = true := decide_eq_true c32
                  clear c32
                  obtain ⟨ji33, hji33⟩ : ∃ j_ : Int, (wrap64 (t174 + x12_3)) = j_ := ⟨_, rfl⟩
                  replace H : (if 0 ≤ (ji33) then (if (ji33) < (t169.length : Int) then (if (wrap64 ((rd t180 x12_3) + (rd t169 t174))) = (rd t169 (ji33)) then (selvedgelaw21_BreaksAgain.l0 k3 t169 t174 t180 (wrap64 (x12_3 + 1))) else (some false)) else (none)) else (none)) = some r := by first | (rw [hji33] at H; exact H) | (simp only [hji33] at H ⊢; exact H)
                  have hji33w : (IntKind.i64.wrap (t174 + x12_3)) = ji33 := (i64_w _).trans hji33
                  by_cases c34 : 0 ≤ (ji33)
                  ·rw [if_pos c34] at H
                   have c34b0 : decide (0 ≤ (ji33)) = true := decide_eq_true c34
                   clear c34
                   by_cases c35 : (ji33) < (t169.length : Int)
                   ·rw [if_pos c35] at H
                    have c35b0 : decide ((ji33) < (t169.length : Int)) = true := decide_eq_true c35
                    clear c35
                    by_cases c36 : (wrap64 ((rd t180 x12_3) + (rd t169 t174))) = (rd t169 (ji33))
                    ·rw [if_pos c36] at H
                     have c36b0 : ((wrap64 ((rd t180 x12_3) + (rd t169 t174))) == (rd t169 (ji33))) = true := beq_iff_eq.mpr c36
                     have c36b1 : ((wrap64 ((rd t180 x12_3) + (rd t169 t174))) != (rd t169 (ji33))) = false := bne_eq_false_iff_eq.mpr c36
                     clear c36
                     have H' := Aside0.mk H
                     clear H
                     obtain ⟨Ao37, co37, eo37⟩ := Kd.R_slice HO_10.out
                     subst eo37
                     obtain ⟨ad184, e184, hx184_0, p184, q184⟩ := atI (Kd.R_reads' HO_10.out).2.2 x12_3
                     cases e184
                     obtain ⟨ad185, e185, hx185_0, p185, q185⟩ := atI (Kd.R_reads' HO_7.out).2.2 t174
                     obtain rfl : ad175 = ad185 := (by injection e185)
                     obtain ⟨ad186, e186, hx186_0, p186, q186⟩ := atI (Kd.R_reads' HO_7.out).2.2 (ji33)
                     obtain rfl : ad175 = ad186 := (by injection e186)
                     go_wp2
                     repeat (go_quiet (fail); try go_wp2)
                     go_roundg k3
                     case measure => have := HJ7.out; have := HJ21.out; have := HK3.out; omega
                     case rel => exact ⟨(wrap64 (x12_3 + 1)), (by first | rfl | (simp; done) | (simp [*]; done)), H', ⟨by have := HJ7.out; have := HJ21.out; have := HK3.out; omega⟩, ⟨mvR HO_7⟩, ⟨mvR HO_10⟩, ⟨mvB HB⟩⟩
                    ·rw [if_neg c36] at H
                     have c36b0 : ((wrap64 ((rd t180 x12_3) + (rd t169 t174))) == (rd t169 (ji33))) = false := beq_eq_false_iff_ne.mpr c36
                     have c36b1 : ((wrap64 ((rd t180 x12_3) + (rd t169 t174))) != (rd t169 (ji33))) = true := bne_iff_ne.mpr c36
                     obtain rfl := Option.some.inj H
                     obtain ⟨Ao38, co38, eo38⟩ := Kd.R_slice HO_10.out
                     subst eo38
                     obtain ⟨ad184, e184, hx184_0, p184, q184⟩ := atI (Kd.R_reads' HO_10.out).2.2 x12_3
                     cases e184
                     obtain ⟨ad185, e185, hx185_0, p185, q185⟩ := atI (Kd.R_reads' HO_7.out).2.2 t174
                     obtain rfl : ad175 = ad185 := (by injection e185)
                     obtain ⟨ad186, e186, hx186_0, p186, q186⟩ := atI (Kd.R_reads' HO_7.out).2.2 (ji33)
                     obtain rfl : ad175 = ad186 := (by injection e186)
                     go_wp2
                     repeat (go_quiet (fail); try go_wp2)
                     go_ret
                     exact ⟨by first | rfl | (simp [errW_none, errW_some] <;> rfl) | (simp only [← hji33]; first | rfl | (simp [errW_none, errW_some] <;> rfl)) | (simp [*, errW_none, errW_some] <;> rfl), mvB HB⟩
                   ·rw [if_neg c35] at H
                    exact absurd H (by simp)
                  ·rw [if_neg c34] at H
                   exact absurd H (by simp)
                 ·rw [if_neg c32] at H
                  exact absurd H (by simp)
                ·rw [if_neg c31] at H
                 exact absurd H (by simp)
               ·rw [if_neg c30] at H
                exact absurd H (by simp)
              ·rw [if_neg c29] at H
               have c29b0 : decide (x12_3 < (t180.length : Int)) = false := decide_eq_false c29
               clear c29
               replace H := Option.bind_eq_some_iff.mp H
               obtain ⟨t187, A390, H⟩ := H
               replace H : (some t187) = some r := H
               have A39 := Aside0.mk A390
               clear A390
               obtain rfl := Option.some.inj H
               obtain ⟨Ao40, co40, eo40⟩ := Kd.R_slice HO_10.out
               subst eo40
               go_wp2_with (first | (go_at_call 10; (with_reducible refine (selvedgelaw21_works.calls k3  t187 _ A39.out).mono ?_); rintro e w41 ⟨rfl, hb⟩; have n0_ := Aside0.mk (Kd.R_below (mvR HO_7) hb); have n1_ := Aside0.mk (Kd.R_below (mvR HO_10) hb); have n2_ := Aside0.mk (below_step (mvB HB) hb); clear HO_7; clear HO_10; clear HB; have HO_7 := n0_; have HO_10 := n1_; have HB := n2_; clear n0_ n1_ n2_; (try clear hb); (try clear hb2); (try clear hk); (try clear hi)))
               repeat (go_quiet (first | (go_at_call 10; (with_reducible refine (selvedgelaw21_works.calls k3  t187 _ A39.out).mono ?_); rintro e w41 ⟨rfl, hb⟩; have n0_ := Aside0.mk (Kd.R_below (mvR HO_7) hb); have n1_ := Aside0.mk (Kd.R_below (mvR HO_10) hb); have n2_ := Aside0.mk (below_step (mvB HB) hb); clear HO_7; clear HO_10; clear HB; have HO_7 := n0_; have HO_10 := n1_; have HB := n2_; clear n0_ n1_ n2_; (try clear hb); (try clear hb2); (try clear hk); (try clear hi))); try go_wp2_with (first | (go_at_call 10; (with_reducible refine (selvedgelaw21_works.calls k3  t187 _ A39.out).mono ?_); rintro e w41 ⟨rfl, hb⟩; have n0_ := Aside0.mk (Kd.R_below (mvR HO_7) hb); have n1_ := Aside0.mk (Kd.R_below (mvR HO_10) hb); have n2_ := Aside0.mk (below_step (mvB HB) hb); clear HO_7; clear HO_10; clear HB; have HO_7 := n0_; have HO_10 := n1_; have HB := n2_; clear n0_ n1_ n2_; (try clear hb); (try clear hb2); (try clear hk); (try clear hi))))
               go_ret
               exact ⟨by first | rfl | (simp [errW_none, errW_some] <;> rfl) | (simp [*, errW_none, errW_some] <;> rfl), mvB HB⟩
        ·rw [if_neg c20] at H
         exact absurd H (by simp)
       ·rw [if_neg c19] at H
        exact absurd H (by simp)
      ·rw [if_neg c18] at H
       exact absurd H (by simp)
     ·rw [if_neg c17] at H
      exact absurd H (by simp)

end Go.Proofs.Ythckihfkhmoafaa.X
