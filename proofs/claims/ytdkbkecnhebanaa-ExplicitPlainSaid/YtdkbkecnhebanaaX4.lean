-- by xprint.py: the kit's printer over texts of this session
import Derived.Test.YtdkbkecnhebanaaX0
import Derived.Test.YtdkbkecnhebanaaX1
namespace Go.Proofs.Ytdkbkecnhebanaa.X
open Go.RowKit Go.Proofs.YtdkbkecnhebanaaW.PrintWords Go.Proofs.YtdkbkecnhebanaaW.PrintLast Go.Proofs.YtdkbkecnhebanaaW.PrintMore
attribute [local go_sem] max2_int min2_int max_two min_two max_three min_three max_four min_four   -- for this text's walks alone
set_option linter.unusedVariables false
set_option linter.unusedSimpArgs false

/-! ### selvedgelaw14_ExplicitPlain: function 8 -/
mutual
def selvedgelaw14_ExplicitPlain.j0 : Nat → List Int → Int → Bool → Option (Bool)
 | 0, _, _, _ => none
 | k + 1, x0, x1, x18 => if x18 = true then ((selvedgelaw14_works.f k).bind fun t289 => (some t289)) else (selvedgelaw14_ExplicitPlain.l0 k x0 x1 ([] : List Int) 0)
def selvedgelaw14_ExplicitPlain.l0 : Nat → List Int → Int → List Int → Int → Option (Bool)
 | 0, _, _, _, _ => none
 | k + 1, x0, x1, x5, x6 => if x6 < (x0.length : Int) then (if 0 ≤ x6 then (if (rd x0 x6) ≥ 1 then (if (rd x0 x6) ≤ 14 then (if x5.length < 140737488355328 then (selvedgelaw14_ExplicitPlain.l0 k x0 x1 (x5 ++ [rd x0 x6]) (wrap64 (x6 + 1))) else (none)) else (if (rd x0 x6) = 23 then (if x5.length < 140737488355328 then (selvedgelaw14_ExplicitPlain.l0 k x0 x1 (x5 ++ [rd x0 x6]) (wrap64 (x6 + 1))) else (none)) else (if (rd x0 x6) = 19 then (if x5.length < 140737488355328 then (selvedgelaw14_ExplicitPlain.l0 k x0 x1 (x5 ++ [rd x0 x6]) (wrap64 (x6 + 1))) else (none)) else (selvedgelaw14_ExplicitPlain.l0 k x0 x1 x5 (wrap64 (x6 + 1)))))) else (if (rd x0 x6) = 23 then (if x5.length < 140737488355328 then (selvedgelaw14_ExplicitPlain.l0 k x0 x1 (x5 ++ [rd x0 x6]) (wrap64 (x6 + 1))) else (none)) else (if (rd x0 x6) = 19 then (if x5.length < 140737488355328 then (selvedgelaw14_ExplicitPlain.l0 k x0 x1 (x5 ++ [rd x0 x6]) (wrap64 (x6 + 1))) else (none)) else (selvedgelaw14_ExplicitPlain.l0 k x0 x1 x5 (wrap64 (x6 + 1)))))) else (none)) else ((explicit_Levels.f x5 x1).bind fun bt316 => (if bt316.2.2.2 = 0 then (if (bt316.1.length : Int) = (x5.length : Int) then (if (bt316.2.1.length : Int) = (x5.length : Int) then (if x1 < 2 then (if bt316.2.2.1 = x1 then (if x1 = 2 then ((explicit_Base.f k x5).bind fun t324 => (selvedgelaw14_ExplicitPlain.j2 k x5 bt316.1 bt316.2.1 bt316.2.2.1 (bt316.2.2.1 != t324))) else (selvedgelaw14_ExplicitPlain.j2 k x5 bt316.1 bt316.2.1 bt316.2.2.1 false)) else (selvedgelaw14_ExplicitPlain.j2 k x5 bt316.1 bt316.2.1 bt316.2.2.1 true)) else (if x1 = 2 then ((explicit_Base.f k x5).bind fun t325 => (selvedgelaw14_ExplicitPlain.j2 k x5 bt316.1 bt316.2.1 bt316.2.2.1 (bt316.2.2.1 != t325))) else (selvedgelaw14_ExplicitPlain.j2 k x5 bt316.1 bt316.2.1 bt316.2.2.1 false))) else (selvedgelaw14_ExplicitPlain.j2 k x5 bt316.1 bt316.2.1 bt316.2.2.1 true)) else (selvedgelaw14_ExplicitPlain.j2 k x5 bt316.1 bt316.2.1 bt316.2.2.1 true)) else (selvedgelaw14_ExplicitPlain.j2 k x5 bt316.1 bt316.2.1 bt316.2.2.1 true)))
def selvedgelaw14_ExplicitPlain.j2 : Nat → List Int → List Int → List Int → Int → Bool → Option (Bool)
 | 0, _, _, _, _, _ => none
 | k + 1, x5, x7, x8, x9, x101 => if x101 = true then (some false) else (selvedgelaw14_ExplicitPlain.l1 k x5 x7 x8 x9 0)
def selvedgelaw14_ExplicitPlain.l1 : Nat → List Int → List Int → List Int → Int → Int → Option (Bool)
 | 0, _, _, _, _, _ => none
 | k + 1, x5, x7, x8, x9, x11 => if x11 < (x5.length : Int) then (if 0 ≤ x11 then (if x11 < (x7.length : Int) then (if (rd x7 x11) = x9 then (if (rd x5 x11) = 19 then (if x11 < (x8.length : Int) then (if (rd x8 x11) = 10 then (selvedgelaw14_ExplicitPlain.l1 k x5 x7 x8 x9 (wrap64 (x11 + 1))) else (some false)) else (none)) else (if x11 < (x8.length : Int) then (if (rd x8 x11) = (rd x5 x11) then (selvedgelaw14_ExplicitPlain.l1 k x5 x7 x8 x9 (wrap64 (x11 + 1))) else (some false)) else (none))) else (some false)) else (none)) else (none)) else ((selvedgelaw14_works.f k).bind fun t333 => (some t333))
end
def selvedgelaw14_ExplicitPlain.f (k : Nat) (l0 : List Int) (a1 : Int) : Option (Bool) := if (l0.length : Int) > 2000 then (selvedgelaw14_ExplicitPlain.j0 k l0 a1 true) else (selvedgelaw14_ExplicitPlain.j0 k l0 a1 (decide (a1 > 2)))
theorem selvedgelaw14_ExplicitPlain.mono_l : ∀ k, (∀ y0 y1 y2, LeO (selvedgelaw14_ExplicitPlain.j0 k y0 y1 y2) (selvedgelaw14_ExplicitPlain.j0 (k + 1) y0 y1 y2)) ∧ (∀ y0 y1 y2 y3, LeO (selvedgelaw14_ExplicitPlain.l0 k y0 y1 y2 y3) (selvedgelaw14_ExplicitPlain.l0 (k + 1) y0 y1 y2 y3)) ∧ (∀ y0 y1 y2 y3 y4, LeO (selvedgelaw14_ExplicitPlain.j2 k y0 y1 y2 y3 y4) (selvedgelaw14_ExplicitPlain.j2 (k + 1) y0 y1 y2 y3 y4)) ∧ (∀ y0 y1 y2 y3 y4, LeO (selvedgelaw14_ExplicitPlain.l1 k y0 y1 y2 y3 y4) (selvedgelaw14_ExplicitPlain.l1 (k + 1) y0 y1 y2 y3 y4))
 | 0 => ⟨fun _ _ _ r h => by simp [selvedgelaw14_ExplicitPlain.j0] at h, fun _ _ _ _ r h => by simp [selvedgelaw14_ExplicitPlain.l0] at h, fun _ _ _ _ _ r h => by simp [selvedgelaw14_ExplicitPlain.j2] at h, fun _ _ _ _ _ r h => by simp [selvedgelaw14_ExplicitPlain.l1] at h⟩
 | k + 1 => by
  obtain ⟨ih0, ih1, ih2, ih3⟩ := selvedgelaw14_ExplicitPlain.mono_l k
  refine ⟨?_, ?_, ?_, ?_⟩
  ·intro y0 y1 y2
   unfold selvedgelaw14_ExplicitPlain.j0
   repeat' first
   | (with_reducible exact ih0 _ _ _)
   | (with_reducible exact ih1 _ _ _ _)
   | (with_reducible exact ih2 _ _ _ _ _)
   | (with_reducible exact ih3 _ _ _ _ _)
   | (with_reducible exact explicit_Base.mono _ _)
   | (with_reducible exact selvedgelaw14_works.mono _)
   | (with_reducible exact LeO.refl _)
   | (with_reducible exact LeO.none _)
   | (with_reducible refine LeO.ite ?_ ?_)
   | (with_reducible refine LeO.bind ?_ (fun _ => ?_))
   | exact ih0 _ _ _
   | exact ih1 _ _ _ _
   | exact ih2 _ _ _ _ _
   | exact ih3 _ _ _ _ _
   | exact explicit_Base.mono _ _
   | exact selvedgelaw14_works.mono _
   | exact LeO.none _
   | refine LeO.ite ?_ ?_
   | refine LeO.bind ?_ (fun _ => ?_)
  ·intro y0 y1 y2 y3
   unfold selvedgelaw14_ExplicitPlain.l0
   repeat' first
   | (with_reducible exact ih0 _ _ _)
   | (with_reducible exact ih1 _ _ _ _)
   | (with_reducible exact ih2 _ _ _ _ _)
   | (with_reducible exact ih3 _ _ _ _ _)
   | (with_reducible exact explicit_Base.mono _ _)
   | (with_reducible exact selvedgelaw14_works.mono _)
   | (with_reducible exact LeO.refl _)
   | (with_reducible exact LeO.none _)
   | (with_reducible refine LeO.ite ?_ ?_)
   | (with_reducible refine LeO.bind ?_ (fun _ => ?_))
   | exact ih0 _ _ _
   | exact ih1 _ _ _ _
   | exact ih2 _ _ _ _ _
   | exact ih3 _ _ _ _ _
   | exact explicit_Base.mono _ _
   | exact selvedgelaw14_works.mono _
   | exact LeO.none _
   | refine LeO.ite ?_ ?_
   | refine LeO.bind ?_ (fun _ => ?_)
  ·intro y0 y1 y2 y3 y4
   unfold selvedgelaw14_ExplicitPlain.j2
   repeat' first
   | (with_reducible exact ih0 _ _ _)
   | (with_reducible exact ih1 _ _ _ _)
   | (with_reducible exact ih2 _ _ _ _ _)
   | (with_reducible exact ih3 _ _ _ _ _)
   | (with_reducible exact explicit_Base.mono _ _)
   | (with_reducible exact selvedgelaw14_works.mono _)
   | (with_reducible exact LeO.refl _)
   | (with_reducible exact LeO.none _)
   | (with_reducible refine LeO.ite ?_ ?_)
   | (with_reducible refine LeO.bind ?_ (fun _ => ?_))
   | exact ih0 _ _ _
   | exact ih1 _ _ _ _
   | exact ih2 _ _ _ _ _
   | exact ih3 _ _ _ _ _
   | exact explicit_Base.mono _ _
   | exact selvedgelaw14_works.mono _
   | exact LeO.none _
   | refine LeO.ite ?_ ?_
   | refine LeO.bind ?_ (fun _ => ?_)
  ·intro y0 y1 y2 y3 y4
   unfold selvedgelaw14_ExplicitPlain.l1
   repeat' first
   | (with_reducible exact ih0 _ _ _)
   | (with_reducible exact ih1 _ _ _ _)
   | (with_reducible exact ih2 _ _ _ _ _)
   | (with_reducible exact ih3 _ _ _ _ _)
   | (with_reducible exact explicit_Base.mono _ _)
   | (with_reducible exact selvedgelaw14_works.mono _)
   | (with_reducible exact LeO.refl _)
   | (with_reducible exact LeO.none _)
   | (with_reducible refine LeO.ite ?_ ?_)
   | (with_reducible refine LeO.bind ?_ (fun _ => ?_))
   | exact ih0 _ _ _
   | exact ih1 _ _ _ _
   | exact ih2 _ _ _ _ _
   | exact ih3 _ _ _ _ _
   | exact explicit_Base.mono _ _
   | exact selvedgelaw14_works.mono _
   | exact LeO.none _
   | refine LeO.ite ?_ ?_
   | refine LeO.bind ?_ (fun _ => ?_)
theorem selvedgelaw14_ExplicitPlain.mono : ∀ a0 a1 k, LeO (selvedgelaw14_ExplicitPlain.f k a0 a1) (selvedgelaw14_ExplicitPlain.f (k + 1) a0 a1) := by
 intro a0 a1 k
 obtain ⟨ih0, ih1, ih2, ih3⟩ := selvedgelaw14_ExplicitPlain.mono_l k
 unfold selvedgelaw14_ExplicitPlain.f
 repeat' first
   | (with_reducible exact ih0 _ _ _)
   | (with_reducible exact ih1 _ _ _ _)
   | (with_reducible exact ih2 _ _ _ _ _)
   | (with_reducible exact ih3 _ _ _ _ _)
   | (with_reducible exact explicit_Base.mono _ _)
   | (with_reducible exact selvedgelaw14_works.mono _)
   | (with_reducible exact LeO.refl _)
   | (with_reducible exact LeO.none _)
   | (with_reducible refine LeO.ite ?_ ?_)
   | (with_reducible refine LeO.bind ?_ (fun _ => ?_))
   | exact ih0 _ _ _
   | exact ih1 _ _ _ _
   | exact ih2 _ _ _ _ _
   | exact ih3 _ _ _ _ _
   | exact explicit_Base.mono _ _
   | exact selvedgelaw14_works.mono _
   | exact LeO.none _
   | refine LeO.ite ?_ ?_
   | refine LeO.bind ?_ (fun _ => ?_)
set_option maxHeartbeats 8000000 in
set_option maxRecDepth 100000 in
theorem selvedgelaw14_ExplicitPlain.calls (k : Nat) (A0 : Option Addr) (c0 : Nat) (l0 : List Int) (a1 : Int) (r : Bool) (w : World) (hr0 : Kd.C (Kd.int .u8) w A0 l0.length l0) (hc0 : l0.length ≤ c0) (h : selvedgelaw14_ExplicitPlain.f k l0 a1 = some r) :
  Calls Try.prog 8 #[.slice A0 l0.length c0, .int .u8 a1] w fun e w' => e = .returned (.bool r) ∧ Below w.heap.size w w' := by
 have HR0 := Aside0.mk hr0
 have HC0 := Aside0.mk hc0
 clear hr0 hc0
 have HB := Aside0.mk (Below.refl w.heap.size w)
 have H : (if (l0.length : Int) > 2000 then (selvedgelaw14_ExplicitPlain.j0 k l0 a1 true) else (selvedgelaw14_ExplicitPlain.j0 k l0 a1 (decide (a1 > 2)))) = some r := h
 clear h
 have HC3 := Aside0.mk H
 clear H
 go_enter Try.func8, Try.ntmps8
 go_upto_region 1 with (fail)
 repeat (go_quiet (fail); go_upto_region 1 with (fail))
 go_cut [18] (fun v18 wc => ∃ (kq : Nat) (x18_2 : Bool), v18 = .bool x18_2 ∧ Aside0 (selvedgelaw14_ExplicitPlain.j0 kq l0 a1 x18_2 = some r) ∧ Aside0 (kq ≤ k) ∧ Aside0 (Below w.heap.size w wc))
 case first =>
  have H := HC3.out
  clear HC3
  by_cases c4 : (l0.length : Int) > 2000
  ·rw [if_pos c4] at H
   have c4b0 : decide (2000 < (l0.length : Int)) = true := decide_eq_true c4
   have c4b1 : decide (2000 < l0.length) = true := decide_eq_true (by omega)
   clear c4
   (first | rw [c4b0] | (simp only [i64_w, i32_w]; rw [c4b0]) | skip)
   have H' := Aside0.mk H
   clear H
   go_wp2
   repeat (go_quiet (fail); try go_wp2)
   go_meet
   case rel => exact ⟨_, (true), (by first | rfl | (simp; done) | (simp [*]; done)), H', ⟨by first | omega | exact Nat.le_refl _⟩, ⟨mvB HB⟩⟩
  ·rw [if_neg c4] at H
   have c4b0 : decide (2000 < (l0.length : Int)) = false := decide_eq_false c4
   have c4b1 : decide (2000 < l0.length) = false := decide_eq_false (by omega)
   clear c4
   (first | rw [c4b0] | (simp only [i64_w, i32_w]; rw [c4b0]) | skip)
   have H' := Aside0.mk H
   clear H
   go_wp2
   repeat (go_quiet (fail); try go_wp2)
   go_meet
   case rel => exact ⟨_, (decide (a1 > 2)), (by first | rfl | (simp; done) | (simp [*]; done)), H', ⟨by first | omega | exact Nat.le_refl _⟩, ⟨mvB HB⟩⟩
 case rest =>
  clear HC3
  try clear p2
  try clear c4
  try clear c4b0
  try clear c4b1
  obtain ⟨kq, x18_2, rfl, HA, HJ2, HB⟩ := hcut
  cases kq with
  | zero => exact absurd HA.out (by simp [selvedgelaw14_ExplicitPlain.j0])
  | succ kj2 =>
   have H := HA.out
   clear HA
   simp only [selvedgelaw14_ExplicitPlain.j0] at H
   by_cases c5 : x18_2 = true
   ·subst c5
    have H1 : ((selvedgelaw14_works.f kj2).bind fun t289 => (some t289)) = some r := by rw [if_pos rfl] at H; exact H
    clear H
    have H := H1
    clear H1
    replace H := Option.bind_eq_some_iff.mp H
    obtain ⟨t289, A60, H⟩ := H
    replace H : (some t289) = some r := H
    have A6 := Aside0.mk A60
    clear A60
    obtain rfl := Option.some.inj H
    go_wp2_with (first | (go_at_call 10; (with_reducible refine (selvedgelaw14_works.calls kj2  t289 _ A6.out).mono ?_); rintro e w7 ⟨rfl, hb⟩; have n0_ := Aside0.mk (below_step (mvB HB) hb); clear HB; have HB := n0_; clear n0_; (try clear hb); (try clear hb2); (try clear hk); (try clear hi)))
    repeat (go_quiet (first | (go_at_call 10; (with_reducible refine (selvedgelaw14_works.calls kj2  t289 _ A6.out).mono ?_); rintro e w7 ⟨rfl, hb⟩; have n0_ := Aside0.mk (below_step (mvB HB) hb); clear HB; have HB := n0_; clear n0_; (try clear hb); (try clear hb2); (try clear hk); (try clear hi))); try go_wp2_with (first | (go_at_call 10; (with_reducible refine (selvedgelaw14_works.calls kj2  t289 _ A6.out).mono ?_); rintro e w7 ⟨rfl, hb⟩; have n0_ := Aside0.mk (below_step (mvB HB) hb); clear HB; have HB := n0_; clear n0_; (try clear hb); (try clear hb2); (try clear hk); (try clear hi))))
    go_ret
    exact ⟨by first | rfl | (simp [errW_none, errW_some] <;> rfl) | (simp [*, errW_none, errW_some] <;> rfl), mvB HB⟩
   ·replace c5 := Bool.eq_false_iff.mpr c5
    subst c5
    have H1 : (selvedgelaw14_ExplicitPlain.l0 kj2 l0 a1 ([] : List Int) 0) = some r := by rw [if_neg (show ¬ (false = true) by decide)] at H; exact H
    clear H
    have H := H1
    clear H1
    have H' := Aside0.mk H
    clear H
    go_wp2
    repeat (go_quiet (fail); try go_wp2)
    go_loopg [5, 6] kj2 (fun kq v5 v6 w' => ∃ (x5_2 : List Int) (x6_2 : Int), v6 = .int .i64 x6_2 ∧ Aside0 (selvedgelaw14_ExplicitPlain.l0 kq l0 a1 x5_2 x6_2 = some r) ∧ Aside0 (kq ≤ kj2) ∧ Aside0 (Kd.R (Kd.int .u8) 26 w' w.heap.size (fun _ => True) v5 x5_2) ∧ Aside0 (Below w.heap.size w w'))
    case atStart => exact ⟨(([] : List Int)), (0), (by first | rfl | (simp; done) | (simp [*]; done)), H', ⟨Nat.le_refl _⟩, ⟨by first | exact Kd.R_nil _ _ _ _ _ | exact Kd.N_nil _ _ _ _ _ | exact Kd.V_nil _ _ _ _ _ | exact Kd.Q_nil _ _ _ _ _ | exact Kd.S_nil _ _ _ _ _⟩, ⟨mvB HB⟩⟩
    case round =>
     clear H'
     try clear p2
     try clear c4
     try clear c4b0
     try clear c4b1
     try clear c5
     try clear p2
     obtain ⟨x5_2, x6_2, rfl, HA, HK2, HO_5, HB⟩ := hrel
     cases gk with
     | zero => exact absurd HA.out (by simp [selvedgelaw14_ExplicitPlain.l0])
     | succ k2 =>
      have H := HA.out
      clear HA
      simp only [selvedgelaw14_ExplicitPlain.l0] at H
      by_cases c8 : x6_2 < (l0.length : Int)
      ·rw [if_pos c8] at H
       have c8b0 : decide (x6_2 < (l0.length : Int)) = true := decide_eq_true c8
       clear c8
       by_cases c9 : 0 ≤ x6_2
       ·rw [if_pos c9] at H
        have c9b0 : decide (0 ≤ x6_2) = true := decide_eq_true c9
        clear c9
        by_cases c10 : (rd l0 x6_2) ≥ 1
        ·rw [if_pos c10] at H
         have c10b0 : decide (1 ≤ (rd l0 x6_2)) = true := decide_eq_true c10
         clear c10
         by_cases c11 : (rd l0 x6_2) ≤ 14
         ·rw [if_pos c11] at H
          have c11b0 : decide ((rd l0 x6_2) ≤ 14) = true := decide_eq_true c11
          clear c11
          by_cases c12 : x5_2.length < 140737488355328
          ·rw [if_pos c12] at H
           have LMc12 := Aside0.mk c12
           clear c12
           obtain ⟨y293, hy293⟩ : ∃ y_ : List Int, y_ = (x5_2 ++ [rd l0 x6_2]) := ⟨_, rfl⟩
           replace H : (selvedgelaw14_ExplicitPlain.l0 k2 l0 a1 y293 (wrap64 (x6_2 + 1))) = some r := by first | (rw [hy293]; with_reducible exact H) | (have H2_ := (Option.bind_some _ _).symm.trans H; rw [hy293]; with_reducible exact H2_) | (have H2_ := (Option.bind_some _ _).symm.trans H; with_reducible exact H2_) | with_reducible exact H | (rw [hy293]; exact H) | exact H
           have Ny293 := Aside0.mk hy293
           clear hy293
           have H' := Aside0.mk H
           clear H
           obtain ⟨ad290, e290, hx290_0, p290, q290⟩ := atI HR0.out x6_2
           cases e290
           replace hx290_0 := (HB.out.cell (World.block_lt_of_cell? w _ hx290_0)).trans hx290_0
           obtain ⟨ad291, e291, hx291_0, p291, q291⟩ := atI HR0.out x6_2
           obtain rfl : ad290 = ad291 := (by injection e291)
           replace hx291_0 := (HB.out.cell (World.block_lt_of_cell? w _ hx291_0)).trans hx291_0
           obtain ⟨ad292, e292, hx292_0, p292, q292⟩ := atI HR0.out x6_2
           obtain rfl : ad290 = ad292 := (by injection e292)
           replace hx292_0 := (HB.out.cell (World.block_lt_of_cell? w _ hx292_0)).trans hx292_0
           go_wp2_with (first | ((with_reducible refine gate_builtin (b := .append) (xs := #[.tmp 52, .tmp 57]) rfl ?_); (try (refine gate_guard (by rfl) ?_; dsimp only)); at_builtin; refine Kd.R_append (Kd.int .u8) (w0 := w) w.heap.size rfl (.tmp 52) (.tmp 57) 22 26 (.int .u8 0) 1 rfl Try.underlying22 info26 rfl (by decide) (by omega) u5 x5_2 (rd l0 x6_2) [.int .u8 (rd l0 x6_2)] (fun _ => True) (fun _ => False) rfl rfl ?aP (fun _ hk => hk.elim) ?aF ?aO ?aB ?aS ?aL ?_; (case aP => exact rfl); (case aB => exact (mvB HB)); (case aF => exact (fun _ _ => trivial)); (case aO => exact (mvR HO_5)); (case aS => exact (below_size (mvB HB))); (case aL => have := LMc12.out; omega); intro v294 w13 ho hb hg hat; rw [← Ny293.out] at ho; have n0_ := Aside0.mk (hb); have n1_ := Aside0.mk (ho); clear HB; clear HO_5; have HB := n0_; have HO295 := n1_; clear n0_ n1_; clear ho hb hg hat))
           repeat (go_quiet (first | ((with_reducible refine gate_builtin (b := .append) (xs := #[.tmp 52, .tmp 57]) rfl ?_); (try (refine gate_guard (by rfl) ?_; dsimp only)); at_builtin; refine Kd.R_append (Kd.int .u8) (w0 := w) w.heap.size rfl (.tmp 52) (.tmp 57) 22 26 (.int .u8 0) 1 rfl Try.underlying22 info26 rfl (by decide) (by omega) u5 x5_2 (rd l0 x6_2) [.int .u8 (rd l0 x6_2)] (fun _ => True) (fun _ => False) rfl rfl ?aP (fun _ hk => hk.elim) ?aF ?aO ?aB ?aS ?aL ?_; (case aP => exact rfl); (case aB => exact (mvB HB)); (case aF => exact (fun _ _ => trivial)); (case aO => exact (mvR HO_5)); (case aS => exact (below_size (mvB HB))); (case aL => have := LMc12.out; omega); intro v294 w13 ho hb hg hat; rw [← Ny293.out] at ho; have n0_ := Aside0.mk (hb); have n1_ := Aside0.mk (ho); clear HB; clear HO_5; have HB := n0_; have HO295 := n1_; clear n0_ n1_; clear ho hb hg hat)); try go_wp2_with (first | ((with_reducible refine gate_builtin (b := .append) (xs := #[.tmp 52, .tmp 57]) rfl ?_); (try (refine gate_guard (by rfl) ?_; dsimp only)); at_builtin; refine Kd.R_append (Kd.int .u8) (w0 := w) w.heap.size rfl (.tmp 52) (.tmp 57) 22 26 (.int .u8 0) 1 rfl Try.underlying22 info26 rfl (by decide) (by omega) u5 x5_2 (rd l0 x6_2) [.int .u8 (rd l0 x6_2)] (fun _ => True) (fun _ => False) rfl rfl ?aP (fun _ hk => hk.elim) ?aF ?aO ?aB ?aS ?aL ?_; (case aP => exact rfl); (case aB => exact (mvB HB)); (case aF => exact (fun _ _ => trivial)); (case aO => exact (mvR HO_5)); (case aS => exact (below_size (mvB HB))); (case aL => have := LMc12.out; omega); intro v294 w13 ho hb hg hat; rw [← Ny293.out] at ho; have n0_ := Aside0.mk (hb); have n1_ := Aside0.mk (ho); clear HB; clear HO_5; have HB := n0_; have HO295 := n1_; clear n0_ n1_; clear ho hb hg hat)))
           go_roundg k2
           case measure => have := HJ2.out; have := HK2.out; omega
           case rel => exact ⟨(y293), (wrap64 (x6_2 + 1)), (by first | rfl | (simp; done) | (simp [*]; done)), H', ⟨by have := HJ2.out; have := HK2.out; omega⟩, ⟨mvR HO295⟩, ⟨mvB HB⟩⟩
          ·rw [if_neg c12] at H
           exact absurd H (by simp)
         ·rw [if_neg c11] at H
          have c11b0 : decide ((rd l0 x6_2) ≤ 14) = false := decide_eq_false c11
          clear c11
          by_cases c14 : (rd l0 x6_2) = 23
          ·rw [if_pos c14] at H
           have c14b0 : ((rd l0 x6_2) == 23) = true := beq_iff_eq.mpr c14
           have c14b1 : ((rd l0 x6_2) != 23) = false := bne_eq_false_iff_eq.mpr c14
           clear c14
           by_cases c15 : x5_2.length < 140737488355328
           ·rw [if_pos c15] at H
            have LMc15 := Aside0.mk c15
            clear c15
            obtain ⟨y298, hy298⟩ : ∃ y_ : List Int, y_ = (x5_2 ++ [rd l0 x6_2]) := ⟨_, rfl⟩
            replace H : (selvedgelaw14_ExplicitPlain.l0 k2 l0 a1 y298 (wrap64 (x6_2 + 1))) = some r := by first | (rw [hy298]; with_reducible exact H) | (have H2_ := (Option.bind_some _ _).symm.trans H; rw [hy298]; with_reducible exact H2_) | (have H2_ := (Option.bind_some _ _).symm.trans H; with_reducible exact H2_) | with_reducible exact H | (rw [hy298]; exact H) | exact H
            have Ny298 := Aside0.mk hy298
            clear hy298
            have H' := Aside0.mk H
            clear H
            obtain ⟨ad290, e290, hx290_0, p290, q290⟩ := atI HR0.out x6_2
            cases e290
            replace hx290_0 := (HB.out.cell (World.block_lt_of_cell? w _ hx290_0)).trans hx290_0
            obtain ⟨ad291, e291, hx291_0, p291, q291⟩ := atI HR0.out x6_2
            obtain rfl : ad290 = ad291 := (by injection e291)
            replace hx291_0 := (HB.out.cell (World.block_lt_of_cell? w _ hx291_0)).trans hx291_0
            obtain ⟨ad296, e296, hx296_0, p296, q296⟩ := atI HR0.out x6_2
            obtain rfl : ad290 = ad296 := (by injection e296)
            replace hx296_0 := (HB.out.cell (World.block_lt_of_cell? w _ hx296_0)).trans hx296_0
            obtain ⟨ad297, e297, hx297_0, p297, q297⟩ := atI HR0.out x6_2
            obtain rfl : ad290 = ad297 := (by injection e297)
            replace hx297_0 := (HB.out.cell (World.block_lt_of_cell? w _ hx297_0)).trans hx297_0
            go_wp2_with (first | ((with_reducible refine gate_builtin (b := .append) (xs := #[.tmp 52, .tmp 57]) rfl ?_); (try (refine gate_guard (by rfl) ?_; dsimp only)); at_builtin; refine Kd.R_append (Kd.int .u8) (w0 := w) w.heap.size rfl (.tmp 52) (.tmp 57) 22 26 (.int .u8 0) 1 rfl Try.underlying22 info26 rfl (by decide) (by omega) u5 x5_2 (rd l0 x6_2) [.int .u8 (rd l0 x6_2)] (fun _ => True) (fun _ => False) rfl rfl ?aP (fun _ hk => hk.elim) ?aF ?aO ?aB ?aS ?aL ?_; (case aP => exact rfl); (case aB => exact (mvB HB)); (case aF => exact (fun _ _ => trivial)); (case aO => exact (mvR HO_5)); (case aS => exact (below_size (mvB HB))); (case aL => have := LMc15.out; omega); intro v299 w16 ho hb hg hat; rw [← Ny298.out] at ho; have n0_ := Aside0.mk (hb); have n1_ := Aside0.mk (ho); clear HB; clear HO_5; have HB := n0_; have HO300 := n1_; clear n0_ n1_; clear ho hb hg hat))
            repeat (go_quiet (first | ((with_reducible refine gate_builtin (b := .append) (xs := #[.tmp 52, .tmp 57]) rfl ?_); (try (refine gate_guard (by rfl) ?_; dsimp only)); at_builtin; refine Kd.R_append (Kd.int .u8) (w0 := w) w.heap.size rfl (.tmp 52) (.tmp 57) 22 26 (.int .u8 0) 1 rfl Try.underlying22 info26 rfl (by decide) (by omega) u5 x5_2 (rd l0 x6_2) [.int .u8 (rd l0 x6_2)] (fun _ => True) (fun _ => False) rfl rfl ?aP (fun _ hk => hk.elim) ?aF ?aO ?aB ?aS ?aL ?_; (case aP => exact rfl); (case aB => exact (mvB HB)); (case aF => exact (fun _ _ => trivial)); (case aO => exact (mvR HO_5)); (case aS => exact (below_size (mvB HB))); (case aL => have := LMc15.out; omega); intro v299 w16 ho hb hg hat; rw [← Ny298.out] at ho; have n0_ := Aside0.mk (hb); have n1_ := Aside0.mk (ho); clear HB; clear HO_5; have HB := n0_; have HO300 := n1_; clear n0_ n1_; clear ho hb hg hat)); try go_wp2_with (first | ((with_reducible refine gate_builtin (b := .append) (xs := #[.tmp 52, .tmp 57]) rfl ?_); (try (refine gate_guard (by rfl) ?_; dsimp only)); at_builtin; refine Kd.R_append (Kd.int .u8) (w0 := w) w.heap.size rfl (.tmp 52) (.tmp 57) 22 26 (.int .u8 0) 1 rfl Try.underlying22 info26 rfl (by decide) (by omega) u5 x5_2 (rd l0 x6_2) [.int .u8 (rd l0 x6_2)] (fun _ => True) (fun _ => False) rfl rfl ?aP (fun _ hk => hk.elim) ?aF ?aO ?aB ?aS ?aL ?_; (case aP => exact rfl); (case aB => exact (mvB HB)); (case aF => exact (fun _ _ => trivial)); (case aO => exact (mvR HO_5)); (case aS => exact (below_size (mvB HB))); (case aL => have := LMc15.out; omega); intro v299 w16 ho hb hg hat; rw [← Ny298.out] at ho; have n0_ := Aside0.mk (hb); have n1_ := Aside0.mk (ho); clear HB; clear HO_5; have HB := n0_; have HO300 := n1_; clear n0_ n1_; clear ho hb hg hat)))
            go_roundg k2
            case measure => have := HJ2.out; have := HK2.out; omega
            case rel => exact ⟨(y298), (wrap64 (x6_2 + 1)), (by first | rfl | (simp; done) | (simp [*]; done)), H', ⟨by have := HJ2.out; have := HK2.out; omega⟩, ⟨mvR HO300⟩, ⟨mvB HB⟩⟩
           ·rw [if_neg c15] at H
            exact absurd H (by simp)
          ·rw [if_neg c14] at H
           have c14b0 : ((rd l0 x6_2) == 23) = false := beq_eq_false_iff_ne.mpr c14
           have c14b1 : ((rd l0 x6_2) != 23) = true := bne_iff_ne.mpr c14
           by_cases c17 : (rd l0 x6_2) = 19
           ·rw [if_pos c17] at H
            have c17b0 : ((rd l0 x6_2) == 19) = true := beq_iff_eq.mpr c17
            have c17b1 : ((rd l0 x6_2) != 19) = false := bne_eq_false_iff_eq.mpr c17
            clear c17
            by_cases c18 : x5_2.length < 140737488355328
            ·rw [if_pos c18] at H
             have LMc18 := Aside0.mk c18
             clear c18
             obtain ⟨y303, hy303⟩ : ∃ y_ : List Int, y_ = (x5_2 ++ [rd l0 x6_2]) := ⟨_, rfl⟩
             replace H : (selvedgelaw14_ExplicitPlain.l0 k2 l0 a1 y303 (wrap64 (x6_2 + 1))) = some r := by first | (rw [hy303]; with_reducible exact H) | (have H2_ := (Option.bind_some _ _).symm.trans H; rw [hy303]; with_reducible exact H2_) | (have H2_ := (Option.bind_some _ _).symm.trans H; with_reducible exact H2_) | with_reducible exact H | (rw [hy303]; exact H) | exact H
             have Ny303 := Aside0.mk hy303
             clear hy303
             have H' := Aside0.mk H
             clear H
             obtain ⟨ad290, e290, hx290_0, p290, q290⟩ := atI HR0.out x6_2
             cases e290
             replace hx290_0 := (HB.out.cell (World.block_lt_of_cell? w _ hx290_0)).trans hx290_0
             obtain ⟨ad291, e291, hx291_0, p291, q291⟩ := atI HR0.out x6_2
             obtain rfl : ad290 = ad291 := (by injection e291)
             replace hx291_0 := (HB.out.cell (World.block_lt_of_cell? w _ hx291_0)).trans hx291_0
             obtain ⟨ad296, e296, hx296_0, p296, q296⟩ := atI HR0.out x6_2
             obtain rfl : ad290 = ad296 := (by injection e296)
             replace hx296_0 := (HB.out.cell (World.block_lt_of_cell? w _ hx296_0)).trans hx296_0
             obtain ⟨ad301, e301, hx301_0, p301, q301⟩ := atI HR0.out x6_2
             obtain rfl : ad290 = ad301 := (by injection e301)
             replace hx301_0 := (HB.out.cell (World.block_lt_of_cell? w _ hx301_0)).trans hx301_0
             obtain ⟨ad302, e302, hx302_0, p302, q302⟩ := atI HR0.out x6_2
             obtain rfl : ad290 = ad302 := (by injection e302)
             replace hx302_0 := (HB.out.cell (World.block_lt_of_cell? w _ hx302_0)).trans hx302_0
             go_wp2_with (first | ((with_reducible refine gate_builtin (b := .append) (xs := #[.tmp 52, .tmp 57]) rfl ?_); (try (refine gate_guard (by rfl) ?_; dsimp only)); at_builtin; refine Kd.R_append (Kd.int .u8) (w0 := w) w.heap.size rfl (.tmp 52) (.tmp 57) 22 26 (.int .u8 0) 1 rfl Try.underlying22 info26 rfl (by decide) (by omega) u5 x5_2 (rd l0 x6_2) [.int .u8 (rd l0 x6_2)] (fun _ => True) (fun _ => False) rfl rfl ?aP (fun _ hk => hk.elim) ?aF ?aO ?aB ?aS ?aL ?_; (case aP => exact rfl); (case aB => exact (mvB HB)); (case aF => exact (fun _ _ => trivial)); (case aO => exact (mvR HO_5)); (case aS => exact (below_size (mvB HB))); (case aL => have := LMc18.out; omega); intro v304 w19 ho hb hg hat; rw [← Ny303.out] at ho; have n0_ := Aside0.mk (hb); have n1_ := Aside0.mk (ho); clear HB; clear HO_5; have HB := n0_; have HO305 := n1_; clear n0_ n1_; clear ho hb hg hat))
             repeat (go_quiet (first | ((with_reducible refine gate_builtin (b := .append) (xs := #[.tmp 52, .tmp 57]) rfl ?_); (try (refine gate_guard (by rfl) ?_; dsimp only)); at_builtin; refine Kd.R_append (Kd.int .u8) (w0 := w) w.heap.size rfl (.tmp 52) (.tmp 57) 22 26 (.int .u8 0) 1 rfl Try.underlying22 info26 rfl (by decide) (by omega) u5 x5_2 (rd l0 x6_2) [.int .u8 (rd l0 x6_2)] (fun _ => True) (fun _ => False) rfl rfl ?aP (fun _ hk => hk.elim) ?aF ?aO ?aB ?aS ?aL ?_; (case aP => exact rfl); (case aB => exact (mvB HB)); (case aF => exact (fun _ _ => trivial)); (case aO => exact (mvR HO_5)); (case aS => exact (below_size (mvB HB))); (case aL => have := LMc18.out; omega); intro v304 w19 ho hb hg hat; rw [← Ny303.out] at ho; have n0_ := Aside0.mk (hb); have n1_ := Aside0.mk (ho); clear HB; clear HO_5; have HB := n0_; have HO305 := n1_; clear n0_ n1_; clear ho hb hg hat)); try go_wp2_with (first | ((with_reducible refine gate_builtin (b := .append) (xs := #[.tmp 52, .tmp 57]) rfl ?_); (try (refine gate_guard (by rfl) ?_; dsimp only)); at_builtin; refine Kd.R_append (Kd.int .u8) (w0 := w) w.heap.size rfl (.tmp 52) (.tmp 57) 22 26 (.int .u8 0) 1 rfl Try.underlying22 info26 rfl (by decide) (by omega) u5 x5_2 (rd l0 x6_2) [.int .u8 (rd l0 x6_2)] (fun _ => True) (fun _ => False) rfl rfl ?aP (fun _ hk => hk.elim) ?aF ?aO ?aB ?aS ?aL ?_; (case aP => exact rfl); (case aB => exact (mvB HB)); (case aF => exact (fun _ _ => trivial)); (case aO => exact (mvR HO_5)); (case aS => exact (below_size (mvB HB))); (case aL => have := LMc18.out; omega); intro v304 w19 ho hb hg hat; rw [← Ny303.out] at ho; have n0_ := Aside0.mk (hb); have n1_ := Aside0.mk (ho); clear HB; clear HO_5; have HB := n0_; have HO305 := n1_; clear n0_ n1_; clear ho hb hg hat)))
             go_roundg k2
             case measure => have := HJ2.out; have := HK2.out; omega
             case rel => exact ⟨(y303), (wrap64 (x6_2 + 1)), (by first | rfl | (simp; done) | (simp [*]; done)), H', ⟨by have := HJ2.out; have := HK2.out; omega⟩, ⟨mvR HO305⟩, ⟨mvB HB⟩⟩
            ·rw [if_neg c18] at H
             exact absurd H (by simp)
           ·rw [if_neg c17] at H
            have c17b0 : ((rd l0 x6_2) == 19) = false := beq_eq_false_iff_ne.mpr c17
            have c17b1 : ((rd l0 x6_2) != 19) = true := bne_iff_ne.mpr c17
            have H' := Aside0.mk H
            clear H
            obtain ⟨ad290, e290, hx290_0, p290, q290⟩ := atI HR0.out x6_2
            cases e290
            replace hx290_0 := (HB.out.cell (World.block_lt_of_cell? w _ hx290_0)).trans hx290_0
            obtain ⟨ad291, e291, hx291_0, p291, q291⟩ := atI HR0.out x6_2
            obtain rfl : ad290 = ad291 := (by injection e291)
            replace hx291_0 := (HB.out.cell (World.block_lt_of_cell? w _ hx291_0)).trans hx291_0
            obtain ⟨ad296, e296, hx296_0, p296, q296⟩ := atI HR0.out x6_2
            obtain rfl : ad290 = ad296 := (by injection e296)
            replace hx296_0 := (HB.out.cell (World.block_lt_of_cell? w _ hx296_0)).trans hx296_0
            obtain ⟨ad301, e301, hx301_0, p301, q301⟩ := atI HR0.out x6_2
            obtain rfl : ad290 = ad301 := (by injection e301)
            replace hx301_0 := (HB.out.cell (World.block_lt_of_cell? w _ hx301_0)).trans hx301_0
            go_wp2
            repeat (go_quiet (fail); try go_wp2)
            go_roundg k2
            case measure => have := HJ2.out; have := HK2.out; omega
            case rel => exact ⟨(x5_2), (wrap64 (x6_2 + 1)), (by first | rfl | (simp; done) | (simp [*]; done)), H', ⟨by have := HJ2.out; have := HK2.out; omega⟩, ⟨mvR HO_5⟩, ⟨mvB HB⟩⟩
        ·rw [if_neg c10] at H
         have c10b0 : decide (1 ≤ (rd l0 x6_2)) = false := decide_eq_false c10
         clear c10
         by_cases c20 : (rd l0 x6_2) = 23
         ·rw [if_pos c20] at H
          have c20b0 : ((rd l0 x6_2) == 23) = true := beq_iff_eq.mpr c20
          have c20b1 : ((rd l0 x6_2) != 23) = false := bne_eq_false_iff_eq.mpr c20
          clear c20
          by_cases c21 : x5_2.length < 140737488355328
          ·rw [if_pos c21] at H
           have LMc21 := Aside0.mk c21
           clear c21
           obtain ⟨y308, hy308⟩ : ∃ y_ : List Int, y_ = (x5_2 ++ [rd l0 x6_2]) := ⟨_, rfl⟩
           replace H : (selvedgelaw14_ExplicitPlain.l0 k2 l0 a1 y308 (wrap64 (x6_2 + 1))) = some r := by first | (rw [hy308]; with_reducible exact H) | (have H2_ := (Option.bind_some _ _).symm.trans H; rw [hy308]; with_reducible exact H2_) | (have H2_ := (Option.bind_some _ _).symm.trans H; with_reducible exact H2_) | with_reducible exact H | (rw [hy308]; exact H) | exact H
           have Ny308 := Aside0.mk hy308
           clear hy308
           have H' := Aside0.mk H
           clear H
           obtain ⟨ad290, e290, hx290_0, p290, q290⟩ := atI HR0.out x6_2
           cases e290
           replace hx290_0 := (HB.out.cell (World.block_lt_of_cell? w _ hx290_0)).trans hx290_0
           obtain ⟨ad306, e306, hx306_0, p306, q306⟩ := atI HR0.out x6_2
           obtain rfl : ad290 = ad306 := (by injection e306)
           replace hx306_0 := (HB.out.cell (World.block_lt_of_cell? w _ hx306_0)).trans hx306_0
           obtain ⟨ad307, e307, hx307_0, p307, q307⟩ := atI HR0.out x6_2
           obtain rfl : ad290 = ad307 := (by injection e307)
           replace hx307_0 := (HB.out.cell (World.block_lt_of_cell? w _ hx307_0)).trans hx307_0
           go_wp2_with (first | ((with_reducible refine gate_builtin (b := .append) (xs := #[.tmp 52, .tmp 57]) rfl ?_); (try (refine gate_guard (by rfl) ?_; dsimp only)); at_builtin; refine Kd.R_append (Kd.int .u8) (w0 := w) w.heap.size rfl (.tmp 52) (.tmp 57) 22 26 (.int .u8 0) 1 rfl Try.underlying22 info26 rfl (by decide) (by omega) u5 x5_2 (rd l0 x6_2) [.int .u8 (rd l0 x6_2)] (fun _ => True) (fun _ => False) rfl rfl ?aP (fun _ hk => hk.elim) ?aF ?aO ?aB ?aS ?aL ?_; (case aP => exact rfl); (case aB => exact (mvB HB)); (case aF => exact (fun _ _ => trivial)); (case aO => exact (mvR HO_5)); (case aS => exact (below_size (mvB HB))); (case aL => have := LMc21.out; omega); intro v309 w22 ho hb hg hat; rw [← Ny308.out] at ho; have n0_ := Aside0.mk (hb); have n1_ := Aside0.mk (ho); clear HB; clear HO_5; have HB := n0_; have HO310 := n1_; clear n0_ n1_; clear ho hb hg hat))
           repeat (go_quiet (first | ((with_reducible refine gate_builtin (b := .append) (xs := #[.tmp 52, .tmp 57]) rfl ?_); (try (refine gate_guard (by rfl) ?_; dsimp only)); at_builtin; refine Kd.R_append (Kd.int .u8) (w0 := w) w.heap.size rfl (.tmp 52) (.tmp 57) 22 26 (.int .u8 0) 1 rfl Try.underlying22 info26 rfl (by decide) (by omega) u5 x5_2 (rd l0 x6_2) [.int .u8 (rd l0 x6_2)] (fun _ => True) (fun _ => False) rfl rfl ?aP (fun _ hk => hk.elim) ?aF ?aO ?aB ?aS ?aL ?_; (case aP => exact rfl); (case aB => exact (mvB HB)); (case aF => exact (fun _ _ => trivial)); (case aO => exact (mvR HO_5)); (case aS => exact (below_size (mvB HB))); (case aL => have := LMc21.out; omega); intro v309 w22 ho hb hg hat; rw [← Ny308.out] at ho; have n0_ := Aside0.mk (hb); have n1_ := Aside0.mk (ho); clear HB; clear HO_5; have HB := n0_; have HO310 := n1_; clear n0_ n1_; clear ho hb hg hat)); try go_wp2_with (first | ((with_reducible refine gate_builtin (b := .append) (xs := #[.tmp 52, .tmp 57]) rfl ?_); (try (refine gate_guard (by rfl) ?_; dsimp only)); at_builtin; refine Kd.R_append (Kd.int .u8) (w0 := w) w.heap.size rfl (.tmp 52) (.tmp 57) 22 26 (.int .u8 0) 1 rfl Try.underlying22 info26 rfl (by decide) (by omega) u5 x5_2 (rd l0 x6_2) [.int .u8 (rd l0 x6_2)] (fun _ => True) (fun _ => False) rfl rfl ?aP (fun _ hk => hk.elim) ?aF ?aO ?aB ?aS ?aL ?_; (case aP => exact rfl); (case aB => exact (mvB HB)); (case aF => exact (fun _ _ => trivial)); (case aO => exact (mvR HO_5)); (case aS => exact (below_size (mvB HB))); (case aL => have := LMc21.out; omega); intro v309 w22 ho hb hg hat; rw [← Ny308.out] at ho; have n0_ := Aside0.mk (hb); have n1_ := Aside0.mk (ho); clear HB; clear HO_5; have HB := n0_; have HO310 := n1_; clear n0_ n1_; clear ho hb hg hat)))
           go_roundg k2
           case measure => have := HJ2.out; have := HK2.out; omega
           case rel => exact ⟨(y308), (wrap64 (x6_2 + 1)), (by first | rfl | (simp; done) | (simp [*]; done)), H', ⟨by have := HJ2.out; have := HK2.out; omega⟩, ⟨mvR HO310⟩, ⟨mvB HB⟩⟩
          ·rw [if_neg c21] at H
           exact absurd H (by simp)
         ·rw [if_neg c20] at H
          have c20b0 : ((rd l0 x6_2) == 23) = false := beq_eq_false_iff_ne.mpr c20
          have c20b1 : ((rd l0 x6_2) != 23) = true := bne_iff_ne.mpr c20
          by_cases c23 : (rd l0 x6_2) = 19
          ·rw [if_pos c23] at H
           have c23b0 : ((rd l0 x6_2) == 19) = true := beq_iff_eq.mpr c23
           have c23b1 : ((rd l0 x6_2) != 19) = false := bne_eq_false_iff_eq.mpr c23
           clear c23
           by_cases c24 : x5_2.length < 140737488355328
           ·rw [if_pos c24] at H
            have LMc24 := Aside0.mk c24
            clear c24
            obtain ⟨y313, hy313⟩ : ∃ y_ : List Int, y_ = (x5_2 ++ [rd l0 x6_2]) := ⟨_, rfl⟩
            replace H : (selvedgelaw14_ExplicitPlain.l0 k2 l0 a1 y313 (wrap64 (x6_2 + 1))) = some r := by first | (rw [hy313]; with_reducible exact H) | (have H2_ := (Option.bind_some _ _).symm.trans H; rw [hy313]; with_reducible exact H2_) | (have H2_ := (Option.bind_some _ _).symm.trans H; with_reducible exact H2_) | with_reducible exact H | (rw [hy313]; exact H) | exact H
            have Ny313 := Aside0.mk hy313
            clear hy313
            have H' := Aside0.mk H
            clear H
            obtain ⟨ad290, e290, hx290_0, p290, q290⟩ := atI HR0.out x6_2
            cases e290
            replace hx290_0 := (HB.out.cell (World.block_lt_of_cell? w _ hx290_0)).trans hx290_0
            obtain ⟨ad306, e306, hx306_0, p306, q306⟩ := atI HR0.out x6_2
            obtain rfl : ad290 = ad306 := (by injection e306)
            replace hx306_0 := (HB.out.cell (World.block_lt_of_cell? w _ hx306_0)).trans hx306_0
            obtain ⟨ad311, e311, hx311_0, p311, q311⟩ := atI HR0.out x6_2
            obtain rfl : ad290 = ad311 := (by injection e311)
            replace hx311_0 := (HB.out.cell (World.block_lt_of_cell? w _ hx311_0)).trans hx311_0
            obtain ⟨ad312, e312, hx312_0, p312, q312⟩ := atI HR0.out x6_2
            obtain rfl : ad290 = ad312 := (by injection e312)
            replace hx312_0 := (HB.out.cell (World.block_lt_of_cell? w _ hx312_0)).trans hx312_0
            go_wp2_with (first | ((with_reducible refine gate_builtin (b := .append) (xs := #[.tmp 52, .tmp 57]) rfl ?_); (try (refine gate_guard (by rfl) ?_; dsimp only)); at_builtin; refine Kd.R_append (Kd.int .u8) (w0 := w) w.heap.size rfl (.tmp 52) (.tmp 57) 22 26 (.int .u8 0) 1 rfl Try.underlying22 info26 rfl (by decide) (by omega) u5 x5_2 (rd l0 x6_2) [.int .u8 (rd l0 x6_2)] (fun _ => True) (fun _ => False) rfl rfl ?aP (fun _ hk => hk.elim) ?aF ?aO ?aB ?aS ?aL ?_; (case aP => exact rfl); (case aB => exact (mvB HB)); (case aF => exact (fun _ _ => trivial)); (case aO => exact (mvR HO_5)); (case aS => exact (below_size (mvB HB))); (case aL => have := LMc24.out; omega); intro v314 w25 ho hb hg hat; rw [← Ny313.out] at ho; have n0_ := Aside0.mk (hb); have n1_ := Aside0.mk (ho); clear HB; clear HO_5; have HB := n0_; have HO315 := n1_; clear n0_ n1_; clear ho hb hg hat))
            repeat (go_quiet (first | ((with_reducible refine gate_builtin (b := .append) (xs := #[.tmp 52, .tmp 57]) rfl ?_); (try (refine gate_guard (by rfl) ?_; dsimp only)); at_builtin; refine Kd.R_append (Kd.int .u8) (w0 := w) w.heap.size rfl (.tmp 52) (.tmp 57) 22 26 (.int .u8 0) 1 rfl Try.underlying22 info26 rfl (by decide) (by omega) u5 x5_2 (rd l0 x6_2) [.int .u8 (rd l0 x6_2)] (fun _ => True) (fun _ => False) rfl rfl ?aP (fun _ hk => hk.elim) ?aF ?aO ?aB ?aS ?aL ?_; (case aP => exact rfl); (case aB => exact (mvB HB)); (case aF => exact (fun _ _ => trivial)); (case aO => exact (mvR HO_5)); (case aS => exact (below_size (mvB HB))); (case aL => have := LMc24.out; omega); intro v314 w25 ho hb hg hat; rw [← Ny313.out] at ho; have n0_ := Aside0.mk (hb); have n1_ := Aside0.mk (ho); clear HB; clear HO_5; have HB := n0_; have HO315 := n1_; clear n0_ n1_; clear ho hb hg hat)); try go_wp2_with (first | ((with_reducible refine gate_builtin (b := .append) (xs := #[.tmp 52, .tmp 57]) rfl ?_); (try (refine gate_guard (by rfl) ?_; dsimp only)); at_builtin; refine Kd.R_append (Kd.int .u8) (w0 := w) w.heap.size rfl (.tmp 52) (.tmp 57) 22 26 (.int .u8 0) 1 rfl Try.underlying22 info26 rfl (by decide) (by omega) u5 x5_2 (rd l0 x6_2) [.int .u8 (rd l0 x6_2)] (fun _ => True) (fun _ => False) rfl rfl ?aP (fun _ hk => hk.elim) ?aF ?aO ?aB ?aS ?aL ?_; (case aP => exact rfl); (case aB => exact (mvB HB)); (case aF => exact (fun _ _ => trivial)); (case aO => exact (mvR HO_5)); (case aS => exact (below_size (mvB HB))); (case aL => have := LMc24.out; omega); intro v314 w25 ho hb hg hat; rw [← Ny313.out] at ho; have n0_ := Aside0.mk (hb); have n1_ := Aside0.mk (ho); clear HB; clear HO_5; have HB := n0_; have HO315 := n1_; clear n0_ n1_; clear ho hb hg hat)))
            go_roundg k2
            case measure => have := HJ2.out; have := HK2.out; omega
            case rel => exact ⟨(y313), (wrap64 (x6_2 + 1)), (by first | rfl | (simp; done) | (simp [*]; done)), H', ⟨by have := HJ2.out; have := HK2.out; omega⟩, ⟨mvR HO315⟩, ⟨mvB HB⟩⟩
           ·rw [if_neg c24] at H
            exact absurd H (by simp)
          ·rw [if_neg c23] at H
           have c23b0 : ((rd l0 x6_2) == 19) = false := beq_eq_false_iff_ne.mpr c23
           have c23b1 : ((rd l0 x6_2) != 19) = true := bne_iff_ne.mpr c23
           have H' := Aside0.mk H
           clear H
           obtain ⟨ad290, e290, hx290_0, p290, q290⟩ := atI HR0.out x6_2
           cases e290
           replace hx290_0 := (HB.out.cell (World.block_lt_of_cell? w _ hx290_0)).trans hx290_0
           obtain ⟨ad306, e306, hx306_0, p306, q306⟩ := atI HR0.out x6_2
           obtain rfl : ad290 = ad306 := (by injection e306)
           replace hx306_0 := (HB.out.cell (World.block_lt_of_cell? w _ hx306_0)).trans hx306_0
           obtain ⟨ad311, e311, hx311_0, p311, q311⟩ := atI HR0.out x6_2
           obtain rfl : ad290 = ad311 := (by injection e311)
           replace hx311_0 := (HB.out.cell (World.block_lt_of_cell? w _ hx311_0)).trans hx311_0
           go_wp2
           repeat (go_quiet (fail); try go_wp2)
           go_roundg k2
           case measure => have := HJ2.out; have := HK2.out; omega
           case rel => exact ⟨(x5_2), (wrap64 (x6_2 + 1)), (by first | rfl | (simp; done) | (simp [*]; done)), H', ⟨by have := HJ2.out; have := HK2.out; omega⟩, ⟨mvR HO_5⟩, ⟨mvB HB⟩⟩
       ·rw [if_neg c9] at H
        exact absurd H (by simp)
      ·rw [if_neg c8] at H
       have c8b0 : decide (x6_2 < (l0.length : Int)) = false := decide_eq_false c8
       clear c8
       replace H := Option.bind_eq_some_iff.mp H
       obtain ⟨⟨t316, t317, t318, t319⟩, A260, H⟩ := H
       replace H : (if t319 = 0 then (if (t316.length : Int) = (x5_2.length : Int) then (if (t317.length : Int) = (x5_2.length : Int) then (if a1 < 2 then (if t318 = a1 then (if a1 = 2 then ((explicit_Base.f k2 x5_2).bind fun t324 => (selvedgelaw14_ExplicitPlain.j2 k2 x5_2 t316 t317 t318 (t318 != t324))) else (selvedgelaw14_ExplicitPlain.j2 k2 x5_2 t316 t317 t318 false)) else (selvedgelaw14_ExplicitPlain.j2 k2 x5_2 t316 t317 t318 true)) else (if a1 = 2 then ((explicit_Base.f k2 x5_2).bind fun t325 => (selvedgelaw14_ExplicitPlain.j2 k2 x5_2 t316 t317 t318 (t318 != t325))) else (selvedgelaw14_ExplicitPlain.j2 k2 x5_2 t316 t317 t318 false))) else (selvedgelaw14_ExplicitPlain.j2 k2 x5_2 t316 t317 t318 true)) else (selvedgelaw14_ExplicitPlain.j2 k2 x5_2 t316 t317 t318 true)) else (selvedgelaw14_ExplicitPlain.j2 k2 x5_2 t316 t317 t318 true)) = some r := H
       have A26 := Aside0.mk A260
       clear A260
       have HC27 := Aside0.mk H
       clear H
       obtain ⟨Ao28, co28, eo28⟩ := Kd.R_slice HO_5.out
       subst eo28
       go_upto_region 10 with (first | (go_at_call 15; (with_reducible refine (explicit_Levels.calls _ _ x5_2 a1 t316 t317 t318 t319 _ ?side1 ?side2 A26.out).mono ?_); (case side1 => repeat (first | exact (Kd.R_reads' HO_5.out).2.2 | (with_reducible refine Kd.C_alloc ?_ _) | (with_reducible refine Kd.C_drewN ?_ _) | (with_reducible refine Kd.C_drew ?_))); (case side2 => exact (Kd.R_reads' HO_5.out).2.1); rintro e w29 ⟨v320, v322, rfl, ho0, ho1, hb⟩; have n0_ := Aside0.mk (Kd.R_elder' (mvR HO_5) (Kd.R_base ho1) hb); have n1_ := Aside0.mk (Kd.R_lower ho0 (below_size (mvB HB))); have n2_ := Aside0.mk (Kd.R_lower (Kd.R_new' ho1 (Kd.R_lt (mvR HO_5))) (below_size (mvB HB))); have n3_ := Aside0.mk (below_step (mvB HB) hb); clear HO_5; clear HB; have HO_5 := n0_; have HO321 := n1_; have HO323 := n2_; have HB := n3_; clear n0_ n1_ n2_ n3_; (try clear hb); (try clear hb2); (try clear hk); (try clear hi); (try clear ho0); (try clear ho1)))
       repeat (go_quiet (first | (go_at_call 15; (with_reducible refine (explicit_Levels.calls _ _ x5_2 a1 t316 t317 t318 t319 _ ?side1 ?side2 A26.out).mono ?_); (case side1 => repeat (first | exact (Kd.R_reads' HO_5.out).2.2 | (with_reducible refine Kd.C_alloc ?_ _) | (with_reducible refine Kd.C_drewN ?_ _) | (with_reducible refine Kd.C_drew ?_))); (case side2 => exact (Kd.R_reads' HO_5.out).2.1); rintro e w29 ⟨v320, v322, rfl, ho0, ho1, hb⟩; have n0_ := Aside0.mk (Kd.R_elder' (mvR HO_5) (Kd.R_base ho1) hb); have n1_ := Aside0.mk (Kd.R_lower ho0 (below_size (mvB HB))); have n2_ := Aside0.mk (Kd.R_lower (Kd.R_new' ho1 (Kd.R_lt (mvR HO_5))) (below_size (mvB HB))); have n3_ := Aside0.mk (below_step (mvB HB) hb); clear HO_5; clear HB; have HO_5 := n0_; have HO321 := n1_; have HO323 := n2_; have HB := n3_; clear n0_ n1_ n2_ n3_; (try clear hb); (try clear hb2); (try clear hk); (try clear hi); (try clear ho0); (try clear ho1))); go_upto_region 10 with (first | (go_at_call 15; (with_reducible refine (explicit_Levels.calls _ _ x5_2 a1 t316 t317 t318 t319 _ ?side1 ?side2 A26.out).mono ?_); (case side1 => repeat (first | exact (Kd.R_reads' HO_5.out).2.2 | (with_reducible refine Kd.C_alloc ?_ _) | (with_reducible refine Kd.C_drewN ?_ _) | (with_reducible refine Kd.C_drew ?_))); (case side2 => exact (Kd.R_reads' HO_5.out).2.1); rintro e w29 ⟨v320, v322, rfl, ho0, ho1, hb⟩; have n0_ := Aside0.mk (Kd.R_elder' (mvR HO_5) (Kd.R_base ho1) hb); have n1_ := Aside0.mk (Kd.R_lower ho0 (below_size (mvB HB))); have n2_ := Aside0.mk (Kd.R_lower (Kd.R_new' ho1 (Kd.R_lt (mvR HO_5))) (below_size (mvB HB))); have n3_ := Aside0.mk (below_step (mvB HB) hb); clear HO_5; clear HB; have HO_5 := n0_; have HO321 := n1_; have HO323 := n2_; have HB := n3_; clear n0_ n1_ n2_ n3_; (try clear hb); (try clear hb2); (try clear hk); (try clear hi); (try clear ho0); (try clear ho1))))
       (try simp only [Act.put, List.setIfInBounds_toArray, List.set_cons_zero, List.set_cons_succ])
       go_cut [101] (fun v101 wc => ∃ (kq : Nat) (x101_26 : Bool), v101 = .bool x101_26 ∧ Aside0 (selvedgelaw14_ExplicitPlain.j2 kq x5_2 t316 t317 t318 x101_26 = some r) ∧ Aside0 (kq ≤ k2) ∧ Aside0 (Kd.R (Kd.int .u8) 26 wc w.heap.size (fun k_ => some k_ ≠ (v322 : Value).ownBlock) (.slice Ao28 x5_2.length co28) x5_2) ∧ Aside0 (Kd.R (Kd.int .u8) 5 wc w.heap.size (fun _ => True) v320 t316) ∧ Aside0 (Kd.R (Kd.int .u8) 26 wc w.heap.size (fun k_ => some k_ ≠ ((.slice Ao28 x5_2.length co28) : Value).ownBlock) v322 t317) ∧ Aside0 (Below w.heap.size w wc))
       case first =>
        have H := HC27.out
        clear HC27
        by_cases c30 : t319 = 0
        ·rw [if_pos c30] at H
         have c30b0 : (t319 == 0) = true := beq_iff_eq.mpr c30
         have c30b1 : (t319 != 0) = false := bne_eq_false_iff_eq.mpr c30
         clear c30
         (first | rw [c30b0] | (simp only [i64_w, i32_w]; rw [c30b0]) | skip)
         by_cases c31 : (t316.length : Int) = (x5_2.length : Int)
         ·rw [if_pos c31] at H
          have c31b0 : ((t316.length : Int) == (x5_2.length : Int)) = true := beq_iff_eq.mpr c31
          have c31b1 : ((t316.length : Int) != (x5_2.length : Int)) = false := bne_eq_false_iff_eq.mpr c31
          have c31b2 : (t316.length == x5_2.length) = true := by first | simpa using c31 | (simp at c31 ⊢; omega)
          clear c31
          by_cases c32 : (t317.length : Int) = (x5_2.length : Int)
          ·rw [if_pos c32] at H
           have c32b0 : ((t317.length : Int) == (x5_2.length : Int)) = true := beq_iff_eq.mpr c32
           have c32b1 : ((t317.length : Int) != (x5_2.length : Int)) = false := bne_eq_false_iff_eq.mpr c32
           have c32b2 : (t317.length == x5_2.length) = true := by first | simpa using c32 | (simp at c32 ⊢; omega)
           clear c32
           by_cases c33 : a1 < 2
           ·rw [if_pos c33] at H
            have c33b0 : decide (a1 < 2) = true := decide_eq_true c33
            clear c33
            by_cases c34 : t318 = a1
            ·rw [if_pos c34] at H
             have c34b0 : (t318 == a1) = true := beq_iff_eq.mpr c34
             have c34b1 : (t318 != a1) = false := bne_eq_false_iff_eq.mpr c34
             clear c34
             by_cases c35 : a1 = 2
             ·rw [if_pos c35] at H
              have c35b0 : (a1 == 2) = true := beq_iff_eq.mpr c35
              have c35b1 : (a1 != 2) = false := bne_eq_false_iff_eq.mpr c35
              clear c35
              replace H := Option.bind_eq_some_iff.mp H
              obtain ⟨t324, A360, H⟩ := H
              replace H : (selvedgelaw14_ExplicitPlain.j2 k2 x5_2 t316 t317 t318 (t318 != t324)) = some r := H
              have A36 := Aside0.mk A360
              clear A360
              have H' := Aside0.mk H
              clear H
              obtain ⟨Ao37, co37, eo37⟩ := Kd.R_slice HO321.out
              subst eo37
              obtain ⟨Ao38, co38, eo38⟩ := Kd.R_slice HO323.out
              subst eo38
              go_wp2_with (first | (go_at_call 13; (with_reducible refine (explicit_Base.calls k2 _ _ x5_2 t324 _ ?side1 ?side2 A36.out).mono ?_); (case side1 => repeat (first | exact (Kd.R_reads' HO_5.out).2.2 | (with_reducible refine Kd.C_alloc ?_ _) | (with_reducible refine Kd.C_drewN ?_ _) | (with_reducible refine Kd.C_drew ?_))); (case side2 => exact (Kd.R_reads' HO_5.out).2.1); rintro e w39 ⟨rfl, hb⟩; have n0_ := Aside0.mk (Kd.R_below (mvR HO_5) hb); have n1_ := Aside0.mk (Kd.R_below (mvR HO321) hb); have n2_ := Aside0.mk (Kd.R_below (mvR HO323) hb); have n3_ := Aside0.mk (below_step (mvB HB) hb); clear HO_5; clear HO321; clear HO323; clear HB; have HO_5 := n0_; have HO321 := n1_; have HO323 := n2_; have HB := n3_; clear n0_ n1_ n2_ n3_; (try clear hb); (try clear hb2); (try clear hk); (try clear hi)))
              repeat (go_quiet (first | (go_at_call 13; (with_reducible refine (explicit_Base.calls k2 _ _ x5_2 t324 _ ?side1 ?side2 A36.out).mono ?_); (case side1 => repeat (first | exact (Kd.R_reads' HO_5.out).2.2 | (with_reducible refine Kd.C_alloc ?_ _) | (with_reducible refine Kd.C_drewN ?_ _) | (with_reducible refine Kd.C_drew ?_))); (case side2 => exact (Kd.R_reads' HO_5.out).2.1); rintro e w39 ⟨rfl, hb⟩; have n0_ := Aside0.mk (Kd.R_below (mvR HO_5) hb); have n1_ := Aside0.mk (Kd.R_below (mvR HO321) hb); have n2_ := Aside0.mk (Kd.R_below (mvR HO323) hb); have n3_ := Aside0.mk (below_step (mvB HB) hb); clear HO_5; clear HO321; clear HO323; clear HB; have HO_5 := n0_; have HO321 := n1_; have HO323 := n2_; have HB := n3_; clear n0_ n1_ n2_ n3_; (try clear hb); (try clear hb2); (try clear hk); (try clear hi))); try go_wp2_with (first | (go_at_call 13; (with_reducible refine (explicit_Base.calls k2 _ _ x5_2 t324 _ ?side1 ?side2 A36.out).mono ?_); (case side1 => repeat (first | exact (Kd.R_reads' HO_5.out).2.2 | (with_reducible refine Kd.C_alloc ?_ _) | (with_reducible refine Kd.C_drewN ?_ _) | (with_reducible refine Kd.C_drew ?_))); (case side2 => exact (Kd.R_reads' HO_5.out).2.1); rintro e w39 ⟨rfl, hb⟩; have n0_ := Aside0.mk (Kd.R_below (mvR HO_5) hb); have n1_ := Aside0.mk (Kd.R_below (mvR HO321) hb); have n2_ := Aside0.mk (Kd.R_below (mvR HO323) hb); have n3_ := Aside0.mk (below_step (mvB HB) hb); clear HO_5; clear HO321; clear HO323; clear HB; have HO_5 := n0_; have HO321 := n1_; have HO323 := n2_; have HB := n3_; clear n0_ n1_ n2_ n3_; (try clear hb); (try clear hb2); (try clear hk); (try clear hi))))
              go_meet
              case rel => exact ⟨_, ((t318 != t324)), (by first | rfl | (simp; done) | (simp [*]; done)), H', ⟨by have := HJ2.out; have := HK2.out; first | omega | exact Nat.le_refl _⟩, ⟨by (with_reducible repeat (first | apply Kd.R_alloc | apply Kd.R_drewN | apply Kd.R_drew)); exact Kd.R_mono HO_5.out (fun _ hk => hk.2)⟩, ⟨mvR HO321⟩, ⟨by (with_reducible repeat (first | apply Kd.R_alloc | apply Kd.R_drewN | apply Kd.R_drew)); exact Kd.R_mono HO323.out (fun _ hk => hk.2)⟩, ⟨mvB HB⟩⟩
             ·rw [if_neg c35] at H
              have c35b0 : (a1 == 2) = false := beq_eq_false_iff_ne.mpr c35
              have c35b1 : (a1 != 2) = true := bne_iff_ne.mpr c35
              have H' := Aside0.mk H
              clear H
              obtain ⟨Ao40, co40, eo40⟩ := Kd.R_slice HO321.out
              subst eo40
              obtain ⟨Ao41, co41, eo41⟩ := Kd.R_slice HO323.out
              subst eo41
              go_wp2
              repeat (go_quiet (fail); try go_wp2)
              go_meet
              case rel => exact ⟨_, (false), (by first | rfl | (simp; done) | (simp [*]; done)), H', ⟨by have := HJ2.out; have := HK2.out; first | omega | exact Nat.le_refl _⟩, ⟨by (with_reducible repeat (first | apply Kd.R_alloc | apply Kd.R_drewN | apply Kd.R_drew)); exact Kd.R_mono HO_5.out (fun _ hk => hk.2)⟩, ⟨mvR HO321⟩, ⟨by (with_reducible repeat (first | apply Kd.R_alloc | apply Kd.R_drewN | apply Kd.R_drew)); exact Kd.R_mono HO323.out (fun _ hk => hk.2)⟩, ⟨mvB HB⟩⟩
            ·rw [if_neg c34] at H
             have c34b0 : (t318 == a1) = false := beq_eq_false_iff_ne.mpr c34
             have c34b1 : (t318 != a1) = true := bne_iff_ne.mpr c34
             have H' := Aside0.mk H
             clear H
             obtain ⟨Ao42, co42, eo42⟩ := Kd.R_slice HO321.out
             subst eo42
             obtain ⟨Ao43, co43, eo43⟩ := Kd.R_slice HO323.out
             subst eo43
             go_wp2
             repeat (go_quiet (fail); try go_wp2)
             go_meet
             case rel => exact ⟨_, (true), (by first | rfl | (simp; done) | (simp [*]; done)), H', ⟨by have := HJ2.out; have := HK2.out; first | omega | exact Nat.le_refl _⟩, ⟨by (with_reducible repeat (first | apply Kd.R_alloc | apply Kd.R_drewN | apply Kd.R_drew)); exact Kd.R_mono HO_5.out (fun _ hk => hk.2)⟩, ⟨mvR HO321⟩, ⟨by (with_reducible repeat (first | apply Kd.R_alloc | apply Kd.R_drewN | apply Kd.R_drew)); exact Kd.R_mono HO323.out (fun _ hk => hk.2)⟩, ⟨mvB HB⟩⟩
           ·rw [if_neg c33] at H
            have c33b0 : decide (a1 < 2) = false := decide_eq_false c33
            clear c33
            by_cases c44 : a1 = 2
            ·rw [if_pos c44] at H
             have c44b0 : (a1 == 2) = true := beq_iff_eq.mpr c44
             have c44b1 : (a1 != 2) = false := bne_eq_false_iff_eq.mpr c44
             clear c44
             replace H := Option.bind_eq_some_iff.mp H
             obtain ⟨t325, A450, H⟩ := H
             replace H : (selvedgelaw14_ExplicitPlain.j2 k2 x5_2 t316 t317 t318 (t318 != t325)) = some r := H
             have A45 := Aside0.mk A450
             clear A450
             have H' := Aside0.mk H
             clear H
             obtain ⟨Ao46, co46, eo46⟩ := Kd.R_slice HO321.out
             subst eo46
             obtain ⟨Ao47, co47, eo47⟩ := Kd.R_slice HO323.out
             subst eo47
             go_wp2_with (first | (go_at_call 13; (with_reducible refine (explicit_Base.calls k2 _ _ x5_2 t325 _ ?side1 ?side2 A45.out).mono ?_); (case side1 => repeat (first | exact (Kd.R_reads' HO_5.out).2.2 | (with_reducible refine Kd.C_alloc ?_ _) | (with_reducible refine Kd.C_drewN ?_ _) | (with_reducible refine Kd.C_drew ?_))); (case side2 => exact (Kd.R_reads' HO_5.out).2.1); rintro e w48 ⟨rfl, hb⟩; have n0_ := Aside0.mk (Kd.R_below (mvR HO_5) hb); have n1_ := Aside0.mk (Kd.R_below (mvR HO321) hb); have n2_ := Aside0.mk (Kd.R_below (mvR HO323) hb); have n3_ := Aside0.mk (below_step (mvB HB) hb); clear HO_5; clear HO321; clear HO323; clear HB; have HO_5 := n0_; have HO321 := n1_; have HO323 := n2_; have HB := n3_; clear n0_ n1_ n2_ n3_; (try clear hb); (try clear hb2); (try clear hk); (try clear hi)))
             repeat (go_quiet (first | (go_at_call 13; (with_reducible refine (explicit_Base.calls k2 _ _ x5_2 t325 _ ?side1 ?side2 A45.out).mono ?_); (case side1 => repeat (first | exact (Kd.R_reads' HO_5.out).2.2 | (with_reducible refine Kd.C_alloc ?_ _) | (with_reducible refine Kd.C_drewN ?_ _) | (with_reducible refine Kd.C_drew ?_))); (case side2 => exact (Kd.R_reads' HO_5.out).2.1); rintro e w48 ⟨rfl, hb⟩; have n0_ := Aside0.mk (Kd.R_below (mvR HO_5) hb); have n1_ := Aside0.mk (Kd.R_below (mvR HO321) hb); have n2_ := Aside0.mk (Kd.R_below (mvR HO323) hb); have n3_ := Aside0.mk (below_step (mvB HB) hb); clear HO_5; clear HO321; clear HO323; clear HB; have HO_5 := n0_; have HO321 := n1_; have HO323 := n2_; have HB := n3_; clear n0_ n1_ n2_ n3_; (try clear hb); (try clear hb2); (try clear hk); (try clear hi))); try go_wp2_with (first | (go_at_call 13; (with_reducible refine (explicit_Base.calls k2 _ _ x5_2 t325 _ ?side1 ?side2 A45.out).mono ?_); (case side1 => repeat (first | exact (Kd.R_reads' HO_5.out).2.2 | (with_reducible refine Kd.C_alloc ?_ _) | (with_reducible refine Kd.C_drewN ?_ _) | (with_reducible refine Kd.C_drew ?_))); (case side2 => exact (Kd.R_reads' HO_5.out).2.1); rintro e w48 ⟨rfl, hb⟩; have n0_ := Aside0.mk (Kd.R_below (mvR HO_5) hb); have n1_ := Aside0.mk (Kd.R_below (mvR HO321) hb); have n2_ := Aside0.mk (Kd.R_below (mvR HO323) hb); have n3_ := Aside0.mk (below_step (mvB HB) hb); clear HO_5; clear HO321; clear HO323; clear HB; have HO_5 := n0_; have HO321 := n1_; have HO323 := n2_; have HB := n3_; clear n0_ n1_ n2_ n3_; (try clear hb); (try clear hb2); (try clear hk); (try clear hi))))
             go_meet
             case rel => exact ⟨_, ((t318 != t325)), (by first | rfl | (simp; done) | (simp [*]; done)), H', ⟨by have := HJ2.out; have := HK2.out; first | omega | exact Nat.le_refl _⟩, ⟨by (with_reducible repeat (first | apply Kd.R_alloc | apply Kd.R_drewN | apply Kd.R_drew)); exact Kd.R_mono HO_5.out (fun _ hk => hk.2)⟩, ⟨mvR HO321⟩, ⟨by (with_reducible repeat (first | apply Kd.R_alloc | apply Kd.R_drewN | apply Kd.R_drew)); exact Kd.R_mono HO323.out (fun _ hk => hk.2)⟩, ⟨mvB HB⟩⟩
            ·rw [if_neg c44] at H
             have c44b0 : (a1 == 2) = false := beq_eq_false_iff_ne.mpr c44
             have c44b1 : (a1 != 2) = true := bne_iff_ne.mpr c44
             have H' := Aside0.mk H
             clear H
             obtain ⟨Ao49, co49, eo49⟩ := Kd.R_slice HO321.out
             subst eo49
             obtain ⟨Ao50, co50, eo50⟩ := Kd.R_slice HO323.out
             subst eo50
             go_wp2
             repeat (go_quiet (fail); try go_wp2)
             go_meet
             case rel => exact ⟨_, (false), (by first | rfl | (simp; done) | (simp [*]; done)), H', ⟨by have := HJ2.out; have := HK2.out; first | omega | exact Nat.le_refl _⟩, ⟨by (with_reducible repeat (first | apply Kd.R_alloc | apply Kd.R_drewN | apply Kd.R_drew)); exact Kd.R_mono HO_5.out (fun _ hk => hk.2)⟩, ⟨mvR HO321⟩, ⟨by (with_reducible repeat (first | apply Kd.R_alloc | apply Kd.R_drewN | apply Kd.R_drew)); exact Kd.R_mono HO323.out (fun _ hk => hk.2)⟩, ⟨mvB HB⟩⟩
          ·rw [if_neg c32] at H
           have c32b0 : ((t317.length : Int) == (x5_2.length : Int)) = false := beq_eq_false_iff_ne.mpr c32
           have c32b1 : ((t317.length : Int) != (x5_2.length : Int)) = true := bne_iff_ne.mpr c32
           have c32b2 : (t317.length == x5_2.length) = false := by first | simpa using c32 | (simp at c32 ⊢; omega)
           have H' := Aside0.mk H
           clear H
           obtain ⟨Ao51, co51, eo51⟩ := Kd.R_slice HO321.out
           subst eo51
           obtain ⟨Ao52, co52, eo52⟩ := Kd.R_slice HO323.out
           subst eo52
           go_wp2
           repeat (go_quiet (fail); try go_wp2)
           go_meet
           case rel => exact ⟨_, (true), (by first | rfl | (simp; done) | (simp [*]; done)), H', ⟨by have := HJ2.out; have := HK2.out; first | omega | exact Nat.le_refl _⟩, ⟨by (with_reducible repeat (first | apply Kd.R_alloc | apply Kd.R_drewN | apply Kd.R_drew)); exact Kd.R_mono HO_5.out (fun _ hk => hk.2)⟩, ⟨mvR HO321⟩, ⟨by (with_reducible repeat (first | apply Kd.R_alloc | apply Kd.R_drewN | apply Kd.R_drew)); exact Kd.R_mono HO323.out (fun _ hk => hk.2)⟩, ⟨mvB HB⟩⟩
         ·rw [if_neg c31] at H
          have c31b0 : ((t316.length : Int) == (x5_2.length : Int)) = false := beq_eq_false_iff_ne.mpr c31
          have c31b1 : ((t316.length : Int) != (x5_2.length : Int)) = true := bne_iff_ne.mpr c31
          have c31b2 : (t316.length == x5_2.length) = false := by first | simpa using c31 | (simp at c31 ⊢; omega)
          have H' := Aside0.mk H
          clear H
          obtain ⟨Ao53, co53, eo53⟩ := Kd.R_slice HO321.out
          subst eo53
          go_wp2
          repeat (go_quiet (fail); try go_wp2)
          go_meet
          case rel => exact ⟨_, (true), (by first | rfl | (simp; done) | (simp [*]; done)), H', ⟨by have := HJ2.out; have := HK2.out; first | omega | exact Nat.le_refl _⟩, ⟨by (with_reducible repeat (first | apply Kd.R_alloc | apply Kd.R_drewN | apply Kd.R_drew)); exact Kd.R_mono HO_5.out (fun _ hk => hk.2)⟩, ⟨mvR HO321⟩, ⟨by (with_reducible repeat (first | apply Kd.R_alloc | apply Kd.R_drewN | apply Kd.R_drew)); exact Kd.R_mono HO323.out (fun _ hk => hk.2)⟩, ⟨mvB HB⟩⟩
        ·rw [if_neg c30] at H
         have c30b0 : (t319 == 0) = false := beq_eq_false_iff_ne.mpr c30
         have c30b1 : (t319 != 0) = true := bne_iff_ne.mpr c30
         (first | rw [c30b0] | (simp only [i64_w, i32_w]; rw [c30b0]) | skip)
         have H' := Aside0.mk H
         clear H
         go_wp2
         repeat (go_quiet (fail); try go_wp2)
         go_meet
         case rel => exact ⟨_, (true), (by first | rfl | (simp; done) | (simp [*]; done)), H', ⟨by have := HJ2.out; have := HK2.out; first | omega | exact Nat.le_refl _⟩, ⟨by (with_reducible repeat (first | apply Kd.R_alloc | apply Kd.R_drewN | apply Kd.R_drew)); exact Kd.R_mono HO_5.out (fun _ hk => hk.2)⟩, ⟨mvR HO321⟩, ⟨by (with_reducible repeat (first | apply Kd.R_alloc | apply Kd.R_drewN | apply Kd.R_drew)); exact Kd.R_mono HO323.out (fun _ hk => hk.2)⟩, ⟨mvB HB⟩⟩
       case rest =>
        clear HC27
        try clear c1
        try clear c2
        try clear p2
        try clear q2
        try clear hx2
        try clear c3
        try clear p3
        try clear q3
        try clear hx3
        try clear c4
        try clear c4b0
        try clear c4b1
        try clear c5
        try clear p6
        try clear c8
        try clear c8b0
        try clear c9
        try clear c9b0
        try clear c10
        try clear c10b0
        try clear c11
        try clear c11b0
        try clear c12
        try clear c14
        try clear c14b0
        try clear c14b1
        try clear c15
        try clear c17
        try clear c17b0
        try clear c17b1
        try clear c18
        try clear c20
        try clear c20b0
        try clear c20b1
        try clear c21
        try clear c23
        try clear c23b0
        try clear c23b1
        try clear c24
        try clear p29
        try clear q29
        try clear hx29
        try clear c30
        try clear c30b0
        try clear c30b1
        try clear p30
        try clear q30
        try clear hx30
        try clear c31
        try clear c31b0
        try clear c31b1
        try clear c31b2
        try clear p31
        try clear q31
        try clear hx31
        try clear c32
        try clear c32b0
        try clear c32b1
        try clear c32b2
        try clear c33
        try clear c33b0
        try clear c34
        try clear c34b0
        try clear c34b1
        try clear c35
        try clear c35b0
        try clear c35b1
        try clear c44
        try clear c44b0
        try clear c44b1
        try clear hx290_0
        try clear hx291_0
        try clear hx292_0
        try clear hx296_0
        try clear hx297_0
        try clear hx301_0
        try clear hx302_0
        try clear hx306_0
        try clear hx307_0
        try clear hx311_0
        try clear hx312_0
        try clear p2
        try clear p290
        try clear p291
        try clear p292
        try clear p296
        try clear p297
        try clear p301
        try clear p302
        try clear p306
        try clear p307
        try clear p311
        try clear p312
        try clear q290
        try clear q291
        try clear q292
        try clear q296
        try clear q297
        try clear q301
        try clear q302
        try clear q306
        try clear q307
        try clear q311
        try clear q312
        obtain ⟨kq, x101_26, rfl, HA, HJ26, HO_5, HO_7, HO_8, HB⟩ := hcut
        cases kq with
        | zero => exact absurd HA.out (by simp [selvedgelaw14_ExplicitPlain.j2])
        | succ kj26 =>
         have H := HA.out
         clear HA
         simp only [selvedgelaw14_ExplicitPlain.j2] at H
         by_cases c54 : x101_26 = true
         ·subst c54
          have H1 : (some false) = some r := by rw [if_pos rfl] at H; exact H
          clear H
          have H := H1
          clear H1
          obtain rfl := Option.some.inj H
          go_wp2
          repeat (go_quiet (fail); try go_wp2)
          go_ret
          exact ⟨by first | rfl | (simp [errW_none, errW_some] <;> rfl) | (simp [*, errW_none, errW_some] <;> rfl), mvB HB⟩
         ·replace c54 := Bool.eq_false_iff.mpr c54
          subst c54
          have H1 : (selvedgelaw14_ExplicitPlain.l1 kj26 x5_2 t316 t317 t318 0) = some r := by rw [if_neg (show ¬ (false = true) by decide)] at H; exact H
          clear H
          have H := H1
          clear H1
          have H' := Aside0.mk H
          clear H
          go_wp2
          repeat (go_quiet (fail); try go_wp2)
          go_loopg [11] kj26 (fun kq v11 w' => ∃ (x11_4 : Int), v11 = .int .i64 x11_4 ∧ Aside0 (selvedgelaw14_ExplicitPlain.l1 kq x5_2 t316 t317 t318 x11_4 = some r) ∧ Aside0 (kq ≤ kj26) ∧ Aside0 (Kd.R (Kd.int .u8) 26 w' w.heap.size (fun k_ => some k_ ≠ (v322 : Value).ownBlock) (.slice Ao28 x5_2.length co28) x5_2) ∧ Aside0 (Kd.R (Kd.int .u8) 5 w' w.heap.size (fun _ => True) v320 t316) ∧ Aside0 (Kd.R (Kd.int .u8) 26 w' w.heap.size (fun k_ => some k_ ≠ ((.slice Ao28 x5_2.length co28) : Value).ownBlock) v322 t317) ∧ Aside0 (Below w.heap.size w w'))
          case atStart => exact ⟨(0), (by first | rfl | (simp; done) | (simp [*]; done)), H', ⟨Nat.le_refl _⟩, ⟨mvR HO_5⟩, ⟨mvR HO_7⟩, ⟨mvR HO_8⟩, ⟨mvB HB⟩⟩
          case round =>
           clear H'
           try clear c1
           try clear c2
           try clear p2
           try clear q2
           try clear hx2
           try clear c3
           try clear p3
           try clear q3
           try clear hx3
           try clear c4
           try clear c4b0
           try clear c4b1
           try clear c5
           try clear p6
           try clear c8
           try clear c8b0
           try clear c9
           try clear c9b0
           try clear c10
           try clear c10b0
           try clear c11
           try clear c11b0
           try clear c12
           try clear c14
           try clear c14b0
           try clear c14b1
           try clear c15
           try clear c17
           try clear c17b0
           try clear c17b1
           try clear c18
           try clear c20
           try clear c20b0
           try clear c20b1
           try clear c21
           try clear c23
           try clear c23b0
           try clear c23b1
           try clear c24
           try clear p29
           try clear q29
           try clear hx29
           try clear c30
           try clear c30b0
           try clear c30b1
           try clear p30
           try clear q30
           try clear hx30
           try clear c31
           try clear c31b0
           try clear c31b1
           try clear c31b2
           try clear p31
           try clear q31
           try clear hx31
           try clear c32
           try clear c32b0
           try clear c32b1
           try clear c32b2
           try clear c33
           try clear c33b0
           try clear c34
           try clear c34b0
           try clear c34b1
           try clear c35
           try clear c35b0
           try clear c35b1
           try clear c44
           try clear c44b0
           try clear c44b1
           try clear c54
           try clear hx290_0
           try clear hx291_0
           try clear hx292_0
           try clear hx296_0
           try clear hx297_0
           try clear hx301_0
           try clear hx302_0
           try clear hx306_0
           try clear hx307_0
           try clear hx311_0
           try clear hx312_0
           try clear p2
           try clear p29
           try clear p290
           try clear p291
           try clear p292
           try clear p296
           try clear p297
           try clear p3
           try clear p30
           try clear p301
           try clear p302
           try clear p306
           try clear p307
           try clear p31
           try clear p311
           try clear p312
           try clear p6
           try clear q2
           try clear q29
           try clear q290
           try clear q291
           try clear q292
           try clear q296
           try clear q297
           try clear q3
           try clear q30
           try clear q301
           try clear q302
           try clear q306
           try clear q307
           try clear q31
           try clear q311
           try clear q312
           obtain ⟨x11_4, rfl, HA, HK4, HO_5, HO_7, HO_8, HB⟩ := hrel
           cases gk with
           | zero => exact absurd HA.out (by simp [selvedgelaw14_ExplicitPlain.l1])
           | succ k4 =>
            have H := HA.out
            clear HA
            simp only [selvedgelaw14_ExplicitPlain.l1] at H
            by_cases c55 : x11_4 < (x5_2.length : Int)
            ·rw [if_pos c55] at H
             have c55b0 : decide (x11_4 < (x5_2.length : Int)) = true := decide_eq_true c55
             clear c55
             by_cases c56 : 0 ≤ x11_4
             ·rw [if_pos c56] at H
              have c56b0 : decide (0 ≤ x11_4) = true := decide_eq_true c56
              clear c56
              by_cases c57 : x11_4 < (t316.length : Int)
              ·rw [if_pos c57] at H
               have c57b0 : decide (x11_4 < (t316.length : Int)) = true := decide_eq_true c57
               clear c57
               by_cases c58 : (rd t316 x11_4) = t318
               ·rw [if_pos c58] at H
                have c58b0 : ((rd t316 x11_4) == t318) = true := beq_iff_eq.mpr c58
                have c58b1 : ((rd t316 x11_4) != t318) = false := bne_eq_false_iff_eq.mpr c58
                clear c58
                by_cases c59 : (rd x5_2 x11_4) = 19
                ·rw [if_pos c59] at H
                 have c59b0 : ((rd x5_2 x11_4) == 19) = true := beq_iff_eq.mpr c59
                 have c59b1 : ((rd x5_2 x11_4) != 19) = false := bne_eq_false_iff_eq.mpr c59
                 clear c59
                 by_cases c60 : x11_4 < (t317.length : Int)
                 ·rw [if_pos c60] at H
                  have c60b0 : decide (x11_4 < (t317.length : Int)) = true := decide_eq_true c60
                  clear c60
                  by_cases c61 : (rd t317 x11_4) = 10
                  ·rw [if_pos c61] at H
                   have c61b0 : ((rd t317 x11_4) == 10) = true := beq_iff_eq.mpr c61
                   have c61b1 : ((rd t317 x11_4) != 10) = false := bne_eq_false_iff_eq.mpr c61
                   clear c61
                   have H' := Aside0.mk H
                   clear H
                   obtain ⟨Ao62, co62, eo62⟩ := Kd.R_slice HO_7.out
                   subst eo62
                   obtain ⟨ad326, e326, hx326_0, p326, q326⟩ := atI (Kd.R_reads' HO_7.out).2.2 x11_4
                   cases e326
                   obtain ⟨ad327, e327, hx327_0, p327, q327⟩ := atI (Kd.R_reads' HO_5.out).2.2 x11_4
                   cases e327
                   obtain ⟨Ao63, co63, eo63⟩ := Kd.R_slice HO_8.out
                   subst eo63
                   obtain ⟨ad328, e328, hx328_0, p328, q328⟩ := atI (Kd.R_reads' HO_8.out).2.2 x11_4
                   cases e328
                   obtain ⟨ad329, e329, hx329_0, p329, q329⟩ := atI (Kd.R_reads' HO_5.out).2.2 x11_4
                   obtain rfl : ad327 = ad329 := (by injection e329)
                   go_wp2
                   repeat (go_quiet (fail); try go_wp2)
                   go_roundg k4
                   case measure => have := HJ2.out; have := HK2.out; have := HJ26.out; have := HK4.out; omega
                   case rel => exact ⟨(wrap64 (x11_4 + 1)), (by first | rfl | (simp; done) | (simp [*]; done)), H', ⟨by have := HJ2.out; have := HK2.out; have := HJ26.out; have := HK4.out; omega⟩, ⟨mvR HO_5⟩, ⟨mvR HO_7⟩, ⟨mvR HO_8⟩, ⟨mvB HB⟩⟩
                  ·rw [if_neg c61] at H
                   have c61b0 : ((rd t317 x11_4) == 10) = false := beq_eq_false_iff_ne.mpr c61
                   have c61b1 : ((rd t317 x11_4) != 10) = true := bne_iff_ne.mpr c61
                   obtain rfl := Option.some.inj H
                   obtain ⟨Ao64, co64, eo64⟩ := Kd.R_slice HO_7.out
                   subst eo64
                   obtain ⟨ad326, e326, hx326_0, p326, q326⟩ := atI (Kd.R_reads' HO_7.out).2.2 x11_4
                   cases e326
                   obtain ⟨ad327, e327, hx327_0, p327, q327⟩ := atI (Kd.R_reads' HO_5.out).2.2 x11_4
                   cases e327
                   obtain ⟨Ao65, co65, eo65⟩ := Kd.R_slice HO_8.out
                   subst eo65
                   obtain ⟨ad328, e328, hx328_0, p328, q328⟩ := atI (Kd.R_reads' HO_8.out).2.2 x11_4
                   cases e328
                   go_wp2
                   repeat (go_quiet (fail); try go_wp2)
                   go_ret
                   exact ⟨by first | rfl | (simp [errW_none, errW_some] <;> rfl) | (simp [*, errW_none, errW_some] <;> rfl), mvB HB⟩
                 ·rw [if_neg c60] at H
                  exact absurd H (by simp)
                ·rw [if_neg c59] at H
                 have c59b0 : ((rd x5_2 x11_4) == 19) = false := beq_eq_false_iff_ne.mpr c59
                 have c59b1 : ((rd x5_2 x11_4) != 19) = true := bne_iff_ne.mpr c59
                 by_cases c66 : x11_4 < (t317.length : Int)
                 ·rw [if_pos c66] at H
                  have c66b0 : decide (x11_4 < (t317.length : Int)) = true := decide_eq_true c66
                  clear c66
                  by_cases c67 : (rd t317 x11_4) = (rd x5_2 x11_4)
                  ·rw [if_pos c67] at H
                   have c67b0 : ((rd t317 x11_4) == (rd x5_2 x11_4)) = true := beq_iff_eq.mpr c67
                   have c67b1 : ((rd t317 x11_4) != (rd x5_2 x11_4)) = false := bne_eq_false_iff_eq.mpr c67
                   clear c67
                   have H' := Aside0.mk H
                   clear H
                   obtain ⟨Ao68, co68, eo68⟩ := Kd.R_slice HO_7.out
                   subst eo68
                   obtain ⟨ad326, e326, hx326_0, p326, q326⟩ := atI (Kd.R_reads' HO_7.out).2.2 x11_4
                   cases e326
                   obtain ⟨ad327, e327, hx327_0, p327, q327⟩ := atI (Kd.R_reads' HO_5.out).2.2 x11_4
                   cases e327
                   obtain ⟨ad330, e330, hx330_0, p330, q330⟩ := atI (Kd.R_reads' HO_5.out).2.2 x11_4
                   obtain rfl : ad327 = ad330 := (by injection e330)
                   obtain ⟨Ao69, co69, eo69⟩ := Kd.R_slice HO_8.out
                   subst eo69
                   obtain ⟨ad331, e331, hx331_0, p331, q331⟩ := atI (Kd.R_reads' HO_8.out).2.2 x11_4
                   cases e331
                   obtain ⟨ad332, e332, hx332_0, p332, q332⟩ := atI (Kd.R_reads' HO_5.out).2.2 x11_4
                   obtain rfl : ad327 = ad332 := (by injection e332)
                   go_wp2
                   repeat (go_quiet (fail); try go_wp2)
                   go_roundg k4
                   case measure => have := HJ2.out; have := HK2.out; have := HJ26.out; have := HK4.out; omega
                   case rel => exact ⟨(wrap64 (x11_4 + 1)), (by first | rfl | (simp; done) | (simp [*]; done)), H', ⟨by have := HJ2.out; have := HK2.out; have := HJ26.out; have := HK4.out; omega⟩, ⟨mvR HO_5⟩, ⟨mvR HO_7⟩, ⟨mvR HO_8⟩, ⟨mvB HB⟩⟩
                  ·rw [if_neg c67] at H
                   have c67b0 : ((rd t317 x11_4) == (rd x5_2 x11_4)) = false := beq_eq_false_iff_ne.mpr c67
                   have c67b1 : ((rd t317 x11_4) != (rd x5_2 x11_4)) = true := bne_iff_ne.mpr c67
                   obtain rfl := Option.some.inj H
                   obtain ⟨Ao70, co70, eo70⟩ := Kd.R_slice HO_7.out
                   subst eo70
                   obtain ⟨ad326, e326, hx326_0, p326, q326⟩ := atI (Kd.R_reads' HO_7.out).2.2 x11_4
                   cases e326
                   obtain ⟨ad327, e327, hx327_0, p327, q327⟩ := atI (Kd.R_reads' HO_5.out).2.2 x11_4
                   cases e327
                   obtain ⟨ad330, e330, hx330_0, p330, q330⟩ := atI (Kd.R_reads' HO_5.out).2.2 x11_4
                   obtain rfl : ad327 = ad330 := (by injection e330)
                   obtain ⟨Ao71, co71, eo71⟩ := Kd.R_slice HO_8.out
                   subst eo71
                   obtain ⟨ad331, e331, hx331_0, p331, q331⟩ := atI (Kd.R_reads' HO_8.out).2.2 x11_4
                   cases e331
                   obtain ⟨ad332, e332, hx332_0, p332, q332⟩ := atI (Kd.R_reads' HO_5.out).2.2 x11_4
                   obtain rfl : ad327 = ad332 := (by injection e332)
                   go_wp2
                   repeat (go_quiet (fail); try go_wp2)
                   go_ret
                   exact ⟨by first | rfl | (simp [errW_none, errW_some] <;> rfl) | (simp [*, errW_none, errW_some] <;> rfl), mvB HB⟩
                 ·rw [if_neg c66] at H
                  exact absurd H (by simp)
               ·rw [if_neg c58] at H
                have c58b0 : ((rd t316 x11_4) == t318) = false := beq_eq_false_iff_ne.mpr c58
                have c58b1 : ((rd t316 x11_4) != t318) = true := bne_iff_ne.mpr c58
                obtain rfl := Option.some.inj H
                obtain ⟨Ao72, co72, eo72⟩ := Kd.R_slice HO_7.out
                subst eo72
                obtain ⟨ad326, e326, hx326_0, p326, q326⟩ := atI (Kd.R_reads' HO_7.out).2.2 x11_4
                cases e326
                go_wp2
                repeat (go_quiet (fail); try go_wp2)
                go_ret
                exact ⟨by first | rfl | (simp [errW_none, errW_some] <;> rfl) | (simp [*, errW_none, errW_some] <;> rfl), mvB HB⟩
              ·rw [if_neg c57] at H
               exact absurd H (by simp)
             ·rw [if_neg c56] at H
              exact absurd H (by simp)
            ·rw [if_neg c55] at H
             have c55b0 : decide (x11_4 < (x5_2.length : Int)) = false := decide_eq_false c55
             clear c55
             replace H := Option.bind_eq_some_iff.mp H
             obtain ⟨t333, A730, H⟩ := H
             replace H : (some t333) = some r := H
             have A73 := Aside0.mk A730
             clear A730
             obtain rfl := Option.some.inj H
             go_wp2_with (first | (go_at_call 10; (with_reducible refine (selvedgelaw14_works.calls k4  t333 _ A73.out).mono ?_); rintro e w74 ⟨rfl, hb⟩; have n0_ := Aside0.mk (Kd.R_below (mvR HO_5) hb); have n1_ := Aside0.mk (Kd.R_below (mvR HO_7) hb); have n2_ := Aside0.mk (Kd.R_below (mvR HO_8) hb); have n3_ := Aside0.mk (below_step (mvB HB) hb); clear HO_5; clear HO_7; clear HO_8; clear HB; have HO_5 := n0_; have HO_7 := n1_; have HO_8 := n2_; have HB := n3_; clear n0_ n1_ n2_ n3_; (try clear hb); (try clear hb2); (try clear hk); (try clear hi)))
             repeat (go_quiet (first | (go_at_call 10; (with_reducible refine (selvedgelaw14_works.calls k4  t333 _ A73.out).mono ?_); rintro e w74 ⟨rfl, hb⟩; have n0_ := Aside0.mk (Kd.R_below (mvR HO_5) hb); have n1_ := Aside0.mk (Kd.R_below (mvR HO_7) hb); have n2_ := Aside0.mk (Kd.R_below (mvR HO_8) hb); have n3_ := Aside0.mk (below_step (mvB HB) hb); clear HO_5; clear HO_7; clear HO_8; clear HB; have HO_5 := n0_; have HO_7 := n1_; have HO_8 := n2_; have HB := n3_; clear n0_ n1_ n2_ n3_; (try clear hb); (try clear hb2); (try clear hk); (try clear hi))); try go_wp2_with (first | (go_at_call 10; (with_reducible refine (selvedgelaw14_works.calls k4  t333 _ A73.out).mono ?_); rintro e w74 ⟨rfl, hb⟩; have n0_ := Aside0.mk (Kd.R_below (mvR HO_5) hb); have n1_ := Aside0.mk (Kd.R_below (mvR HO_7) hb); have n2_ := Aside0.mk (Kd.R_below (mvR HO_8) hb); have n3_ := Aside0.mk (below_step (mvB HB) hb); clear HO_5; clear HO_7; clear HO_8; clear HB; have HO_5 := n0_; have HO_7 := n1_; have HO_8 := n2_; have HB := n3_; clear n0_ n1_ n2_ n3_; (try clear hb); (try clear hb2); (try clear hk); (try clear hi))))
             go_ret
             exact ⟨by first | rfl | (simp [errW_none, errW_some] <;> rfl) | (simp [*, errW_none, errW_some] <;> rfl), mvB HB⟩

/-- THE ONE PURE STATEMENT of selvedgelaw14_ExplicitPlain: yours. -/
def selvedgelaw14_ExplicitPlain.Pure : Prop := ∀ (l0 : List Int) (a1 : Int), l0.length ≤ maxLen → l0.length * 1 ≤ 140737488351232 → (∀ x ∈ l0, (Lit.int .u8 x).wf = true) → (Lit.int .u8 a1).wf = true → ∃ k, selvedgelaw14_ExplicitPlain.f k l0 a1 = some true
theorem selvedgelaw14_ExplicitPlain.walk (P : selvedgelaw14_ExplicitPlain.Pure) (a0 : Option Addr) (len0 cap0 : Nat) (z0 : List Int) (a1 : Int) (w : World) (w0 : (a0 = none ∧ len0 = 0 ∧ cap0 = 0 ∧ z0 = []) ∨ ∃ x, a0 = some x ∧ len0 ≤ cap0 ∧ cap0 ≤ maxLen ∧ z0.length = cap0 ∧ (∀ i, i < z0.length → w.cell? (x.add i) = some (.int .u8 (z0.getD i 0))) ∧ ∀ n ∈ z0, (Lit.int .u8 n).wf = true) (y0 : len0 * 1 ≤ 140737488351232) (w1 : (Lit.int .u8 a1).wf = true) :
  Calls Try.prog 8 #[.slice a0 len0 cap0, .int .u8 a1] w fun e w' => e = .returned (.bool true) ∧ Below w.heap.size w w' := by
 obtain ⟨l0, rfl, hr0, hm0, hw0, hc0⟩ := ReadsInt.ofRowC w0
 obtain ⟨k, h⟩ := P l0 a1 hm0 y0 hw0 w1
 refine (selvedgelaw14_ExplicitPlain.calls k _ _ l0 a1 true w (Kd.C_of_reads (d := (0 : Int)) (h1 := fun _ => rfl) hr0) hc0 h).mono ?_
 rintro e w' ⟨rfl, hd⟩
 exact ⟨rfl, hd⟩

end Go.Proofs.Ytdkbkecnhebanaa.X
