-- by xprint.py: the kit's printer over texts of this session
import Derived.Test.YtiogpnefnapfeaaDoorX0
import Derived.Test.YtiogpnefnapfeaaDoorX1
import Derived.Test.YtiogpnefnapfeaaDoorX1b
import Derived.Test.YtiogpnefnapfeaaDoorX2
import Derived.Test.YtiogpnefnapfeaaDoorX4
import Derived.Test.YtiogpnefnapfeaaDoorT3
import Derived.Test.YtiogpnefnapfeaaDoorT4
namespace Go.Proofs.YtiogpnefnapfeaaDoor.X
open Go.RowKit Go.Proofs.YtiogpnefnapfeaaDoorW.PrintWords Go.Proofs.YtiogpnefnapfeaaDoorW.PrintLast Go.Proofs.YtiogpnefnapfeaaDoorW.PrintMore
attribute [local go_sem] max2_int min2_int max_two min_two max_three min_three max_four min_four   -- for this text's walks alone
set_option linter.unusedVariables false
set_option linter.unusedSimpArgs false

/-! ### selvedgelaw17_PairsPlain: function 6 -/
mutual
def selvedgelaw17_PairsPlain.j0 : Nat → List Int → List Int → List Int → Int → Int → Bool → Option (Bool)
 | 0, _, _, _, _, _, _ => none
 | k + 1, x0, x1, x2, x3, x4, x38 => if x38 = true then ((selvedgelaw17_works.f k).bind fun t272 => (some t272)) else (selvedgelaw17_PairsPlain.l0 k x0 x1 x2 x3 x4 ([] : List Int) ([] : List Int) 0)
def selvedgelaw17_PairsPlain.l0 : Nat → List Int → List Int → List Int → Int → Int → List Int → List Int → Int → Option (Bool)
 | 0, _, _, _, _, _, _, _, _ => none
 | k + 1, x0, x1, x2, x3, x4, x11, x12, x13 => if x13 < (x0.length : Int) then (if 0 ≤ x13 then ((selvedgeref01_Bracket.f k (rd x0 x13)).bind fun bt274 => (if bt274.2.2 = true then (if x11.length < 35184372088832 then ((some (x11 ++ [97] : List Int)).bind fun y277 => (if x13 < (x2.length : Int) then ((selvedgeref17_Side.f (rd x2 x13)).bind fun t281 => (if t281 = 0 then (if x12.length < 140737488355328 then (selvedgelaw17_PairsPlain.l0 k x0 x1 x2 x3 x4 y277 (x12 ++ [rd x2 x13]) (wrap64 (x13 + 1))) else (none)) else (if x12.length < 140737488355328 then (selvedgelaw17_PairsPlain.l0 k x0 x1 x2 x3 x4 y277 (x12 ++ [13]) (wrap64 (x13 + 1))) else (none)))) else (none))) else (none)) else (if x11.length < 35184372088832 then ((some (x11 ++ [rd x0 x13] : List Int)).bind fun y289 => (if x13 < (x2.length : Int) then ((selvedgeref17_Side.f (rd x2 x13)).bind fun t293 => (if t293 = 0 then (if x12.length < 140737488355328 then (selvedgelaw17_PairsPlain.l0 k x0 x1 x2 x3 x4 y289 (x12 ++ [rd x2 x13]) (wrap64 (x13 + 1))) else (none)) else (if x12.length < 140737488355328 then (selvedgelaw17_PairsPlain.l0 k x0 x1 x2 x3 x4 y289 (x12 ++ [13]) (wrap64 (x13 + 1))) else (none)))) else (none))) else (none)))) else (none)) else ((pairs_Resolve.f x11 x1 x2 x3 x4).bind fun bt300 => ((pairs_Resolve.f x0 x1 x12 x3 x4).bind fun bt304 => (if bt300.2 = 0 then (if bt304.2 = 0 then ((selvedgelaw17_is.f k bt300.1 x2).bind fun t308 => (if t308 = true then ((selvedgelaw17_is.f k bt304.1 x12).bind fun t309 => (if t309 = true then ((pairs_Pairs.f x11 x2).bind fun t310 => (if (t310.length : Int) = 0 then ((selvedgelaw17_works.f k).bind fun t313 => (some t313)) else (some false))) else (some false))) else (some false))) else (some false)) else (some false))))
end
def selvedgelaw17_PairsPlain.f (k : Nat) (l0 : List Int) (l1 : List Int) (l2 : List Int) (a3 : Int) (a4 : Int) : Option (Bool) := if (l0.length : Int) > 800 then (selvedgelaw17_PairsPlain.j0 k l0 l1 l2 a3 a4 true) else (if (l1.length : Int) = (l0.length : Int) then (selvedgelaw17_PairsPlain.j0 k l0 l1 l2 a3 a4 ((l2.length : Int) != (l0.length : Int))) else (selvedgelaw17_PairsPlain.j0 k l0 l1 l2 a3 a4 true))
theorem selvedgelaw17_PairsPlain.mono_l : ∀ k, (∀ y0 y1 y2 y3 y4 y5, LeO (selvedgelaw17_PairsPlain.j0 k y0 y1 y2 y3 y4 y5) (selvedgelaw17_PairsPlain.j0 (k + 1) y0 y1 y2 y3 y4 y5)) ∧ (∀ y0 y1 y2 y3 y4 y5 y6 y7, LeO (selvedgelaw17_PairsPlain.l0 k y0 y1 y2 y3 y4 y5 y6 y7) (selvedgelaw17_PairsPlain.l0 (k + 1) y0 y1 y2 y3 y4 y5 y6 y7))
 | 0 => ⟨fun _ _ _ _ _ _ r h => by simp [selvedgelaw17_PairsPlain.j0] at h, fun _ _ _ _ _ _ _ _ r h => by simp [selvedgelaw17_PairsPlain.l0] at h⟩
 | k + 1 => by
  obtain ⟨ih0, ih1⟩ := selvedgelaw17_PairsPlain.mono_l k
  refine ⟨?_, ?_⟩
  ·intro y0 y1 y2 y3 y4 y5
   unfold selvedgelaw17_PairsPlain.j0
   repeat' first
   | (with_reducible exact ih0 _ _ _ _ _ _)
   | (with_reducible exact ih1 _ _ _ _ _ _ _ _)
   | (with_reducible exact selvedgelaw17_is.mono _ _ _)
   | (with_reducible exact selvedgelaw17_works.mono _)
   | (with_reducible exact selvedgeref01_Bracket.mono _ _)
   | (with_reducible exact LeO.refl _)
   | (with_reducible exact LeO.none _)
   | (with_reducible refine LeO.ite ?_ ?_)
   | (with_reducible refine LeO.bind ?_ (fun _ => ?_))
   | exact ih0 _ _ _ _ _ _
   | exact ih1 _ _ _ _ _ _ _ _
   | exact selvedgelaw17_is.mono _ _ _
   | exact selvedgelaw17_works.mono _
   | exact selvedgeref01_Bracket.mono _ _
   | exact LeO.none _
   | refine LeO.ite ?_ ?_
   | refine LeO.bind ?_ (fun _ => ?_)
  ·intro y0 y1 y2 y3 y4 y5 y6 y7
   unfold selvedgelaw17_PairsPlain.l0
   repeat' first
   | (with_reducible exact ih0 _ _ _ _ _ _)
   | (with_reducible exact ih1 _ _ _ _ _ _ _ _)
   | (with_reducible exact selvedgelaw17_is.mono _ _ _)
   | (with_reducible exact selvedgelaw17_works.mono _)
   | (with_reducible exact selvedgeref01_Bracket.mono _ _)
   | (with_reducible exact LeO.refl _)
   | (with_reducible exact LeO.none _)
   | (with_reducible refine LeO.ite ?_ ?_)
   | (with_reducible refine LeO.bind ?_ (fun _ => ?_))
   | exact ih0 _ _ _ _ _ _
   | exact ih1 _ _ _ _ _ _ _ _
   | exact selvedgelaw17_is.mono _ _ _
   | exact selvedgelaw17_works.mono _
   | exact selvedgeref01_Bracket.mono _ _
   | exact LeO.none _
   | refine LeO.ite ?_ ?_
   | refine LeO.bind ?_ (fun _ => ?_)
theorem selvedgelaw17_PairsPlain.mono : ∀ a0 a1 a2 a3 a4 k, LeO (selvedgelaw17_PairsPlain.f k a0 a1 a2 a3 a4) (selvedgelaw17_PairsPlain.f (k + 1) a0 a1 a2 a3 a4) := by
 intro a0 a1 a2 a3 a4 k
 obtain ⟨ih0, ih1⟩ := selvedgelaw17_PairsPlain.mono_l k
 unfold selvedgelaw17_PairsPlain.f
 repeat' first
   | (with_reducible exact ih0 _ _ _ _ _ _)
   | (with_reducible exact ih1 _ _ _ _ _ _ _ _)
   | (with_reducible exact selvedgelaw17_is.mono _ _ _)
   | (with_reducible exact selvedgelaw17_works.mono _)
   | (with_reducible exact selvedgeref01_Bracket.mono _ _)
   | (with_reducible exact LeO.refl _)
   | (with_reducible exact LeO.none _)
   | (with_reducible refine LeO.ite ?_ ?_)
   | (with_reducible refine LeO.bind ?_ (fun _ => ?_))
   | exact ih0 _ _ _ _ _ _
   | exact ih1 _ _ _ _ _ _ _ _
   | exact selvedgelaw17_is.mono _ _ _
   | exact selvedgelaw17_works.mono _
   | exact selvedgeref01_Bracket.mono _ _
   | exact LeO.none _
   | refine LeO.ite ?_ ?_
   | refine LeO.bind ?_ (fun _ => ?_)
set_option maxHeartbeats 8000000 in
set_option maxRecDepth 100000 in
theorem selvedgelaw17_PairsPlain.calls (k : Nat) (A0 : Option Addr) (c0 : Nat) (l0 : List Int) (A1 : Option Addr) (c1 : Nat) (l1 : List Int) (A2 : Option Addr) (c2 : Nat) (l2 : List Int) (a3 : Int) (a4 : Int) (r : Bool) (w : World) (hr0 : Kd.C (Kd.int .i32) w A0 l0.length l0) (hc0 : l0.length ≤ c0) (hr1 : Kd.C (Kd.int .u8) w A1 l1.length l1) (hc1 : l1.length ≤ c1) (hr2 : Kd.C (Kd.int .u8) w A2 l2.length l2) (hc2 : l2.length ≤ c2) (h : selvedgelaw17_PairsPlain.f k l0 l1 l2 a3 a4 = some r) (hT : Tabs w) :
  Calls Tryd.prog 6 #[.slice A0 l0.length c0, .slice A1 l1.length c1, .slice A2 l2.length c2, .int .u8 a3, .int .u8 a4] w fun e w' => e = .returned (.bool r) ∧ Below w.heap.size w w' := by
 have HT := Aside0.mk hT
 clear hT
 have HR0 := Aside0.mk hr0
 have HC0 := Aside0.mk hc0
 clear hr0 hc0
 have HR1 := Aside0.mk hr1
 have HC1 := Aside0.mk hc1
 clear hr1 hc1
 have HR2 := Aside0.mk hr2
 have HC2 := Aside0.mk hc2
 clear hr2 hc2
 have HB := Aside0.mk (Below.refl w.heap.size w)
 have H : (if (l0.length : Int) > 800 then (selvedgelaw17_PairsPlain.j0 k l0 l1 l2 a3 a4 true) else (if (l1.length : Int) = (l0.length : Int) then (selvedgelaw17_PairsPlain.j0 k l0 l1 l2 a3 a4 ((l2.length : Int) != (l0.length : Int))) else (selvedgelaw17_PairsPlain.j0 k l0 l1 l2 a3 a4 true))) = some r := h
 clear h
 have HC6 := Aside0.mk H
 clear H
 go_enter Tryd.func6, Tryd.ntmps6
 go_upto_region 1 with (fail)
 go_cut [38] (fun v38 wc => ∃ (kq : Nat) (x38_5 : Bool), v38 = .bool x38_5 ∧ Aside0 (selvedgelaw17_PairsPlain.j0 kq l0 l1 l2 a3 a4 x38_5 = some r) ∧ Aside0 (kq ≤ k) ∧ Aside0 (Below w.heap.size w wc))
 case first =>
  have H := HC6.out
  clear HC6
  by_cases c7 : (l0.length : Int) > 800
  ·rw [if_pos c7] at H
   have c7b0 : decide (800 < (l0.length : Int)) = true := decide_eq_true c7
   have c7b1 : decide (800 < l0.length) = true := decide_eq_true (by omega)
   clear c7
   (first | rw [c7b0] | (simp only [i64_w, i32_w]; rw [c7b0]) | skip)
   have H' := Aside0.mk H
   clear H
   go_wp2
   go_meet
   case rel => exact ⟨_, (true), (by first | rfl | (simp; done) | (simp [*]; done)), H', ⟨by first | omega | exact Nat.le_refl _⟩, ⟨mvB HB⟩⟩
  ·rw [if_neg c7] at H
   have c7b0 : decide (800 < (l0.length : Int)) = false := decide_eq_false c7
   have c7b1 : decide (800 < l0.length) = false := decide_eq_false (by omega)
   clear c7
   (first | rw [c7b0] | (simp only [i64_w, i32_w]; rw [c7b0]) | skip)
   by_cases c8 : (l1.length : Int) = (l0.length : Int)
   ·rw [if_pos c8] at H
    have c8b0 : ((l1.length : Int) == (l0.length : Int)) = true := beq_iff_eq.mpr c8
    have c8b1 : ((l1.length : Int) != (l0.length : Int)) = false := bne_eq_false_iff_eq.mpr c8
    have c8b2 : (l1.length == l0.length) = true := by first | simpa using c8 | (simp at c8 ⊢; omega)
    clear c8
    have H' := Aside0.mk H
    clear H
    go_wp2
    go_meet
    case rel => exact ⟨_, (((l2.length : Int) != (l0.length : Int))), (by first | rfl | (simp; done) | (simp [*]; done)), H', ⟨by first | omega | exact Nat.le_refl _⟩, ⟨mvB HB⟩⟩
   ·rw [if_neg c8] at H
    have c8b0 : ((l1.length : Int) == (l0.length : Int)) = false := beq_eq_false_iff_ne.mpr c8
    have c8b1 : ((l1.length : Int) != (l0.length : Int)) = true := bne_iff_ne.mpr c8
    have c8b2 : (l1.length == l0.length) = false := by first | simpa using c8 | (simp at c8 ⊢; omega)
    have H' := Aside0.mk H
    clear H
    go_wp2
    go_meet
    case rel => exact ⟨_, (true), (by first | rfl | (simp; done) | (simp [*]; done)), H', ⟨by first | omega | exact Nat.le_refl _⟩, ⟨mvB HB⟩⟩
 case rest =>
  clear HC6
  try clear c1
  try clear c2
  try clear p2
  try clear c6
  try clear c7
  try clear c7b0
  try clear c7b1
  try clear c8
  try clear c8b0
  try clear c8b1
  try clear c8b2
  obtain ⟨kq, x38_5, rfl, HA, HJ5, HB⟩ := hcut
  cases kq with
  | zero => exact absurd HA.out (by simp [selvedgelaw17_PairsPlain.j0])
  | succ kj5 =>
   have H := HA.out
   clear HA
   simp only [selvedgelaw17_PairsPlain.j0] at H
   by_cases c9 : x38_5 = true
   ·subst c9
    have H1 : ((selvedgelaw17_works.f kj5).bind fun t272 => (some t272)) = some r := by rw [if_pos rfl] at H; exact H
    clear H
    have H := H1
    clear H1
    replace H := Option.bind_eq_some_iff.mp H
    obtain ⟨t272, A100, H⟩ := H
    replace H : (some t272) = some r := H
    have A10 := Aside0.mk A100
    clear A100
    obtain rfl := Option.some.inj H
    go_wp2_with (first | ((with_reducible refine gate_callee (f := 8) rfl ?_); refine goesL_ (some 39) rfl rfl Tryd.func8 (by kernel_rfl) rfl #[] rfl (by (try simp only [List.map_toArray, List.map_cons, List.map_nil]); first | done | rfl | (simp only [List.length_drop, List.length_take]; rfl)) ?_; (with_reducible refine (selvedgelaw17_works.calls kj5  t272 _ A10.out (by exact HT.out.below (mvB HB))).mono ?_); rintro e w11 ⟨rfl, hb⟩; refine ⟨_, rfl, ?_⟩; have n0_ := Aside0.mk (below_step (mvB HB) hb); clear HB; have HB := n0_; clear n0_; (try clear hb); (try clear hb2); (try clear hk); (try clear hi)))
    go_ret
    exact ⟨by first | rfl | (simp [errW_none, errW_some] <;> rfl) | (simp [*, errW_none, errW_some] <;> rfl), mvB HB⟩
   ·replace c9 := Bool.eq_false_iff.mpr c9
    subst c9
    have H1 : (selvedgelaw17_PairsPlain.l0 kj5 l0 l1 l2 a3 a4 ([] : List Int) ([] : List Int) 0) = some r := by rw [if_neg (show ¬ (false = true) by decide)] at H; exact H
    clear H
    have H := H1
    clear H1
    have H' := Aside0.mk H
    clear H
    go_wp2
    go_loopg [11, 12, 13] kj5 (fun kq v11 v12 v13 w' => ∃ (x11_2 : List Int) (x12_2 : List Int) (x13_2 : Int), v13 = .int .i64 x13_2 ∧ Aside0 (selvedgelaw17_PairsPlain.l0 kq l0 l1 l2 a3 a4 x11_2 x12_2 x13_2 = some r) ∧ Aside0 (kq ≤ kj5) ∧ Aside0 (Kd.R (Kd.int .i32) 21 w' w.heap.size (fun _ => True) v11 x11_2) ∧ Aside0 (Kd.R (Kd.int .u8) 33 w' w.heap.size (fun _ => True) v12 x12_2) ∧ Aside0 (Below w.heap.size w w'))
    case atStart => exact ⟨(([] : List Int)), (([] : List Int)), (0), (by first | rfl | (simp; done) | (simp [*]; done)), H', ⟨Nat.le_refl _⟩, ⟨by first | exact Kd.R_nil _ _ _ _ _ | exact Kd.N_nil _ _ _ _ _ | exact Kd.V_nil _ _ _ _ _ | exact Kd.Q_nil _ _ _ _ _ | exact Kd.S_nil _ _ _ _ _⟩, ⟨by first | exact Kd.R_nil _ _ _ _ _ | exact Kd.N_nil _ _ _ _ _ | exact Kd.V_nil _ _ _ _ _ | exact Kd.Q_nil _ _ _ _ _ | exact Kd.S_nil _ _ _ _ _⟩, ⟨mvB HB⟩⟩
    case round =>
     clear H'
     try clear c1
     try clear c2
     try clear p2
     try clear c6
     try clear c7
     try clear c7b0
     try clear c7b1
     try clear c8
     try clear c8b0
     try clear c8b1
     try clear c8b2
     try clear c9
     try clear p2
     obtain ⟨x11_2, x12_2, x13_2, rfl, HA, HK2, HO_11, HO_12, HB⟩ := hrel
     cases gk with
     | zero => exact absurd HA.out (by simp [selvedgelaw17_PairsPlain.l0])
     | succ k2 =>
      have H := HA.out
      clear HA
      simp only [selvedgelaw17_PairsPlain.l0] at H
      by_cases c12 : x13_2 < (l0.length : Int)
      ·rw [if_pos c12] at H
       have c12b0 : decide (x13_2 < (l0.length : Int)) = true := decide_eq_true c12
       clear c12
       by_cases c13 : 0 ≤ x13_2
       ·rw [if_pos c13] at H
        have c13b0 : decide (0 ≤ x13_2) = true := decide_eq_true c13
        clear c13
        replace H := Option.bind_eq_some_iff.mp H
        obtain ⟨⟨t274, t275, t276⟩, A140, H⟩ := H
        replace H : (if t276 = true then (if x11_2.length < 35184372088832 then ((some (x11_2 ++ [97] : List Int)).bind fun y277 => (if x13_2 < (l2.length : Int) then ((selvedgeref17_Side.f (rd l2 x13_2)).bind fun t281 => (if t281 = 0 then (if x12_2.length < 140737488355328 then (selvedgelaw17_PairsPlain.l0 k2 l0 l1 l2 a3 a4 y277 (x12_2 ++ [rd l2 x13_2]) (wrap64 (x13_2 + 1))) else (none)) else (if x12_2.length < 140737488355328 then (selvedgelaw17_PairsPlain.l0 k2 l0 l1 l2 a3 a4 y277 (x12_2 ++ [13]) (wrap64 (x13_2 + 1))) else (none)))) else (none))) else (none)) else (if x11_2.length < 35184372088832 then ((some (x11_2 ++ [rd l0 x13_2] : List Int)).bind fun y289 => (if x13_2 < (l2.length : Int) then ((selvedgeref17_Side.f (rd l2 x13_2)).bind fun t293 => (if t293 = 0 then (if x12_2.length < 140737488355328 then (selvedgelaw17_PairsPlain.l0 k2 l0 l1 l2 a3 a4 y289 (x12_2 ++ [rd l2 x13_2]) (wrap64 (x13_2 + 1))) else (none)) else (if x12_2.length < 140737488355328 then (selvedgelaw17_PairsPlain.l0 k2 l0 l1 l2 a3 a4 y289 (x12_2 ++ [13]) (wrap64 (x13_2 + 1))) else (none)))) else (none))) else (none))) = some r := H
        have A14 := Aside0.mk A140
        clear A140
        by_cases c15 : t276 = true
        ·subst c15
         have H1 : (if x11_2.length < 35184372088832 then ((some (x11_2 ++ [97] : List Int)).bind fun y277 => (if x13_2 < (l2.length : Int) then ((selvedgeref17_Side.f (rd l2 x13_2)).bind fun t281 => (if t281 = 0 then (if x12_2.length < 140737488355328 then (selvedgelaw17_PairsPlain.l0 k2 l0 l1 l2 a3 a4 y277 (x12_2 ++ [rd l2 x13_2]) (wrap64 (x13_2 + 1))) else (none)) else (if x12_2.length < 140737488355328 then (selvedgelaw17_PairsPlain.l0 k2 l0 l1 l2 a3 a4 y277 (x12_2 ++ [13]) (wrap64 (x13_2 + 1))) else (none)))) else (none))) else (none)) = some r := by rw [if_pos rfl] at H; exact H
         clear H
         have H := H1
         clear H1
         by_cases c16 : x11_2.length < 35184372088832
         ·rw [if_pos c16] at H
          have LMc16 := Aside0.mk c16
          clear c16
          obtain ⟨y277, hy277⟩ : ∃ y_ : List Int, y_ = (x11_2 ++ [97]) := ⟨_, rfl⟩
          replace H : (if x13_2 < (l2.length : Int) then ((selvedgeref17_Side.f (rd l2 x13_2)).bind fun t281 => (if t281 = 0 then (if x12_2.length < 140737488355328 then (selvedgelaw17_PairsPlain.l0 k2 l0 l1 l2 a3 a4 y277 (x12_2 ++ [rd l2 x13_2]) (wrap64 (x13_2 + 1))) else (none)) else (if x12_2.length < 140737488355328 then (selvedgelaw17_PairsPlain.l0 k2 l0 l1 l2 a3 a4 y277 (x12_2 ++ [13]) (wrap64 (x13_2 + 1))) else (none)))) else (none)) = some r := by first | (rw [hy277]; with_reducible exact H) | (have H2_ := (Option.bind_some _ _).symm.trans H; rw [hy277]; with_reducible exact H2_) | (have H2_ := (Option.bind_some _ _).symm.trans H; with_reducible exact H2_) | with_reducible exact H | (rw [hy277]; exact H) | exact H
          have Ny277 := Aside0.mk hy277
          clear hy277
          by_cases c17 : x13_2 < (l2.length : Int)
          ·rw [if_pos c17] at H
           have c17b0 : decide (x13_2 < (l2.length : Int)) = true := decide_eq_true c17
           clear c17
           replace H := Option.bind_eq_some_iff.mp H
           obtain ⟨t281, A180, H⟩ := H
           replace H : (if t281 = 0 then (if x12_2.length < 140737488355328 then (selvedgelaw17_PairsPlain.l0 k2 l0 l1 l2 a3 a4 y277 (x12_2 ++ [rd l2 x13_2]) (wrap64 (x13_2 + 1))) else (none)) else (if x12_2.length < 140737488355328 then (selvedgelaw17_PairsPlain.l0 k2 l0 l1 l2 a3 a4 y277 (x12_2 ++ [13]) (wrap64 (x13_2 + 1))) else (none))) = some r := H
           have A18 := Aside0.mk A180
           clear A180
           by_cases c19 : t281 = 0
           ·rw [if_pos c19] at H
            have c19b0 : (t281 == 0) = true := beq_iff_eq.mpr c19
            have c19b1 : (t281 != 0) = false := bne_eq_false_iff_eq.mpr c19
            clear c19
            by_cases c20 : x12_2.length < 140737488355328
            ·rw [if_pos c20] at H
             have LMc20 := Aside0.mk c20
             clear c20
             obtain ⟨y282, hy282⟩ : ∃ y_ : List Int, y_ = (x12_2 ++ [rd l2 x13_2]) := ⟨_, rfl⟩
             replace H : (selvedgelaw17_PairsPlain.l0 k2 l0 l1 l2 a3 a4 y277 y282 (wrap64 (x13_2 + 1))) = some r := by first | (rw [hy282]; with_reducible exact H) | (have H2_ := (Option.bind_some _ _).symm.trans H; rw [hy282]; with_reducible exact H2_) | (have H2_ := (Option.bind_some _ _).symm.trans H; with_reducible exact H2_) | with_reducible exact H | (rw [hy282]; exact H) | exact H
             have Ny282 := Aside0.mk hy282
             clear hy282
             have H' := Aside0.mk H
             clear H
             obtain ⟨ad273, e273, hx273_0, p273, q273⟩ := atI HR0.out x13_2
             cases e273
             replace hx273_0 := (HB.out.cell (World.block_lt_of_cell? w _ hx273_0)).trans hx273_0
             go_wp2_with (first | ((with_reducible refine gate_callee (f := 14) rfl ?_); refine goesL_ (some 51) rfl rfl Tryd.func14 (by kernel_rfl) rfl #[.int .i32 (rd l0 x13_2)] rfl (by (try simp only [List.map_toArray, List.map_cons, List.map_nil]); first | done | rfl | (simp only [List.length_drop, List.length_take]; rfl)) ?_; (with_reducible refine (selvedgeref01_Bracket.calls k2 (rd l0 x13_2) t274 t275 true _ A14.out).mono ?_); rintro e w21 ⟨rfl, hb⟩; refine ⟨_, rfl, ?_⟩; have n0_ := Aside0.mk (Kd.R_below (mvR HO_11) hb); have n1_ := Aside0.mk (Kd.R_below (mvR HO_12) hb); have n2_ := Aside0.mk (below_step (mvB HB) hb); clear HO_11; clear HO_12; clear HB; have HO_11 := n0_; have HO_12 := n1_; have HB := n2_; clear n0_ n1_ n2_; (try clear hb); (try clear hb2); (try clear hk); (try clear hi)) | ((with_reducible refine gate_builtin (b := .append) (xs := #[.tmp 56, .tmp 57]) rfl ?_); (try (refine gate_guard (by rfl) ?_; dsimp only)); at_builtin; refine Kd.R_append (Kd.int .i32) (w0 := w) w.heap.size rfl (.tmp 56) (.tmp 57) 22 21 (.int .i32 0) 4 rfl Tryd.underlying22 info21 rfl (by decide) (by omega) u11 x11_2 97 [.int .i32 97] (fun _ => True) (fun _ => False) rfl rfl ?aP (fun _ hk => hk.elim) ?aF ?aO ?aB ?aS ?aL ?_; (case aP => exact rfl); (case aB => exact (mvB HB)); (case aF => exact (fun _ _ => trivial)); (case aO => exact (mvR HO_11)); (case aS => exact (below_size (mvB HB))); (case aL => have := LMc16.out; omega); intro v278 w22 ho hb hg hat; rw [← Ny277.out] at ho; have n0_ := Aside0.mk (Kd.R_over' (mvR HO_12) (Kd.R_typed (mvR HO_11)) (by decide) hg); have n1_ := Aside0.mk (hb); have n2_ := Aside0.mk (ho); clear HO_12; clear HB; clear HO_11; have HO_12 := n0_; have HB := n1_; have HO279 := n2_; clear n0_ n1_ n2_; clear ho hb hg hat; obtain ⟨ad280, e280, hx280_0, p280, q280⟩ := atI HR2.out x13_2; cases e280; replace hx280_0 := (HB.out.cell (World.block_lt_of_cell? w _ hx280_0)).trans hx280_0) | ((with_reducible refine gate_callee (f := 15) rfl ?_); refine goesL_ (some 71) rfl rfl Tryd.func15 (by kernel_rfl) rfl #[.int .u8 (rd l2 x13_2)] rfl (by (try simp only [List.map_toArray, List.map_cons, List.map_nil]); first | done | rfl | (simp only [List.length_drop, List.length_take]; rfl)) ?_; (with_reducible refine (selvedgeref17_Side.calls (rd l2 x13_2) t281 _ A18.out).mono ?_); rintro e w' ⟨rfl, ⟨nd, rfl⟩⟩; refine ⟨_, rfl, ?_⟩) | ((with_reducible refine gate_builtin (b := .append) (xs := #[.tmp 73, .tmp 75]) rfl ?_); (try (refine gate_guard (by rfl) ?_; dsimp only)); at_builtin; refine Kd.R_append (Kd.int .u8) (w0 := w) w.heap.size rfl (.tmp 73) (.tmp 75) 23 33 (.int .u8 0) 1 rfl Tryd.underlying23 info33 rfl (by decide) (by omega) u12 x12_2 (rd l2 x13_2) [.int .u8 (rd l2 x13_2)] (fun _ => True) (fun _ => False) rfl rfl ?aP (fun _ hk => hk.elim) ?aF ?aO ?aB ?aS ?aL ?_; (case aP => exact rfl); (case aB => exact (mvB HB)); (case aF => exact (fun _ _ => trivial)); (case aO => exact (mvR HO_12)); (case aS => exact (below_size (mvB HB))); (case aL => have := LMc20.out; omega); intro v283 w23 ho hb hg hat; rw [← Ny282.out] at ho; have n0_ := Aside0.mk (Kd.R_over' (mvR HO279) (Kd.R_typed (mvR HO_12)) (by decide) hg); have n1_ := Aside0.mk (hb); have n2_ := Aside0.mk (ho); clear HO279; clear HB; clear HO_12; have HO279 := n0_; have HB := n1_; have HO284 := n2_; clear n0_ n1_ n2_; clear ho hb hg hat))
             go_roundg k2
             case measure => have := HJ5.out; have := HK2.out; omega
             case rel => exact ⟨(y277), (y282), (wrap64 (x13_2 + 1)), (by first | rfl | (simp; done) | (simp [*]; done)), H', ⟨by have := HJ5.out; have := HK2.out; omega⟩, ⟨mvR HO279⟩, ⟨mvR HO284⟩, ⟨mvB HB⟩⟩
            ·rw [if_neg c20] at H
             exact absurd H (by simp)
           ·rw [if_neg c19] at H
            have c19b0 : (t281 == 0) = false := beq_eq_false_iff_ne.mpr c19
            have c19b1 : (t281 != 0) = true := bne_iff_ne.mpr c19
            by_cases c24 : x12_2.length < 140737488355328
            ·rw [if_pos c24] at H
             have LMc24 := Aside0.mk c24
             clear c24
             obtain ⟨y285, hy285⟩ : ∃ y_ : List Int, y_ = (x12_2 ++ [13]) := ⟨_, rfl⟩
             replace H : (selvedgelaw17_PairsPlain.l0 k2 l0 l1 l2 a3 a4 y277 y285 (wrap64 (x13_2 + 1))) = some r := by first | (rw [hy285]; with_reducible exact H) | (have H2_ := (Option.bind_some _ _).symm.trans H; rw [hy285]; with_reducible exact H2_) | (have H2_ := (Option.bind_some _ _).symm.trans H; with_reducible exact H2_) | with_reducible exact H | (rw [hy285]; exact H) | exact H
             have Ny285 := Aside0.mk hy285
             clear hy285
             have H' := Aside0.mk H
             clear H
             obtain ⟨ad273, e273, hx273_0, p273, q273⟩ := atI HR0.out x13_2
             cases e273
             replace hx273_0 := (HB.out.cell (World.block_lt_of_cell? w _ hx273_0)).trans hx273_0
             go_wp2_with (first | ((with_reducible refine gate_callee (f := 14) rfl ?_); refine goesL_ (some 51) rfl rfl Tryd.func14 (by kernel_rfl) rfl #[.int .i32 (rd l0 x13_2)] rfl (by (try simp only [List.map_toArray, List.map_cons, List.map_nil]); first | done | rfl | (simp only [List.length_drop, List.length_take]; rfl)) ?_; (with_reducible refine (selvedgeref01_Bracket.calls k2 (rd l0 x13_2) t274 t275 true _ A14.out).mono ?_); rintro e w25 ⟨rfl, hb⟩; refine ⟨_, rfl, ?_⟩; have n0_ := Aside0.mk (Kd.R_below (mvR HO_11) hb); have n1_ := Aside0.mk (Kd.R_below (mvR HO_12) hb); have n2_ := Aside0.mk (below_step (mvB HB) hb); clear HO_11; clear HO_12; clear HB; have HO_11 := n0_; have HO_12 := n1_; have HB := n2_; clear n0_ n1_ n2_; (try clear hb); (try clear hb2); (try clear hk); (try clear hi)) | ((with_reducible refine gate_builtin (b := .append) (xs := #[.tmp 56, .tmp 57]) rfl ?_); (try (refine gate_guard (by rfl) ?_; dsimp only)); at_builtin; refine Kd.R_append (Kd.int .i32) (w0 := w) w.heap.size rfl (.tmp 56) (.tmp 57) 22 21 (.int .i32 0) 4 rfl Tryd.underlying22 info21 rfl (by decide) (by omega) u11 x11_2 97 [.int .i32 97] (fun _ => True) (fun _ => False) rfl rfl ?aP (fun _ hk => hk.elim) ?aF ?aO ?aB ?aS ?aL ?_; (case aP => exact rfl); (case aB => exact (mvB HB)); (case aF => exact (fun _ _ => trivial)); (case aO => exact (mvR HO_11)); (case aS => exact (below_size (mvB HB))); (case aL => have := LMc16.out; omega); intro v278 w26 ho hb hg hat; rw [← Ny277.out] at ho; have n0_ := Aside0.mk (Kd.R_over' (mvR HO_12) (Kd.R_typed (mvR HO_11)) (by decide) hg); have n1_ := Aside0.mk (hb); have n2_ := Aside0.mk (ho); clear HO_12; clear HB; clear HO_11; have HO_12 := n0_; have HB := n1_; have HO279 := n2_; clear n0_ n1_ n2_; clear ho hb hg hat; obtain ⟨ad280, e280, hx280_0, p280, q280⟩ := atI HR2.out x13_2; cases e280; replace hx280_0 := (HB.out.cell (World.block_lt_of_cell? w _ hx280_0)).trans hx280_0) | ((with_reducible refine gate_callee (f := 15) rfl ?_); refine goesL_ (some 71) rfl rfl Tryd.func15 (by kernel_rfl) rfl #[.int .u8 (rd l2 x13_2)] rfl (by (try simp only [List.map_toArray, List.map_cons, List.map_nil]); first | done | rfl | (simp only [List.length_drop, List.length_take]; rfl)) ?_; (with_reducible refine (selvedgeref17_Side.calls (rd l2 x13_2) t281 _ A18.out).mono ?_); rintro e w' ⟨rfl, ⟨nd, rfl⟩⟩; refine ⟨_, rfl, ?_⟩) | ((with_reducible refine gate_builtin (b := .append) (xs := #[.tmp 73, .tmp 75]) rfl ?_); (try (refine gate_guard (by rfl) ?_; dsimp only)); at_builtin; refine Kd.R_append (Kd.int .u8) (w0 := w) w.heap.size rfl (.tmp 73) (.tmp 75) 23 33 (.int .u8 0) 1 rfl Tryd.underlying23 info33 rfl (by decide) (by omega) u12 x12_2 13 [.int .u8 13] (fun _ => True) (fun _ => False) rfl rfl ?aP (fun _ hk => hk.elim) ?aF ?aO ?aB ?aS ?aL ?_; (case aP => exact rfl); (case aB => exact (mvB HB)); (case aF => exact (fun _ _ => trivial)); (case aO => exact (mvR HO_12)); (case aS => exact (below_size (mvB HB))); (case aL => have := LMc24.out; omega); intro v286 w27 ho hb hg hat; rw [← Ny285.out] at ho; have n0_ := Aside0.mk (Kd.R_over' (mvR HO279) (Kd.R_typed (mvR HO_12)) (by decide) hg); have n1_ := Aside0.mk (hb); have n2_ := Aside0.mk (ho); clear HO279; clear HB; clear HO_12; have HO279 := n0_; have HB := n1_; have HO287 := n2_; clear n0_ n1_ n2_; clear ho hb hg hat))
             go_roundg k2
             case measure => have := HJ5.out; have := HK2.out; omega
             case rel => exact ⟨(y277), (y285), (wrap64 (x13_2 + 1)), (by first | rfl | (simp; done) | (simp [*]; done)), H', ⟨by have := HJ5.out; have := HK2.out; omega⟩, ⟨mvR HO279⟩, ⟨mvR HO287⟩, ⟨mvB HB⟩⟩
            ·rw [if_neg c24] at H
             exact absurd H (by simp)
          ·rw [if_neg c17] at H
           exact absurd H (by simp)
         ·rw [if_neg c16] at H
          exact absurd H (by simp)
        ·replace c15 := Bool.eq_false_iff.mpr c15
         subst c15
         have H1 : (if x11_2.length < 35184372088832 then ((some (x11_2 ++ [rd l0 x13_2] : List Int)).bind fun y289 => (if x13_2 < (l2.length : Int) then ((selvedgeref17_Side.f (rd l2 x13_2)).bind fun t293 => (if t293 = 0 then (if x12_2.length < 140737488355328 then (selvedgelaw17_PairsPlain.l0 k2 l0 l1 l2 a3 a4 y289 (x12_2 ++ [rd l2 x13_2]) (wrap64 (x13_2 + 1))) else (none)) else (if x12_2.length < 140737488355328 then (selvedgelaw17_PairsPlain.l0 k2 l0 l1 l2 a3 a4 y289 (x12_2 ++ [13]) (wrap64 (x13_2 + 1))) else (none)))) else (none))) else (none)) = some r := by rw [if_neg (show ¬ (false = true) by decide)] at H; exact H
         clear H
         have H := H1
         clear H1
         by_cases c28 : x11_2.length < 35184372088832
         ·rw [if_pos c28] at H
          have LMc28 := Aside0.mk c28
          clear c28
          obtain ⟨y289, hy289⟩ : ∃ y_ : List Int, y_ = (x11_2 ++ [rd l0 x13_2]) := ⟨_, rfl⟩
          replace H : (if x13_2 < (l2.length : Int) then ((selvedgeref17_Side.f (rd l2 x13_2)).bind fun t293 => (if t293 = 0 then (if x12_2.length < 140737488355328 then (selvedgelaw17_PairsPlain.l0 k2 l0 l1 l2 a3 a4 y289 (x12_2 ++ [rd l2 x13_2]) (wrap64 (x13_2 + 1))) else (none)) else (if x12_2.length < 140737488355328 then (selvedgelaw17_PairsPlain.l0 k2 l0 l1 l2 a3 a4 y289 (x12_2 ++ [13]) (wrap64 (x13_2 + 1))) else (none)))) else (none)) = some r := by first | (rw [hy289]; with_reducible exact H) | (have H2_ := (Option.bind_some _ _).symm.trans H; rw [hy289]; with_reducible exact H2_) | (have H2_ := (Option.bind_some _ _).symm.trans H; with_reducible exact H2_) | with_reducible exact H | (rw [hy289]; exact H) | exact H
          have Ny289 := Aside0.mk hy289
          clear hy289
          by_cases c29 : x13_2 < (l2.length : Int)
          ·rw [if_pos c29] at H
           have c29b0 : decide (x13_2 < (l2.length : Int)) = true := decide_eq_true c29
           clear c29
           replace H := Option.bind_eq_some_iff.mp H
           obtain ⟨t293, A300, H⟩ := H
           replace H : (if t293 = 0 then (if x12_2.length < 140737488355328 then (selvedgelaw17_PairsPlain.l0 k2 l0 l1 l2 a3 a4 y289 (x12_2 ++ [rd l2 x13_2]) (wrap64 (x13_2 + 1))) else (none)) else (if x12_2.length < 140737488355328 then (selvedgelaw17_PairsPlain.l0 k2 l0 l1 l2 a3 a4 y289 (x12_2 ++ [13]) (wrap64 (x13_2 + 1))) else (none))) = some r := H
           have A30 := Aside0.mk A300
           clear A300
           by_cases c31 : t293 = 0
           ·rw [if_pos c31] at H
            have c31b0 : (t293 == 0) = true := beq_iff_eq.mpr c31
            have c31b1 : (t293 != 0) = false := bne_eq_false_iff_eq.mpr c31
            clear c31
            by_cases c32 : x12_2.length < 140737488355328
            ·rw [if_pos c32] at H
             have LMc32 := Aside0.mk c32
             clear c32
             obtain ⟨y294, hy294⟩ : ∃ y_ : List Int, y_ = (x12_2 ++ [rd l2 x13_2]) := ⟨_, rfl⟩
             replace H : (selvedgelaw17_PairsPlain.l0 k2 l0 l1 l2 a3 a4 y289 y294 (wrap64 (x13_2 + 1))) = some r := by first | (rw [hy294]; with_reducible exact H) | (have H2_ := (Option.bind_some _ _).symm.trans H; rw [hy294]; with_reducible exact H2_) | (have H2_ := (Option.bind_some _ _).symm.trans H; with_reducible exact H2_) | with_reducible exact H | (rw [hy294]; exact H) | exact H
             have Ny294 := Aside0.mk hy294
             clear hy294
             have H' := Aside0.mk H
             clear H
             obtain ⟨ad273, e273, hx273_0, p273, q273⟩ := atI HR0.out x13_2
             cases e273
             replace hx273_0 := (HB.out.cell (World.block_lt_of_cell? w _ hx273_0)).trans hx273_0
             go_wp2_with (first | ((with_reducible refine gate_callee (f := 14) rfl ?_); refine goesL_ (some 51) rfl rfl Tryd.func14 (by kernel_rfl) rfl #[.int .i32 (rd l0 x13_2)] rfl (by (try simp only [List.map_toArray, List.map_cons, List.map_nil]); first | done | rfl | (simp only [List.length_drop, List.length_take]; rfl)) ?_; (with_reducible refine (selvedgeref01_Bracket.calls k2 (rd l0 x13_2) t274 t275 false _ A14.out).mono ?_); rintro e w33 ⟨rfl, hb⟩; refine ⟨_, rfl, ?_⟩; have n0_ := Aside0.mk (Kd.R_below (mvR HO_11) hb); have n1_ := Aside0.mk (Kd.R_below (mvR HO_12) hb); have n2_ := Aside0.mk (below_step (mvB HB) hb); clear HO_11; clear HO_12; clear HB; have HO_11 := n0_; have HO_12 := n1_; have HB := n2_; clear n0_ n1_ n2_; (try clear hb); (try clear hb2); (try clear hk); (try clear hi); obtain ⟨ad288, e288, hx288_0, p288, q288⟩ := atI HR0.out x13_2; obtain rfl : ad273 = ad288 := (by injection e288); replace hx288_0 := (HB.out.cell (World.block_lt_of_cell? w _ hx288_0)).trans hx288_0) | ((with_reducible refine gate_builtin (b := .append) (xs := #[.tmp 59, .tmp 64]) rfl ?_); (try (refine gate_guard (by rfl) ?_; dsimp only)); at_builtin; refine Kd.R_append (Kd.int .i32) (w0 := w) w.heap.size rfl (.tmp 59) (.tmp 64) 22 21 (.int .i32 0) 4 rfl Tryd.underlying22 info21 rfl (by decide) (by omega) u11 x11_2 (rd l0 x13_2) [.int .i32 (rd l0 x13_2)] (fun _ => True) (fun _ => False) rfl rfl ?aP (fun _ hk => hk.elim) ?aF ?aO ?aB ?aS ?aL ?_; (case aP => exact rfl); (case aB => exact (mvB HB)); (case aF => exact (fun _ _ => trivial)); (case aO => exact (mvR HO_11)); (case aS => exact (below_size (mvB HB))); (case aL => have := LMc28.out; omega); intro v290 w34 ho hb hg hat; rw [← Ny289.out] at ho; have n0_ := Aside0.mk (Kd.R_over' (mvR HO_12) (Kd.R_typed (mvR HO_11)) (by decide) hg); have n1_ := Aside0.mk (hb); have n2_ := Aside0.mk (ho); clear HO_12; clear HB; clear HO_11; have HO_12 := n0_; have HB := n1_; have HO291 := n2_; clear n0_ n1_ n2_; clear ho hb hg hat; obtain ⟨ad292, e292, hx292_0, p292, q292⟩ := atI HR2.out x13_2; cases e292; replace hx292_0 := (HB.out.cell (World.block_lt_of_cell? w _ hx292_0)).trans hx292_0) | ((with_reducible refine gate_callee (f := 15) rfl ?_); refine goesL_ (some 71) rfl rfl Tryd.func15 (by kernel_rfl) rfl #[.int .u8 (rd l2 x13_2)] rfl (by (try simp only [List.map_toArray, List.map_cons, List.map_nil]); first | done | rfl | (simp only [List.length_drop, List.length_take]; rfl)) ?_; (with_reducible refine (selvedgeref17_Side.calls (rd l2 x13_2) t293 _ A30.out).mono ?_); rintro e w' ⟨rfl, ⟨nd, rfl⟩⟩; refine ⟨_, rfl, ?_⟩) | ((with_reducible refine gate_builtin (b := .append) (xs := #[.tmp 73, .tmp 75]) rfl ?_); (try (refine gate_guard (by rfl) ?_; dsimp only)); at_builtin; refine Kd.R_append (Kd.int .u8) (w0 := w) w.heap.size rfl (.tmp 73) (.tmp 75) 23 33 (.int .u8 0) 1 rfl Tryd.underlying23 info33 rfl (by decide) (by omega) u12 x12_2 (rd l2 x13_2) [.int .u8 (rd l2 x13_2)] (fun _ => True) (fun _ => False) rfl rfl ?aP (fun _ hk => hk.elim) ?aF ?aO ?aB ?aS ?aL ?_; (case aP => exact rfl); (case aB => exact (mvB HB)); (case aF => exact (fun _ _ => trivial)); (case aO => exact (mvR HO_12)); (case aS => exact (below_size (mvB HB))); (case aL => have := LMc32.out; omega); intro v295 w35 ho hb hg hat; rw [← Ny294.out] at ho; have n0_ := Aside0.mk (Kd.R_over' (mvR HO291) (Kd.R_typed (mvR HO_12)) (by decide) hg); have n1_ := Aside0.mk (hb); have n2_ := Aside0.mk (ho); clear HO291; clear HB; clear HO_12; have HO291 := n0_; have HB := n1_; have HO296 := n2_; clear n0_ n1_ n2_; clear ho hb hg hat))
             go_roundg k2
             case measure => have := HJ5.out; have := HK2.out; omega
             case rel => exact ⟨(y289), (y294), (wrap64 (x13_2 + 1)), (by first | rfl | (simp; done) | (simp [*]; done)), H', ⟨by have := HJ5.out; have := HK2.out; omega⟩, ⟨mvR HO291⟩, ⟨mvR HO296⟩, ⟨mvB HB⟩⟩
            ·rw [if_neg c32] at H
             exact absurd H (by simp)
           ·rw [if_neg c31] at H
            have c31b0 : (t293 == 0) = false := beq_eq_false_iff_ne.mpr c31
            have c31b1 : (t293 != 0) = true := bne_iff_ne.mpr c31
            by_cases c36 : x12_2.length < 140737488355328
            ·rw [if_pos c36] at H
             have LMc36 := Aside0.mk c36
             clear c36
             obtain ⟨y297, hy297⟩ : ∃ y_ : List Int, y_ = (x12_2 ++ [13]) := ⟨_, rfl⟩
             replace H : (selvedgelaw17_PairsPlain.l0 k2 l0 l1 l2 a3 a4 y289 y297 (wrap64 (x13_2 + 1))) = some r := by first | (rw [hy297]; with_reducible exact H) | (have H2_ := (Option.bind_some _ _).symm.trans H; rw [hy297]; with_reducible exact H2_) | (have H2_ := (Option.bind_some _ _).symm.trans H; with_reducible exact H2_) | with_reducible exact H | (rw [hy297]; exact H) | exact H
             have Ny297 := Aside0.mk hy297
             clear hy297
             have H' := Aside0.mk H
             clear H
             obtain ⟨ad273, e273, hx273_0, p273, q273⟩ := atI HR0.out x13_2
             cases e273
             replace hx273_0 := (HB.out.cell (World.block_lt_of_cell? w _ hx273_0)).trans hx273_0
             go_wp2_with (first | ((with_reducible refine gate_callee (f := 14) rfl ?_); refine goesL_ (some 51) rfl rfl Tryd.func14 (by kernel_rfl) rfl #[.int .i32 (rd l0 x13_2)] rfl (by (try simp only [List.map_toArray, List.map_cons, List.map_nil]); first | done | rfl | (simp only [List.length_drop, List.length_take]; rfl)) ?_; (with_reducible refine (selvedgeref01_Bracket.calls k2 (rd l0 x13_2) t274 t275 false _ A14.out).mono ?_); rintro e w37 ⟨rfl, hb⟩; refine ⟨_, rfl, ?_⟩; have n0_ := Aside0.mk (Kd.R_below (mvR HO_11) hb); have n1_ := Aside0.mk (Kd.R_below (mvR HO_12) hb); have n2_ := Aside0.mk (below_step (mvB HB) hb); clear HO_11; clear HO_12; clear HB; have HO_11 := n0_; have HO_12 := n1_; have HB := n2_; clear n0_ n1_ n2_; (try clear hb); (try clear hb2); (try clear hk); (try clear hi); obtain ⟨ad288, e288, hx288_0, p288, q288⟩ := atI HR0.out x13_2; obtain rfl : ad273 = ad288 := (by injection e288); replace hx288_0 := (HB.out.cell (World.block_lt_of_cell? w _ hx288_0)).trans hx288_0) | ((with_reducible refine gate_builtin (b := .append) (xs := #[.tmp 59, .tmp 64]) rfl ?_); (try (refine gate_guard (by rfl) ?_; dsimp only)); at_builtin; refine Kd.R_append (Kd.int .i32) (w0 := w) w.heap.size rfl (.tmp 59) (.tmp 64) 22 21 (.int .i32 0) 4 rfl Tryd.underlying22 info21 rfl (by decide) (by omega) u11 x11_2 (rd l0 x13_2) [.int .i32 (rd l0 x13_2)] (fun _ => True) (fun _ => False) rfl rfl ?aP (fun _ hk => hk.elim) ?aF ?aO ?aB ?aS ?aL ?_; (case aP => exact rfl); (case aB => exact (mvB HB)); (case aF => exact (fun _ _ => trivial)); (case aO => exact (mvR HO_11)); (case aS => exact (below_size (mvB HB))); (case aL => have := LMc28.out; omega); intro v290 w38 ho hb hg hat; rw [← Ny289.out] at ho; have n0_ := Aside0.mk (Kd.R_over' (mvR HO_12) (Kd.R_typed (mvR HO_11)) (by decide) hg); have n1_ := Aside0.mk (hb); have n2_ := Aside0.mk (ho); clear HO_12; clear HB; clear HO_11; have HO_12 := n0_; have HB := n1_; have HO291 := n2_; clear n0_ n1_ n2_; clear ho hb hg hat; obtain ⟨ad292, e292, hx292_0, p292, q292⟩ := atI HR2.out x13_2; cases e292; replace hx292_0 := (HB.out.cell (World.block_lt_of_cell? w _ hx292_0)).trans hx292_0) | ((with_reducible refine gate_callee (f := 15) rfl ?_); refine goesL_ (some 71) rfl rfl Tryd.func15 (by kernel_rfl) rfl #[.int .u8 (rd l2 x13_2)] rfl (by (try simp only [List.map_toArray, List.map_cons, List.map_nil]); first | done | rfl | (simp only [List.length_drop, List.length_take]; rfl)) ?_; (with_reducible refine (selvedgeref17_Side.calls (rd l2 x13_2) t293 _ A30.out).mono ?_); rintro e w' ⟨rfl, ⟨nd, rfl⟩⟩; refine ⟨_, rfl, ?_⟩) | ((with_reducible refine gate_builtin (b := .append) (xs := #[.tmp 73, .tmp 75]) rfl ?_); (try (refine gate_guard (by rfl) ?_; dsimp only)); at_builtin; refine Kd.R_append (Kd.int .u8) (w0 := w) w.heap.size rfl (.tmp 73) (.tmp 75) 23 33 (.int .u8 0) 1 rfl Tryd.underlying23 info33 rfl (by decide) (by omega) u12 x12_2 13 [.int .u8 13] (fun _ => True) (fun _ => False) rfl rfl ?aP (fun _ hk => hk.elim) ?aF ?aO ?aB ?aS ?aL ?_; (case aP => exact rfl); (case aB => exact (mvB HB)); (case aF => exact (fun _ _ => trivial)); (case aO => exact (mvR HO_12)); (case aS => exact (below_size (mvB HB))); (case aL => have := LMc36.out; omega); intro v298 w39 ho hb hg hat; rw [← Ny297.out] at ho; have n0_ := Aside0.mk (Kd.R_over' (mvR HO291) (Kd.R_typed (mvR HO_12)) (by decide) hg); have n1_ := Aside0.mk (hb); have n2_ := Aside0.mk (ho); clear HO291; clear HB; clear HO_12; have HO291 := n0_; have HB := n1_; have HO299 := n2_; clear n0_ n1_ n2_; clear ho hb hg hat))
             go_roundg k2
             case measure => have := HJ5.out; have := HK2.out; omega
             case rel => exact ⟨(y289), (y297), (wrap64 (x13_2 + 1)), (by first | rfl | (simp; done) | (simp [*]; done)), H', ⟨by have := HJ5.out; have := HK2.out; omega⟩, ⟨mvR HO291⟩, ⟨mvR HO299⟩, ⟨mvB HB⟩⟩
            ·rw [if_neg c36] at H
             exact absurd H (by simp)
          ·rw [if_neg c29] at H
           exact absurd H (by simp)
         ·rw [if_neg c28] at H
          exact absurd H (by simp)
       ·rw [if_neg c13] at H
        exact absurd H (by simp)
      ·rw [if_neg c12] at H
       have c12b0 : decide (x13_2 < (l0.length : Int)) = false := decide_eq_false c12
       clear c12
       replace H := Option.bind_eq_some_iff.mp H
       obtain ⟨⟨t300, t301⟩, A400, H⟩ := H
       replace H : ((pairs_Resolve.f l0 l1 x12_2 a3 a4).bind fun bt304 => (if t301 = 0 then (if bt304.2 = 0 then ((selvedgelaw17_is.f k2 t300 l2).bind fun t308 => (if t308 = true then ((selvedgelaw17_is.f k2 bt304.1 x12_2).bind fun t309 => (if t309 = true then ((pairs_Pairs.f x11_2 l2).bind fun t310 => (if (t310.length : Int) = 0 then ((selvedgelaw17_works.f k2).bind fun t313 => (some t313)) else (some false))) else (some false))) else (some false))) else (some false)) else (some false))) = some r := H
       have A40 := Aside0.mk A400
       clear A400
       replace H := Option.bind_eq_some_iff.mp H
       obtain ⟨⟨t304, t305⟩, A410, H⟩ := H
       replace H : (if t301 = 0 then (if t305 = 0 then ((selvedgelaw17_is.f k2 t300 l2).bind fun t308 => (if t308 = true then ((selvedgelaw17_is.f k2 t304 x12_2).bind fun t309 => (if t309 = true then ((pairs_Pairs.f x11_2 l2).bind fun t310 => (if (t310.length : Int) = 0 then ((selvedgelaw17_works.f k2).bind fun t313 => (some t313)) else (some false))) else (some false))) else (some false))) else (some false)) else (some false)) = some r := H
       have A41 := Aside0.mk A410
       clear A410
       by_cases c42 : t301 = 0
       ·rw [if_pos c42] at H
        have c42b0 : (t301 == 0) = true := beq_iff_eq.mpr c42
        have c42b1 : (t301 != 0) = false := bne_eq_false_iff_eq.mpr c42
        clear c42
        by_cases c43 : t305 = 0
        ·rw [if_pos c43] at H
         have c43b0 : (t305 == 0) = true := beq_iff_eq.mpr c43
         have c43b1 : (t305 != 0) = false := bne_eq_false_iff_eq.mpr c43
         clear c43
         replace H := Option.bind_eq_some_iff.mp H
         obtain ⟨t308, A440, H⟩ := H
         replace H : (if t308 = true then ((selvedgelaw17_is.f k2 t304 x12_2).bind fun t309 => (if t309 = true then ((pairs_Pairs.f x11_2 l2).bind fun t310 => (if (t310.length : Int) = 0 then ((selvedgelaw17_works.f k2).bind fun t313 => (some t313)) else (some false))) else (some false))) else (some false)) = some r := H
         have A44 := Aside0.mk A440
         clear A440
         by_cases c45 : t308 = true
         ·subst c45
          have H1 : ((selvedgelaw17_is.f k2 t304 x12_2).bind fun t309 => (if t309 = true then ((pairs_Pairs.f x11_2 l2).bind fun t310 => (if (t310.length : Int) = 0 then ((selvedgelaw17_works.f k2).bind fun t313 => (some t313)) else (some false))) else (some false))) = some r := by rw [if_pos rfl] at H; exact H
          clear H
          have H := H1
          clear H1
          replace H := Option.bind_eq_some_iff.mp H
          obtain ⟨t309, A460, H⟩ := H
          replace H : (if t309 = true then ((pairs_Pairs.f x11_2 l2).bind fun t310 => (if (t310.length : Int) = 0 then ((selvedgelaw17_works.f k2).bind fun t313 => (some t313)) else (some false))) else (some false)) = some r := H
          have A46 := Aside0.mk A460
          clear A460
          by_cases c47 : t309 = true
          ·subst c47
           have H1 : ((pairs_Pairs.f x11_2 l2).bind fun t310 => (if (t310.length : Int) = 0 then ((selvedgelaw17_works.f k2).bind fun t313 => (some t313)) else (some false))) = some r := by rw [if_pos rfl] at H; exact H
           clear H
           have H := H1
           clear H1
           replace H := Option.bind_eq_some_iff.mp H
           obtain ⟨t310, A480, H⟩ := H
           replace H : (if (t310.length : Int) = 0 then ((selvedgelaw17_works.f k2).bind fun t313 => (some t313)) else (some false)) = some r := H
           have A48 := Aside0.mk A480
           clear A480
           by_cases c49 : (t310.length : Int) = 0
           ·rw [if_pos c49] at H
            have c49b0 : ((t310.length : Int) == 0) = true := beq_iff_eq.mpr c49
            have c49b1 : ((t310.length : Int) != 0) = false := bne_eq_false_iff_eq.mpr c49
            clear c49
            replace H := Option.bind_eq_some_iff.mp H
            obtain ⟨t313, A500, H⟩ := H
            replace H : (some t313) = some r := H
            have A50 := Aside0.mk A500
            clear A500
            obtain rfl := Option.some.inj H
            obtain ⟨Ao51, co51, eo51⟩ := Kd.R_slice HO_11.out
            subst eo51
            go_wp2_with (first | ((with_reducible refine gate_callee (f := 11) rfl ?_); refine goesL_ (some 83) rfl rfl Tryd.func11 (by kernel_rfl) rfl #[.slice Ao51 x11_2.length co51, .slice A1 l1.length c1, .slice A2 l2.length c2, .int .u8 a3, .int .u8 a4] rfl (by (try simp only [List.map_toArray, List.map_cons, List.map_nil]); first | done | rfl | (simp only [List.length_drop, List.length_take]; rfl)) ?_; (with_reducible refine (pairs_Resolve.calls _ _ x11_2 _ _ l1 _ _ l2 a3 a4 t300 t301 _ ?side1 ?side2 ?side3 ?side4 ?side5 ?side6 A40.out (by exact HT.out.below (mvB HB))).mono ?_); (case side1 => repeat (first | exact (Kd.R_reads' HO_11.out).2.2 | (with_reducible refine Kd.C_alloc ?_ _) | (with_reducible refine Kd.C_drewN ?_ _) | (with_reducible refine Kd.C_drew ?_))); (case side2 => exact (Kd.R_reads' HO_11.out).2.1); (case side3 => repeat (first | exact (Kd.C_below HR1.out HB.out) | (with_reducible refine Kd.C_alloc ?_ _) | (with_reducible refine Kd.C_drewN ?_ _) | (with_reducible refine Kd.C_drew ?_))); (case side4 => exact HC1.out); (case side5 => repeat (first | exact (Kd.C_below HR2.out HB.out) | (with_reducible refine Kd.C_alloc ?_ _) | (with_reducible refine Kd.C_drewN ?_ _) | (with_reducible refine Kd.C_drew ?_))); (case side6 => exact HC2.out); rintro e w52 ⟨v302, rfl, ho0, hb⟩; refine ⟨_, rfl, ?_⟩; have n0_ := Aside0.mk (Kd.R_below (mvR HO_11) hb); have n1_ := Aside0.mk (Kd.R_elder' (mvR HO_12) (Kd.R_base ho0) hb); have n2_ := Aside0.mk (Kd.R_lower (Kd.R_new' ho0 (Kd.R_lt (mvR HO_12))) (below_size (mvB HB))); have n3_ := Aside0.mk (below_step (mvB HB) hb); clear HO_11; clear HO_12; clear HB; have HO_11 := n0_; have HO_12 := n1_; have HO303 := n2_; have HB := n3_; clear n0_ n1_ n2_ n3_; (try clear hb); (try clear hb2); (try clear hk); (try clear hi); (try clear ho0); obtain ⟨Ao53, co53, eo53⟩ := Kd.R_slice HO_12.out; subst eo53) | ((with_reducible refine gate_callee (f := 11) rfl ?_); refine goesL_ (some 92) rfl rfl Tryd.func11 (by kernel_rfl) rfl #[.slice A0 l0.length c0, .slice A1 l1.length c1, .slice Ao53 x12_2.length co53, .int .u8 a3, .int .u8 a4] rfl (by (try simp only [List.map_toArray, List.map_cons, List.map_nil]); first | done | rfl | (simp only [List.length_drop, List.length_take]; rfl)) ?_; (with_reducible refine (pairs_Resolve.calls _ _ l0 _ _ l1 _ _ x12_2 a3 a4 t304 t305 _ ?side1 ?side2 ?side3 ?side4 ?side5 ?side6 A41.out (by exact HT.out.below (mvB HB))).mono ?_); (case side1 => repeat (first | exact (Kd.C_below HR0.out HB.out) | (with_reducible refine Kd.C_alloc ?_ _) | (with_reducible refine Kd.C_drewN ?_ _) | (with_reducible refine Kd.C_drew ?_))); (case side2 => exact HC0.out); (case side3 => repeat (first | exact (Kd.C_below HR1.out HB.out) | (with_reducible refine Kd.C_alloc ?_ _) | (with_reducible refine Kd.C_drewN ?_ _) | (with_reducible refine Kd.C_drew ?_))); (case side4 => exact HC1.out); (case side5 => repeat (first | exact (Kd.R_reads' HO_12.out).2.2 | (with_reducible refine Kd.C_alloc ?_ _) | (with_reducible refine Kd.C_drewN ?_ _) | (with_reducible refine Kd.C_drew ?_))); (case side6 => exact (Kd.R_reads' HO_12.out).2.1); rintro e w54 ⟨v306, rfl, ho0, hb⟩; refine ⟨_, rfl, ?_⟩; have n0_ := Aside0.mk (Kd.R_below (mvR HO_11) hb); have n1_ := Aside0.mk (Kd.R_elder' (mvR HO_12) (Kd.R_base ho0) hb); have n2_ := Aside0.mk (Kd.R_elder' (mvR HO303) (Kd.R_base ho0) hb); have n3_ := Aside0.mk (Kd.R_lower (Kd.R_new' (Kd.R_new' ho0 (Kd.R_lt (mvR HO_12))) (Kd.R_lt (mvR HO303))) (below_size (mvB HB))); have n4_ := Aside0.mk (below_step (mvB HB) hb); clear HO_11; clear HO_12; clear HO303; clear HB; have HO_11 := n0_; have HO_12 := n1_; have HO303 := n2_; have HO307 := n3_; have HB := n4_; clear n0_ n1_ n2_ n3_ n4_; (try clear hb); (try clear hb2); (try clear hk); (try clear hi); (try clear ho0); obtain ⟨Ao55, co55, eo55⟩ := Kd.R_slice HO303.out; subst eo55) | (go_at_call 13; (with_reducible refine (selvedgelaw17_is.calls k2 _ _ t300 _ _ l2 true _ ?side1 ?side2 ?side3 ?side4 A44.out).mono ?_); (case side1 => repeat (first | exact (Kd.R_reads' HO303.out).2.2 | (with_reducible refine Kd.C_alloc ?_ _) | (with_reducible refine Kd.C_drewN ?_ _) | (with_reducible refine Kd.C_drew ?_))); (case side2 => exact (Kd.R_reads' HO303.out).2.1); (case side3 => repeat (first | exact (Kd.C_below HR2.out HB.out) | (with_reducible refine Kd.C_alloc ?_ _) | (with_reducible refine Kd.C_drewN ?_ _) | (with_reducible refine Kd.C_drew ?_))); (case side4 => exact HC2.out); rintro e w' ⟨rfl, ⟨nd, rfl⟩⟩; obtain ⟨Ao56, co56, eo56⟩ := Kd.R_slice HO307.out; subst eo56) | (go_at_call 13; (with_reducible refine (selvedgelaw17_is.calls k2 _ _ t304 _ _ x12_2 true _ ?side1 ?side2 ?side3 ?side4 A46.out).mono ?_); (case side1 => repeat (first | exact (Kd.R_reads' HO307.out).2.2 | (with_reducible refine Kd.C_alloc ?_ _) | (with_reducible refine Kd.C_drewN ?_ _) | (with_reducible refine Kd.C_drew ?_))); (case side2 => exact (Kd.R_reads' HO307.out).2.1); (case side3 => repeat (first | exact (Kd.R_reads' HO_12.out).2.2 | (with_reducible refine Kd.C_alloc ?_ _) | (with_reducible refine Kd.C_drewN ?_ _) | (with_reducible refine Kd.C_drew ?_))); (case side4 => exact (Kd.R_reads' HO_12.out).2.1); rintro e w' ⟨rfl, ⟨nd, rfl⟩⟩) | (go_at_call 9; (with_reducible refine (pairs_Pairs.calls _ _ x11_2 _ _ l2 t310 _ ?side1 ?side2 ?side3 ?side4 A48.out (by exact HT.out.below (mvB HB))).mono ?_); (case side1 => repeat (first | exact (Kd.R_reads' HO_11.out).2.2 | (with_reducible refine Kd.C_alloc ?_ _) | (with_reducible refine Kd.C_drewN ?_ _) | (with_reducible refine Kd.C_drew ?_))); (case side2 => exact (Kd.R_reads' HO_11.out).2.1); (case side3 => repeat (first | exact (Kd.C_below HR2.out (mvB HB)) | (with_reducible refine Kd.C_alloc ?_ _) | (with_reducible refine Kd.C_drewN ?_ _) | (with_reducible refine Kd.C_drew ?_))); (case side4 => exact HC2.out); rintro e w57 ⟨v311, rfl, ho0, hb⟩; have n0_ := Aside0.mk (Kd.R_below (mvR HO_11) hb); have n1_ := Aside0.mk (Kd.R_below (mvR HO_12) hb); have n2_ := Aside0.mk (Kd.R_below (mvR HO303) hb); have n3_ := Aside0.mk (Kd.R_below (mvR HO307) hb); have n4_ := Aside0.mk (Kd.R_lower ho0 (below_size (mvB HB))); have n5_ := Aside0.mk (below_step (mvB HB) hb); clear HO_11; clear HO_12; clear HO303; clear HO307; clear HB; have HO_11 := n0_; have HO_12 := n1_; have HO303 := n2_; have HO307 := n3_; have HO312 := n4_; have HB := n5_; clear n0_ n1_ n2_ n3_ n4_ n5_; (try clear hb); (try clear hb2); (try clear hk); (try clear hi); (try clear ho0); obtain ⟨Ao58, co58, eo58⟩ := Kd.R_slice HO312.out; subst eo58) | (go_at_call 8; (with_reducible refine (selvedgelaw17_works.calls k2  t313 _ A50.out (by exact HT.out.below (mvB HB))).mono ?_); rintro e w59 ⟨rfl, hb⟩; have n0_ := Aside0.mk (Kd.R_below (mvR HO_11) hb); have n1_ := Aside0.mk (Kd.R_below (mvR HO_12) hb); have n2_ := Aside0.mk (Kd.R_below (mvR HO303) hb); have n3_ := Aside0.mk (Kd.R_below (mvR HO307) hb); have n4_ := Aside0.mk (Kd.R_below (mvR HO312) hb); have n5_ := Aside0.mk (below_step (mvB HB) hb); clear HO_11; clear HO_12; clear HO303; clear HO307; clear HO312; clear HB; have HO_11 := n0_; have HO_12 := n1_; have HO303 := n2_; have HO307 := n3_; have HO312 := n4_; have HB := n5_; clear n0_ n1_ n2_ n3_ n4_ n5_; (try clear hb); (try clear hb2); (try clear hk); (try clear hi)))
            go_ret
            exact ⟨by first | rfl | (simp [errW_none, errW_some] <;> rfl) | (simp [*, errW_none, errW_some] <;> rfl), mvB HB⟩
           ·rw [if_neg c49] at H
            have c49b0 : ((t310.length : Int) == 0) = false := beq_eq_false_iff_ne.mpr c49
            have c49b1 : ((t310.length : Int) != 0) = true := bne_iff_ne.mpr c49
            have c49b2 : ¬ (t310 = []) := fun h_ => c49 (by rw [h_]; rfl)
            obtain rfl := Option.some.inj H
            obtain ⟨Ao60, co60, eo60⟩ := Kd.R_slice HO_11.out
            subst eo60
            go_wp2_with (first | ((with_reducible refine gate_callee (f := 11) rfl ?_); refine goesL_ (some 83) rfl rfl Tryd.func11 (by kernel_rfl) rfl #[.slice Ao60 x11_2.length co60, .slice A1 l1.length c1, .slice A2 l2.length c2, .int .u8 a3, .int .u8 a4] rfl (by (try simp only [List.map_toArray, List.map_cons, List.map_nil]); first | done | rfl | (simp only [List.length_drop, List.length_take]; rfl)) ?_; (with_reducible refine (pairs_Resolve.calls _ _ x11_2 _ _ l1 _ _ l2 a3 a4 t300 t301 _ ?side1 ?side2 ?side3 ?side4 ?side5 ?side6 A40.out (by exact HT.out.below (mvB HB))).mono ?_); (case side1 => repeat (first | exact (Kd.R_reads' HO_11.out).2.2 | (with_reducible refine Kd.C_alloc ?_ _) | (with_reducible refine Kd.C_drewN ?_ _) | (with_reducible refine Kd.C_drew ?_))); (case side2 => exact (Kd.R_reads' HO_11.out).2.1); (case side3 => repeat (first | exact (Kd.C_below HR1.out HB.out) | (with_reducible refine Kd.C_alloc ?_ _) | (with_reducible refine Kd.C_drewN ?_ _) | (with_reducible refine Kd.C_drew ?_))); (case side4 => exact HC1.out); (case side5 => repeat (first | exact (Kd.C_below HR2.out HB.out) | (with_reducible refine Kd.C_alloc ?_ _) | (with_reducible refine Kd.C_drewN ?_ _) | (with_reducible refine Kd.C_drew ?_))); (case side6 => exact HC2.out); rintro e w61 ⟨v302, rfl, ho0, hb⟩; refine ⟨_, rfl, ?_⟩; have n0_ := Aside0.mk (Kd.R_below (mvR HO_11) hb); have n1_ := Aside0.mk (Kd.R_elder' (mvR HO_12) (Kd.R_base ho0) hb); have n2_ := Aside0.mk (Kd.R_lower (Kd.R_new' ho0 (Kd.R_lt (mvR HO_12))) (below_size (mvB HB))); have n3_ := Aside0.mk (below_step (mvB HB) hb); clear HO_11; clear HO_12; clear HB; have HO_11 := n0_; have HO_12 := n1_; have HO303 := n2_; have HB := n3_; clear n0_ n1_ n2_ n3_; (try clear hb); (try clear hb2); (try clear hk); (try clear hi); (try clear ho0); obtain ⟨Ao62, co62, eo62⟩ := Kd.R_slice HO_12.out; subst eo62) | ((with_reducible refine gate_callee (f := 11) rfl ?_); refine goesL_ (some 92) rfl rfl Tryd.func11 (by kernel_rfl) rfl #[.slice A0 l0.length c0, .slice A1 l1.length c1, .slice Ao62 x12_2.length co62, .int .u8 a3, .int .u8 a4] rfl (by (try simp only [List.map_toArray, List.map_cons, List.map_nil]); first | done | rfl | (simp only [List.length_drop, List.length_take]; rfl)) ?_; (with_reducible refine (pairs_Resolve.calls _ _ l0 _ _ l1 _ _ x12_2 a3 a4 t304 t305 _ ?side1 ?side2 ?side3 ?side4 ?side5 ?side6 A41.out (by exact HT.out.below (mvB HB))).mono ?_); (case side1 => repeat (first | exact (Kd.C_below HR0.out HB.out) | (with_reducible refine Kd.C_alloc ?_ _) | (with_reducible refine Kd.C_drewN ?_ _) | (with_reducible refine Kd.C_drew ?_))); (case side2 => exact HC0.out); (case side3 => repeat (first | exact (Kd.C_below HR1.out HB.out) | (with_reducible refine Kd.C_alloc ?_ _) | (with_reducible refine Kd.C_drewN ?_ _) | (with_reducible refine Kd.C_drew ?_))); (case side4 => exact HC1.out); (case side5 => repeat (first | exact (Kd.R_reads' HO_12.out).2.2 | (with_reducible refine Kd.C_alloc ?_ _) | (with_reducible refine Kd.C_drewN ?_ _) | (with_reducible refine Kd.C_drew ?_))); (case side6 => exact (Kd.R_reads' HO_12.out).2.1); rintro e w63 ⟨v306, rfl, ho0, hb⟩; refine ⟨_, rfl, ?_⟩; have n0_ := Aside0.mk (Kd.R_below (mvR HO_11) hb); have n1_ := Aside0.mk (Kd.R_elder' (mvR HO_12) (Kd.R_base ho0) hb); have n2_ := Aside0.mk (Kd.R_elder' (mvR HO303) (Kd.R_base ho0) hb); have n3_ := Aside0.mk (Kd.R_lower (Kd.R_new' (Kd.R_new' ho0 (Kd.R_lt (mvR HO_12))) (Kd.R_lt (mvR HO303))) (below_size (mvB HB))); have n4_ := Aside0.mk (below_step (mvB HB) hb); clear HO_11; clear HO_12; clear HO303; clear HB; have HO_11 := n0_; have HO_12 := n1_; have HO303 := n2_; have HO307 := n3_; have HB := n4_; clear n0_ n1_ n2_ n3_ n4_; (try clear hb); (try clear hb2); (try clear hk); (try clear hi); (try clear ho0); obtain ⟨Ao64, co64, eo64⟩ := Kd.R_slice HO303.out; subst eo64) | (go_at_call 13; (with_reducible refine (selvedgelaw17_is.calls k2 _ _ t300 _ _ l2 true _ ?side1 ?side2 ?side3 ?side4 A44.out).mono ?_); (case side1 => repeat (first | exact (Kd.R_reads' HO303.out).2.2 | (with_reducible refine Kd.C_alloc ?_ _) | (with_reducible refine Kd.C_drewN ?_ _) | (with_reducible refine Kd.C_drew ?_))); (case side2 => exact (Kd.R_reads' HO303.out).2.1); (case side3 => repeat (first | exact (Kd.C_below HR2.out HB.out) | (with_reducible refine Kd.C_alloc ?_ _) | (with_reducible refine Kd.C_drewN ?_ _) | (with_reducible refine Kd.C_drew ?_))); (case side4 => exact HC2.out); rintro e w' ⟨rfl, ⟨nd, rfl⟩⟩; obtain ⟨Ao65, co65, eo65⟩ := Kd.R_slice HO307.out; subst eo65) | (go_at_call 13; (with_reducible refine (selvedgelaw17_is.calls k2 _ _ t304 _ _ x12_2 true _ ?side1 ?side2 ?side3 ?side4 A46.out).mono ?_); (case side1 => repeat (first | exact (Kd.R_reads' HO307.out).2.2 | (with_reducible refine Kd.C_alloc ?_ _) | (with_reducible refine Kd.C_drewN ?_ _) | (with_reducible refine Kd.C_drew ?_))); (case side2 => exact (Kd.R_reads' HO307.out).2.1); (case side3 => repeat (first | exact (Kd.R_reads' HO_12.out).2.2 | (with_reducible refine Kd.C_alloc ?_ _) | (with_reducible refine Kd.C_drewN ?_ _) | (with_reducible refine Kd.C_drew ?_))); (case side4 => exact (Kd.R_reads' HO_12.out).2.1); rintro e w' ⟨rfl, ⟨nd, rfl⟩⟩) | (go_at_call 9; (with_reducible refine (pairs_Pairs.calls _ _ x11_2 _ _ l2 t310 _ ?side1 ?side2 ?side3 ?side4 A48.out (by exact HT.out.below (mvB HB))).mono ?_); (case side1 => repeat (first | exact (Kd.R_reads' HO_11.out).2.2 | (with_reducible refine Kd.C_alloc ?_ _) | (with_reducible refine Kd.C_drewN ?_ _) | (with_reducible refine Kd.C_drew ?_))); (case side2 => exact (Kd.R_reads' HO_11.out).2.1); (case side3 => repeat (first | exact (Kd.C_below HR2.out (mvB HB)) | (with_reducible refine Kd.C_alloc ?_ _) | (with_reducible refine Kd.C_drewN ?_ _) | (with_reducible refine Kd.C_drew ?_))); (case side4 => exact HC2.out); rintro e w66 ⟨v311, rfl, ho0, hb⟩; have n0_ := Aside0.mk (Kd.R_below (mvR HO_11) hb); have n1_ := Aside0.mk (Kd.R_below (mvR HO_12) hb); have n2_ := Aside0.mk (Kd.R_below (mvR HO303) hb); have n3_ := Aside0.mk (Kd.R_below (mvR HO307) hb); have n4_ := Aside0.mk (Kd.R_lower ho0 (below_size (mvB HB))); have n5_ := Aside0.mk (below_step (mvB HB) hb); clear HO_11; clear HO_12; clear HO303; clear HO307; clear HB; have HO_11 := n0_; have HO_12 := n1_; have HO303 := n2_; have HO307 := n3_; have HO312 := n4_; have HB := n5_; clear n0_ n1_ n2_ n3_ n4_ n5_; (try clear hb); (try clear hb2); (try clear hk); (try clear hi); (try clear ho0); obtain ⟨Ao67, co67, eo67⟩ := Kd.R_slice HO312.out; subst eo67))
            go_ret
            exact ⟨by first | rfl | (simp [errW_none, errW_some] <;> rfl) | (simp [*, errW_none, errW_some] <;> rfl), mvB HB⟩
          ·replace c47 := Bool.eq_false_iff.mpr c47
           subst c47
           have H1 : (some false) = some r := by rw [if_neg (show ¬ (false = true) by decide)] at H; exact H
           clear H
           have H := H1
           clear H1
           obtain rfl := Option.some.inj H
           obtain ⟨Ao68, co68, eo68⟩ := Kd.R_slice HO_11.out
           subst eo68
           go_wp2_with (first | ((with_reducible refine gate_callee (f := 11) rfl ?_); refine goesL_ (some 83) rfl rfl Tryd.func11 (by kernel_rfl) rfl #[.slice Ao68 x11_2.length co68, .slice A1 l1.length c1, .slice A2 l2.length c2, .int .u8 a3, .int .u8 a4] rfl (by (try simp only [List.map_toArray, List.map_cons, List.map_nil]); first | done | rfl | (simp only [List.length_drop, List.length_take]; rfl)) ?_; (with_reducible refine (pairs_Resolve.calls _ _ x11_2 _ _ l1 _ _ l2 a3 a4 t300 t301 _ ?side1 ?side2 ?side3 ?side4 ?side5 ?side6 A40.out (by exact HT.out.below (mvB HB))).mono ?_); (case side1 => repeat (first | exact (Kd.R_reads' HO_11.out).2.2 | (with_reducible refine Kd.C_alloc ?_ _) | (with_reducible refine Kd.C_drewN ?_ _) | (with_reducible refine Kd.C_drew ?_))); (case side2 => exact (Kd.R_reads' HO_11.out).2.1); (case side3 => repeat (first | exact (Kd.C_below HR1.out HB.out) | (with_reducible refine Kd.C_alloc ?_ _) | (with_reducible refine Kd.C_drewN ?_ _) | (with_reducible refine Kd.C_drew ?_))); (case side4 => exact HC1.out); (case side5 => repeat (first | exact (Kd.C_below HR2.out HB.out) | (with_reducible refine Kd.C_alloc ?_ _) | (with_reducible refine Kd.C_drewN ?_ _) | (with_reducible refine Kd.C_drew ?_))); (case side6 => exact HC2.out); rintro e w69 ⟨v302, rfl, ho0, hb⟩; refine ⟨_, rfl, ?_⟩; have n0_ := Aside0.mk (Kd.R_below (mvR HO_11) hb); have n1_ := Aside0.mk (Kd.R_elder' (mvR HO_12) (Kd.R_base ho0) hb); have n2_ := Aside0.mk (Kd.R_lower (Kd.R_new' ho0 (Kd.R_lt (mvR HO_12))) (below_size (mvB HB))); have n3_ := Aside0.mk (below_step (mvB HB) hb); clear HO_11; clear HO_12; clear HB; have HO_11 := n0_; have HO_12 := n1_; have HO303 := n2_; have HB := n3_; clear n0_ n1_ n2_ n3_; (try clear hb); (try clear hb2); (try clear hk); (try clear hi); (try clear ho0); obtain ⟨Ao70, co70, eo70⟩ := Kd.R_slice HO_12.out; subst eo70) | ((with_reducible refine gate_callee (f := 11) rfl ?_); refine goesL_ (some 92) rfl rfl Tryd.func11 (by kernel_rfl) rfl #[.slice A0 l0.length c0, .slice A1 l1.length c1, .slice Ao70 x12_2.length co70, .int .u8 a3, .int .u8 a4] rfl (by (try simp only [List.map_toArray, List.map_cons, List.map_nil]); first | done | rfl | (simp only [List.length_drop, List.length_take]; rfl)) ?_; (with_reducible refine (pairs_Resolve.calls _ _ l0 _ _ l1 _ _ x12_2 a3 a4 t304 t305 _ ?side1 ?side2 ?side3 ?side4 ?side5 ?side6 A41.out (by exact HT.out.below (mvB HB))).mono ?_); (case side1 => repeat (first | exact (Kd.C_below HR0.out HB.out) | (with_reducible refine Kd.C_alloc ?_ _) | (with_reducible refine Kd.C_drewN ?_ _) | (with_reducible refine Kd.C_drew ?_))); (case side2 => exact HC0.out); (case side3 => repeat (first | exact (Kd.C_below HR1.out HB.out) | (with_reducible refine Kd.C_alloc ?_ _) | (with_reducible refine Kd.C_drewN ?_ _) | (with_reducible refine Kd.C_drew ?_))); (case side4 => exact HC1.out); (case side5 => repeat (first | exact (Kd.R_reads' HO_12.out).2.2 | (with_reducible refine Kd.C_alloc ?_ _) | (with_reducible refine Kd.C_drewN ?_ _) | (with_reducible refine Kd.C_drew ?_))); (case side6 => exact (Kd.R_reads' HO_12.out).2.1); rintro e w71 ⟨v306, rfl, ho0, hb⟩; refine ⟨_, rfl, ?_⟩; have n0_ := Aside0.mk (Kd.R_below (mvR HO_11) hb); have n1_ := Aside0.mk (Kd.R_elder' (mvR HO_12) (Kd.R_base ho0) hb); have n2_ := Aside0.mk (Kd.R_elder' (mvR HO303) (Kd.R_base ho0) hb); have n3_ := Aside0.mk (Kd.R_lower (Kd.R_new' (Kd.R_new' ho0 (Kd.R_lt (mvR HO_12))) (Kd.R_lt (mvR HO303))) (below_size (mvB HB))); have n4_ := Aside0.mk (below_step (mvB HB) hb); clear HO_11; clear HO_12; clear HO303; clear HB; have HO_11 := n0_; have HO_12 := n1_; have HO303 := n2_; have HO307 := n3_; have HB := n4_; clear n0_ n1_ n2_ n3_ n4_; (try clear hb); (try clear hb2); (try clear hk); (try clear hi); (try clear ho0); obtain ⟨Ao72, co72, eo72⟩ := Kd.R_slice HO303.out; subst eo72) | (go_at_call 13; (with_reducible refine (selvedgelaw17_is.calls k2 _ _ t300 _ _ l2 true _ ?side1 ?side2 ?side3 ?side4 A44.out).mono ?_); (case side1 => repeat (first | exact (Kd.R_reads' HO303.out).2.2 | (with_reducible refine Kd.C_alloc ?_ _) | (with_reducible refine Kd.C_drewN ?_ _) | (with_reducible refine Kd.C_drew ?_))); (case side2 => exact (Kd.R_reads' HO303.out).2.1); (case side3 => repeat (first | exact (Kd.C_below HR2.out HB.out) | (with_reducible refine Kd.C_alloc ?_ _) | (with_reducible refine Kd.C_drewN ?_ _) | (with_reducible refine Kd.C_drew ?_))); (case side4 => exact HC2.out); rintro e w' ⟨rfl, ⟨nd, rfl⟩⟩; obtain ⟨Ao73, co73, eo73⟩ := Kd.R_slice HO307.out; subst eo73) | (go_at_call 13; (with_reducible refine (selvedgelaw17_is.calls k2 _ _ t304 _ _ x12_2 false _ ?side1 ?side2 ?side3 ?side4 A46.out).mono ?_); (case side1 => repeat (first | exact (Kd.R_reads' HO307.out).2.2 | (with_reducible refine Kd.C_alloc ?_ _) | (with_reducible refine Kd.C_drewN ?_ _) | (with_reducible refine Kd.C_drew ?_))); (case side2 => exact (Kd.R_reads' HO307.out).2.1); (case side3 => repeat (first | exact (Kd.R_reads' HO_12.out).2.2 | (with_reducible refine Kd.C_alloc ?_ _) | (with_reducible refine Kd.C_drewN ?_ _) | (with_reducible refine Kd.C_drew ?_))); (case side4 => exact (Kd.R_reads' HO_12.out).2.1); rintro e w' ⟨rfl, ⟨nd, rfl⟩⟩))
           go_ret
           exact ⟨by first | rfl | (simp [errW_none, errW_some] <;> rfl) | (simp [*, errW_none, errW_some] <;> rfl), mvB HB⟩
         ·replace c45 := Bool.eq_false_iff.mpr c45
          subst c45
          have H1 : (some false) = some r := by rw [if_neg (show ¬ (false = true) by decide)] at H; exact H
          clear H
          have H := H1
          clear H1
          obtain rfl := Option.some.inj H
          obtain ⟨Ao74, co74, eo74⟩ := Kd.R_slice HO_11.out
          subst eo74
          go_wp2_with (first | ((with_reducible refine gate_callee (f := 11) rfl ?_); refine goesL_ (some 83) rfl rfl Tryd.func11 (by kernel_rfl) rfl #[.slice Ao74 x11_2.length co74, .slice A1 l1.length c1, .slice A2 l2.length c2, .int .u8 a3, .int .u8 a4] rfl (by (try simp only [List.map_toArray, List.map_cons, List.map_nil]); first | done | rfl | (simp only [List.length_drop, List.length_take]; rfl)) ?_; (with_reducible refine (pairs_Resolve.calls _ _ x11_2 _ _ l1 _ _ l2 a3 a4 t300 t301 _ ?side1 ?side2 ?side3 ?side4 ?side5 ?side6 A40.out (by exact HT.out.below (mvB HB))).mono ?_); (case side1 => repeat (first | exact (Kd.R_reads' HO_11.out).2.2 | (with_reducible refine Kd.C_alloc ?_ _) | (with_reducible refine Kd.C_drewN ?_ _) | (with_reducible refine Kd.C_drew ?_))); (case side2 => exact (Kd.R_reads' HO_11.out).2.1); (case side3 => repeat (first | exact (Kd.C_below HR1.out HB.out) | (with_reducible refine Kd.C_alloc ?_ _) | (with_reducible refine Kd.C_drewN ?_ _) | (with_reducible refine Kd.C_drew ?_))); (case side4 => exact HC1.out); (case side5 => repeat (first | exact (Kd.C_below HR2.out HB.out) | (with_reducible refine Kd.C_alloc ?_ _) | (with_reducible refine Kd.C_drewN ?_ _) | (with_reducible refine Kd.C_drew ?_))); (case side6 => exact HC2.out); rintro e w75 ⟨v302, rfl, ho0, hb⟩; refine ⟨_, rfl, ?_⟩; have n0_ := Aside0.mk (Kd.R_below (mvR HO_11) hb); have n1_ := Aside0.mk (Kd.R_elder' (mvR HO_12) (Kd.R_base ho0) hb); have n2_ := Aside0.mk (Kd.R_lower (Kd.R_new' ho0 (Kd.R_lt (mvR HO_12))) (below_size (mvB HB))); have n3_ := Aside0.mk (below_step (mvB HB) hb); clear HO_11; clear HO_12; clear HB; have HO_11 := n0_; have HO_12 := n1_; have HO303 := n2_; have HB := n3_; clear n0_ n1_ n2_ n3_; (try clear hb); (try clear hb2); (try clear hk); (try clear hi); (try clear ho0); obtain ⟨Ao76, co76, eo76⟩ := Kd.R_slice HO_12.out; subst eo76) | ((with_reducible refine gate_callee (f := 11) rfl ?_); refine goesL_ (some 92) rfl rfl Tryd.func11 (by kernel_rfl) rfl #[.slice A0 l0.length c0, .slice A1 l1.length c1, .slice Ao76 x12_2.length co76, .int .u8 a3, .int .u8 a4] rfl (by (try simp only [List.map_toArray, List.map_cons, List.map_nil]); first | done | rfl | (simp only [List.length_drop, List.length_take]; rfl)) ?_; (with_reducible refine (pairs_Resolve.calls _ _ l0 _ _ l1 _ _ x12_2 a3 a4 t304 t305 _ ?side1 ?side2 ?side3 ?side4 ?side5 ?side6 A41.out (by exact HT.out.below (mvB HB))).mono ?_); (case side1 => repeat (first | exact (Kd.C_below HR0.out HB.out) | (with_reducible refine Kd.C_alloc ?_ _) | (with_reducible refine Kd.C_drewN ?_ _) | (with_reducible refine Kd.C_drew ?_))); (case side2 => exact HC0.out); (case side3 => repeat (first | exact (Kd.C_below HR1.out HB.out) | (with_reducible refine Kd.C_alloc ?_ _) | (with_reducible refine Kd.C_drewN ?_ _) | (with_reducible refine Kd.C_drew ?_))); (case side4 => exact HC1.out); (case side5 => repeat (first | exact (Kd.R_reads' HO_12.out).2.2 | (with_reducible refine Kd.C_alloc ?_ _) | (with_reducible refine Kd.C_drewN ?_ _) | (with_reducible refine Kd.C_drew ?_))); (case side6 => exact (Kd.R_reads' HO_12.out).2.1); rintro e w77 ⟨v306, rfl, ho0, hb⟩; refine ⟨_, rfl, ?_⟩; have n0_ := Aside0.mk (Kd.R_below (mvR HO_11) hb); have n1_ := Aside0.mk (Kd.R_elder' (mvR HO_12) (Kd.R_base ho0) hb); have n2_ := Aside0.mk (Kd.R_elder' (mvR HO303) (Kd.R_base ho0) hb); have n3_ := Aside0.mk (Kd.R_lower (Kd.R_new' (Kd.R_new' ho0 (Kd.R_lt (mvR HO_12))) (Kd.R_lt (mvR HO303))) (below_size (mvB HB))); have n4_ := Aside0.mk (below_step (mvB HB) hb); clear HO_11; clear HO_12; clear HO303; clear HB; have HO_11 := n0_; have HO_12 := n1_; have HO303 := n2_; have HO307 := n3_; have HB := n4_; clear n0_ n1_ n2_ n3_ n4_; (try clear hb); (try clear hb2); (try clear hk); (try clear hi); (try clear ho0); obtain ⟨Ao78, co78, eo78⟩ := Kd.R_slice HO303.out; subst eo78) | (go_at_call 13; (with_reducible refine (selvedgelaw17_is.calls k2 _ _ t300 _ _ l2 false _ ?side1 ?side2 ?side3 ?side4 A44.out).mono ?_); (case side1 => repeat (first | exact (Kd.R_reads' HO303.out).2.2 | (with_reducible refine Kd.C_alloc ?_ _) | (with_reducible refine Kd.C_drewN ?_ _) | (with_reducible refine Kd.C_drew ?_))); (case side2 => exact (Kd.R_reads' HO303.out).2.1); (case side3 => repeat (first | exact (Kd.C_below HR2.out HB.out) | (with_reducible refine Kd.C_alloc ?_ _) | (with_reducible refine Kd.C_drewN ?_ _) | (with_reducible refine Kd.C_drew ?_))); (case side4 => exact HC2.out); rintro e w' ⟨rfl, ⟨nd, rfl⟩⟩))
          go_ret
          exact ⟨by first | rfl | (simp [errW_none, errW_some] <;> rfl) | (simp [*, errW_none, errW_some] <;> rfl), mvB HB⟩
        ·rw [if_neg c43] at H
         have c43b0 : (t305 == 0) = false := beq_eq_false_iff_ne.mpr c43
         have c43b1 : (t305 != 0) = true := bne_iff_ne.mpr c43
         obtain rfl := Option.some.inj H
         obtain ⟨Ao79, co79, eo79⟩ := Kd.R_slice HO_11.out
         subst eo79
         go_wp2_with (first | ((with_reducible refine gate_callee (f := 11) rfl ?_); refine goesL_ (some 83) rfl rfl Tryd.func11 (by kernel_rfl) rfl #[.slice Ao79 x11_2.length co79, .slice A1 l1.length c1, .slice A2 l2.length c2, .int .u8 a3, .int .u8 a4] rfl (by (try simp only [List.map_toArray, List.map_cons, List.map_nil]); first | done | rfl | (simp only [List.length_drop, List.length_take]; rfl)) ?_; (with_reducible refine (pairs_Resolve.calls _ _ x11_2 _ _ l1 _ _ l2 a3 a4 t300 t301 _ ?side1 ?side2 ?side3 ?side4 ?side5 ?side6 A40.out (by exact HT.out.below (mvB HB))).mono ?_); (case side1 => repeat (first | exact (Kd.R_reads' HO_11.out).2.2 | (with_reducible refine Kd.C_alloc ?_ _) | (with_reducible refine Kd.C_drewN ?_ _) | (with_reducible refine Kd.C_drew ?_))); (case side2 => exact (Kd.R_reads' HO_11.out).2.1); (case side3 => repeat (first | exact (Kd.C_below HR1.out HB.out) | (with_reducible refine Kd.C_alloc ?_ _) | (with_reducible refine Kd.C_drewN ?_ _) | (with_reducible refine Kd.C_drew ?_))); (case side4 => exact HC1.out); (case side5 => repeat (first | exact (Kd.C_below HR2.out HB.out) | (with_reducible refine Kd.C_alloc ?_ _) | (with_reducible refine Kd.C_drewN ?_ _) | (with_reducible refine Kd.C_drew ?_))); (case side6 => exact HC2.out); rintro e w80 ⟨v302, rfl, ho0, hb⟩; refine ⟨_, rfl, ?_⟩; have n0_ := Aside0.mk (Kd.R_below (mvR HO_11) hb); have n1_ := Aside0.mk (Kd.R_elder' (mvR HO_12) (Kd.R_base ho0) hb); have n2_ := Aside0.mk (Kd.R_lower (Kd.R_new' ho0 (Kd.R_lt (mvR HO_12))) (below_size (mvB HB))); have n3_ := Aside0.mk (below_step (mvB HB) hb); clear HO_11; clear HO_12; clear HB; have HO_11 := n0_; have HO_12 := n1_; have HO303 := n2_; have HB := n3_; clear n0_ n1_ n2_ n3_; (try clear hb); (try clear hb2); (try clear hk); (try clear hi); (try clear ho0); obtain ⟨Ao81, co81, eo81⟩ := Kd.R_slice HO_12.out; subst eo81) | ((with_reducible refine gate_callee (f := 11) rfl ?_); refine goesL_ (some 92) rfl rfl Tryd.func11 (by kernel_rfl) rfl #[.slice A0 l0.length c0, .slice A1 l1.length c1, .slice Ao81 x12_2.length co81, .int .u8 a3, .int .u8 a4] rfl (by (try simp only [List.map_toArray, List.map_cons, List.map_nil]); first | done | rfl | (simp only [List.length_drop, List.length_take]; rfl)) ?_; (with_reducible refine (pairs_Resolve.calls _ _ l0 _ _ l1 _ _ x12_2 a3 a4 t304 t305 _ ?side1 ?side2 ?side3 ?side4 ?side5 ?side6 A41.out (by exact HT.out.below (mvB HB))).mono ?_); (case side1 => repeat (first | exact (Kd.C_below HR0.out HB.out) | (with_reducible refine Kd.C_alloc ?_ _) | (with_reducible refine Kd.C_drewN ?_ _) | (with_reducible refine Kd.C_drew ?_))); (case side2 => exact HC0.out); (case side3 => repeat (first | exact (Kd.C_below HR1.out HB.out) | (with_reducible refine Kd.C_alloc ?_ _) | (with_reducible refine Kd.C_drewN ?_ _) | (with_reducible refine Kd.C_drew ?_))); (case side4 => exact HC1.out); (case side5 => repeat (first | exact (Kd.R_reads' HO_12.out).2.2 | (with_reducible refine Kd.C_alloc ?_ _) | (with_reducible refine Kd.C_drewN ?_ _) | (with_reducible refine Kd.C_drew ?_))); (case side6 => exact (Kd.R_reads' HO_12.out).2.1); rintro e w82 ⟨v306, rfl, ho0, hb⟩; refine ⟨_, rfl, ?_⟩; have n0_ := Aside0.mk (Kd.R_below (mvR HO_11) hb); have n1_ := Aside0.mk (Kd.R_elder' (mvR HO_12) (Kd.R_base ho0) hb); have n2_ := Aside0.mk (Kd.R_elder' (mvR HO303) (Kd.R_base ho0) hb); have n3_ := Aside0.mk (Kd.R_lower (Kd.R_new' (Kd.R_new' ho0 (Kd.R_lt (mvR HO_12))) (Kd.R_lt (mvR HO303))) (below_size (mvB HB))); have n4_ := Aside0.mk (below_step (mvB HB) hb); clear HO_11; clear HO_12; clear HO303; clear HB; have HO_11 := n0_; have HO_12 := n1_; have HO303 := n2_; have HO307 := n3_; have HB := n4_; clear n0_ n1_ n2_ n3_ n4_; (try clear hb); (try clear hb2); (try clear hk); (try clear hi); (try clear ho0)))
         go_ret
         exact ⟨by first | rfl | (simp [errW_none, errW_some] <;> rfl) | (simp [*, errW_none, errW_some] <;> rfl), mvB HB⟩
       ·rw [if_neg c42] at H
        have c42b0 : (t301 == 0) = false := beq_eq_false_iff_ne.mpr c42
        have c42b1 : (t301 != 0) = true := bne_iff_ne.mpr c42
        obtain rfl := Option.some.inj H
        obtain ⟨Ao83, co83, eo83⟩ := Kd.R_slice HO_11.out
        subst eo83
        go_wp2_with (first | ((with_reducible refine gate_callee (f := 11) rfl ?_); refine goesL_ (some 83) rfl rfl Tryd.func11 (by kernel_rfl) rfl #[.slice Ao83 x11_2.length co83, .slice A1 l1.length c1, .slice A2 l2.length c2, .int .u8 a3, .int .u8 a4] rfl (by (try simp only [List.map_toArray, List.map_cons, List.map_nil]); first | done | rfl | (simp only [List.length_drop, List.length_take]; rfl)) ?_; (with_reducible refine (pairs_Resolve.calls _ _ x11_2 _ _ l1 _ _ l2 a3 a4 t300 t301 _ ?side1 ?side2 ?side3 ?side4 ?side5 ?side6 A40.out (by exact HT.out.below (mvB HB))).mono ?_); (case side1 => repeat (first | exact (Kd.R_reads' HO_11.out).2.2 | (with_reducible refine Kd.C_alloc ?_ _) | (with_reducible refine Kd.C_drewN ?_ _) | (with_reducible refine Kd.C_drew ?_))); (case side2 => exact (Kd.R_reads' HO_11.out).2.1); (case side3 => repeat (first | exact (Kd.C_below HR1.out HB.out) | (with_reducible refine Kd.C_alloc ?_ _) | (with_reducible refine Kd.C_drewN ?_ _) | (with_reducible refine Kd.C_drew ?_))); (case side4 => exact HC1.out); (case side5 => repeat (first | exact (Kd.C_below HR2.out HB.out) | (with_reducible refine Kd.C_alloc ?_ _) | (with_reducible refine Kd.C_drewN ?_ _) | (with_reducible refine Kd.C_drew ?_))); (case side6 => exact HC2.out); rintro e w84 ⟨v302, rfl, ho0, hb⟩; refine ⟨_, rfl, ?_⟩; have n0_ := Aside0.mk (Kd.R_below (mvR HO_11) hb); have n1_ := Aside0.mk (Kd.R_elder' (mvR HO_12) (Kd.R_base ho0) hb); have n2_ := Aside0.mk (Kd.R_lower (Kd.R_new' ho0 (Kd.R_lt (mvR HO_12))) (below_size (mvB HB))); have n3_ := Aside0.mk (below_step (mvB HB) hb); clear HO_11; clear HO_12; clear HB; have HO_11 := n0_; have HO_12 := n1_; have HO303 := n2_; have HB := n3_; clear n0_ n1_ n2_ n3_; (try clear hb); (try clear hb2); (try clear hk); (try clear hi); (try clear ho0); obtain ⟨Ao85, co85, eo85⟩ := Kd.R_slice HO_12.out; subst eo85) | ((with_reducible refine gate_callee (f := 11) rfl ?_); refine goesL_ (some 92) rfl rfl Tryd.func11 (by kernel_rfl) rfl #[.slice A0 l0.length c0, .slice A1 l1.length c1, .slice Ao85 x12_2.length co85, .int .u8 a3, .int .u8 a4] rfl (by (try simp only [List.map_toArray, List.map_cons, List.map_nil]); first | done | rfl | (simp only [List.length_drop, List.length_take]; rfl)) ?_; (with_reducible refine (pairs_Resolve.calls _ _ l0 _ _ l1 _ _ x12_2 a3 a4 t304 t305 _ ?side1 ?side2 ?side3 ?side4 ?side5 ?side6 A41.out (by exact HT.out.below (mvB HB))).mono ?_); (case side1 => repeat (first | exact (Kd.C_below HR0.out HB.out) | (with_reducible refine Kd.C_alloc ?_ _) | (with_reducible refine Kd.C_drewN ?_ _) | (with_reducible refine Kd.C_drew ?_))); (case side2 => exact HC0.out); (case side3 => repeat (first | exact (Kd.C_below HR1.out HB.out) | (with_reducible refine Kd.C_alloc ?_ _) | (with_reducible refine Kd.C_drewN ?_ _) | (with_reducible refine Kd.C_drew ?_))); (case side4 => exact HC1.out); (case side5 => repeat (first | exact (Kd.R_reads' HO_12.out).2.2 | (with_reducible refine Kd.C_alloc ?_ _) | (with_reducible refine Kd.C_drewN ?_ _) | (with_reducible refine Kd.C_drew ?_))); (case side6 => exact (Kd.R_reads' HO_12.out).2.1); rintro e w86 ⟨v306, rfl, ho0, hb⟩; refine ⟨_, rfl, ?_⟩; have n0_ := Aside0.mk (Kd.R_below (mvR HO_11) hb); have n1_ := Aside0.mk (Kd.R_elder' (mvR HO_12) (Kd.R_base ho0) hb); have n2_ := Aside0.mk (Kd.R_elder' (mvR HO303) (Kd.R_base ho0) hb); have n3_ := Aside0.mk (Kd.R_lower (Kd.R_new' (Kd.R_new' ho0 (Kd.R_lt (mvR HO_12))) (Kd.R_lt (mvR HO303))) (below_size (mvB HB))); have n4_ := Aside0.mk (below_step (mvB HB) hb); clear HO_11; clear HO_12; clear HO303; clear HB; have HO_11 := n0_; have HO_12 := n1_; have HO303 := n2_; have HO307 := n3_; have HB := n4_; clear n0_ n1_ n2_ n3_ n4_; (try clear hb); (try clear hb2); (try clear hk); (try clear hi); (try clear ho0)))
        go_ret
        exact ⟨by first | rfl | (simp [errW_none, errW_some] <;> rfl) | (simp [*, errW_none, errW_some] <;> rfl), mvB HB⟩

/-- THE ONE PURE STATEMENT of selvedgelaw17_PairsPlain: yours. -/
def selvedgelaw17_PairsPlain.Pure : Prop := ∀ (l0 : List Int) (l1 : List Int) (l2 : List Int) (a3 : Int) (a4 : Int), l0.length ≤ maxLen → l0.length * 4 ≤ 140737488351232 → (∀ x ∈ l0, (Lit.int .i32 x).wf = true) → l1.length ≤ maxLen → l1.length * 1 ≤ 140737488351232 → (∀ x ∈ l1, (Lit.int .u8 x).wf = true) → l2.length ≤ maxLen → l2.length * 1 ≤ 140737488351232 → (∀ x ∈ l2, (Lit.int .u8 x).wf = true) → (Lit.int .u8 a3).wf = true → (Lit.int .u8 a4).wf = true → ∃ k, selvedgelaw17_PairsPlain.f k l0 l1 l2 a3 a4 = some true
theorem selvedgelaw17_PairsPlain.walk (P : selvedgelaw17_PairsPlain.Pure) (a0 : Option Addr) (len0 cap0 : Nat) (z0 : List Int) (a1 : Option Addr) (len1 cap1 : Nat) (z1 : List Int) (a2 : Option Addr) (len2 cap2 : Nat) (z2 : List Int) (a3 : Int) (a4 : Int) (w : World) (w0 : (a0 = none ∧ len0 = 0 ∧ cap0 = 0 ∧ z0 = []) ∨ ∃ x, a0 = some x ∧ len0 ≤ cap0 ∧ cap0 ≤ maxLen ∧ z0.length = cap0 ∧ (∀ i, i < z0.length → w.cell? (x.add i) = some (.int .i32 (z0.getD i 0))) ∧ ∀ n ∈ z0, (Lit.int .i32 n).wf = true) (y0 : len0 * 4 ≤ 140737488351232) (w1 : (a1 = none ∧ len1 = 0 ∧ cap1 = 0 ∧ z1 = []) ∨ ∃ x, a1 = some x ∧ len1 ≤ cap1 ∧ cap1 ≤ maxLen ∧ z1.length = cap1 ∧ (∀ i, i < z1.length → w.cell? (x.add i) = some (.int .u8 (z1.getD i 0))) ∧ ∀ n ∈ z1, (Lit.int .u8 n).wf = true) (y1 : len1 * 1 ≤ 140737488351232) (w2 : (a2 = none ∧ len2 = 0 ∧ cap2 = 0 ∧ z2 = []) ∨ ∃ x, a2 = some x ∧ len2 ≤ cap2 ∧ cap2 ≤ maxLen ∧ z2.length = cap2 ∧ (∀ i, i < z2.length → w.cell? (x.add i) = some (.int .u8 (z2.getD i 0))) ∧ ∀ n ∈ z2, (Lit.int .u8 n).wf = true) (y2 : len2 * 1 ≤ 140737488351232) (w3 : (Lit.int .u8 a3).wf = true) (w4 : (Lit.int .u8 a4).wf = true) (hT : Tabs w) :
  Calls Tryd.prog 6 #[.slice a0 len0 cap0, .slice a1 len1 cap1, .slice a2 len2 cap2, .int .u8 a3, .int .u8 a4] w fun e w' => e = .returned (.bool true) ∧ Below w.heap.size w w' := by
 obtain ⟨l0, rfl, hr0, hm0, hw0, hc0⟩ := ReadsInt.ofRowC w0
 obtain ⟨l1, rfl, hr1, hm1, hw1, hc1⟩ := ReadsInt.ofRowC w1
 obtain ⟨l2, rfl, hr2, hm2, hw2, hc2⟩ := ReadsInt.ofRowC w2
 obtain ⟨k, h⟩ := P l0 l1 l2 a3 a4 hm0 y0 hw0 hm1 y1 hw1 hm2 y2 hw2 w3 w4
 refine (selvedgelaw17_PairsPlain.calls k _ _ l0 _ _ l1 _ _ l2 a3 a4 true w (Kd.C_of_reads (d := (0 : Int)) (h1 := fun _ => rfl) hr0) hc0 (Kd.C_of_reads (d := (0 : Int)) (h1 := fun _ => rfl) hr1) hc1 (Kd.C_of_reads (d := (0 : Int)) (h1 := fun _ => rfl) hr2) hc2 h hT).mono ?_
 rintro e w' ⟨rfl, hd⟩
 exact ⟨rfl, hd⟩

-- NOT PRINTED: function 7 (selvedgelaw17_PairsKnown)

end Go.Proofs.YtiogpnefnapfeaaDoor.X
