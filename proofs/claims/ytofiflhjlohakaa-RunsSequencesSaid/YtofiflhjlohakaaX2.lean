-- by xprint.py: the kit's printer over texts of this session
import Derived.Test.YtofiflhjlohakaaX0
import Derived.Test.YtofiflhjlohakaaU2
namespace Go.Proofs.Ytofiflhjlohakaa.X
open Go.RowKit Go.Proofs.YtofiflhjlohakaaW.PrintWords Go.Proofs.YtofiflhjlohakaaW.PrintLast Go.Proofs.YtofiflhjlohakaaW.PrintMore
attribute [local go_sem] max2_int min2_int max_two min_two max_three min_three max_four min_four   -- for this text's walks alone
set_option linter.unusedVariables false
set_option linter.unusedSimpArgs false

/-! ### selvedgeref15_runs: function 16 -/
mutual
def selvedgeref15_runs.l0 : Nat → List Int → List Int → List (S55) → Int → Option ((List (S55)))
 | 0, _, _, _, _ => none
 | k + 1, x0, x1, x5, x6 => if x6 < (x0.length : Int) then (if 0 ≤ x6 then ((selvedgeref14_Removed.f (rd x0 x6)).bind fun t124 => (if t124 = true then (selvedgeref15_runs.l0 k x0 x1 x5 (wrap64 (x6 + 1))) else (if (x5.length : Int) = 0 then (if x5.length < 3518437208883 then ((some (x5 ++ [(⟨([] : List Int), (-1), (-1)⟩ : S55)] : List (S55))).bind fun y125 => (if 0 ≤ (wrap64 ((wrap64 ((x5.length : Int) + 1)) - 1)) then (if (wrap64 ((wrap64 ((x5.length : Int) + 1)) - 1)) < (y125.length : Int) then (if ((rd_T55 y125 (wrap64 ((wrap64 ((x5.length : Int) + 1)) - 1))).f0).length < 17592186044416 then (selvedgeref15_runs.l0 k x0 x1 (y125.set ((wrap64 ((wrap64 ((x5.length : Int) + 1)) - 1)) : Int).toNat (⟨(((rd_T55 y125 (wrap64 ((wrap64 ((x5.length : Int) + 1)) - 1))).f0) ++ [x6]), (rd_T55 y125 (wrap64 ((wrap64 ((x5.length : Int) + 1)) - 1))).f1, (rd_T55 y125 (wrap64 ((wrap64 ((x5.length : Int) + 1)) - 1))).f2⟩ : S55)) (wrap64 (x6 + 1))) else (none)) else (none)) else (none))) else (none)) else (if 0 ≤ (wrap64 ((x5.length : Int) - 1)) then (if (wrap64 ((x5.length : Int) - 1)) < (x5.length : Int) then (if 0 < (((rd_T55 x5 (wrap64 ((x5.length : Int) - 1))).f0).length : Int) then (if 0 ≤ (rd ((rd_T55 x5 (wrap64 ((x5.length : Int) - 1))).f0) 0) then (if (rd ((rd_T55 x5 (wrap64 ((x5.length : Int) - 1))).f0) 0) < (x1.length : Int) then (if x6 < (x1.length : Int) then (if (rd x1 (rd ((rd_T55 x5 (wrap64 ((x5.length : Int) - 1))).f0) 0)) = (rd x1 x6) then (if ((rd_T55 x5 (wrap64 ((x5.length : Int) - 1))).f0).length < 17592186044416 then (selvedgeref15_runs.l0 k x0 x1 (x5.set ((wrap64 ((x5.length : Int) - 1)) : Int).toNat (⟨(((rd_T55 x5 (wrap64 ((x5.length : Int) - 1))).f0) ++ [x6]), (rd_T55 x5 (wrap64 ((x5.length : Int) - 1))).f1, (rd_T55 x5 (wrap64 ((x5.length : Int) - 1))).f2⟩ : S55)) (wrap64 (x6 + 1))) else (none)) else (if x5.length < 3518437208883 then ((some (x5 ++ [(⟨([] : List Int), (-1), (-1)⟩ : S55)] : List (S55))).bind fun y142 => (if 0 ≤ (wrap64 ((wrap64 ((x5.length : Int) + 1)) - 1)) then (if (wrap64 ((wrap64 ((x5.length : Int) + 1)) - 1)) < (y142.length : Int) then (if ((rd_T55 y142 (wrap64 ((wrap64 ((x5.length : Int) + 1)) - 1))).f0).length < 17592186044416 then (selvedgeref15_runs.l0 k x0 x1 (y142.set ((wrap64 ((wrap64 ((x5.length : Int) + 1)) - 1)) : Int).toNat (⟨(((rd_T55 y142 (wrap64 ((wrap64 ((x5.length : Int) + 1)) - 1))).f0) ++ [x6]), (rd_T55 y142 (wrap64 ((wrap64 ((x5.length : Int) + 1)) - 1))).f1, (rd_T55 y142 (wrap64 ((wrap64 ((x5.length : Int) + 1)) - 1))).f2⟩ : S55)) (wrap64 (x6 + 1))) else (none)) else (none)) else (none))) else (none))) else (none)) else (none)) else (none)) else (none)) else (none)) else (none))))) else (none)) else ((selvedgeref14_Match.f k x0).bind fun t150 => (if 0 ≤ (x0.length : Int) then (if ((x0.length : Int) : Int).toNat ≤ 35184372088832 then (selvedgeref15_runs.l1 k x0 x5 t150 (List.replicate ((x0.length : Int) : Int).toNat 0) 0) else (none)) else (none)))
def selvedgeref15_runs.l1 : Nat → List Int → List (S55) → List Int → List Int → Int → Option ((List (S55)))
 | 0, _, _, _, _, _ => none
 | k + 1, x0, x5, x8, x9, x10 => if x10 < (x0.length : Int) then (if 0 ≤ x10 then (if x10 < (x9.length : Int) then (selvedgeref15_runs.l1 k x0 x5 x8 (x9.set (x10 : Int).toNat (-1)) (wrap64 (x10 + 1))) else (none)) else (none)) else (selvedgeref15_runs.l2 k x0 x5 x8 x9 0)
def selvedgeref15_runs.l2 : Nat → List Int → List (S55) → List Int → List Int → Int → Option ((List (S55)))
 | 0, _, _, _, _, _ => none
 | k + 1, x0, x5, x8, x9, x11 => if x11 < (x5.length : Int) then (if 0 ≤ x11 then (if 0 < (((rd_T55 x5 x11).f0).length : Int) then (if 0 ≤ (rd ((rd_T55 x5 x11).f0) 0) then (if (rd ((rd_T55 x5 x11).f0) 0) < (x9.length : Int) then (selvedgeref15_runs.l2 k x0 x5 x8 (x9.set ((rd ((rd_T55 x5 x11).f0) 0) : Int).toNat x11) (wrap64 (x11 + 1))) else (none)) else (none)) else (none)) else (none)) else (selvedgeref15_runs.l3 k x0 x5 x8 x9 0)
def selvedgeref15_runs.l3 : Nat → List Int → List (S55) → List Int → List Int → Int → Option ((List (S55)))
 | 0, _, _, _, _, _ => none
 | k + 1, x0, x5, x8, x9, x12 => if x12 < (x5.length : Int) then (if 0 ≤ x12 then (if 0 ≤ (wrap64 ((((rd_T55 x5 x12).f0).length : Int) - 1)) then (if (wrap64 ((((rd_T55 x5 x12).f0).length : Int) - 1)) < (((rd_T55 x5 x12).f0).length : Int) then (if 0 ≤ (rd ((rd_T55 x5 x12).f0) (wrap64 ((((rd_T55 x5 x12).f0).length : Int) - 1))) then (if (rd ((rd_T55 x5 x12).f0) (wrap64 ((((rd_T55 x5 x12).f0).length : Int) - 1))) < (x0.length : Int) then ((selvedgeref14_Initiator.f (rd x0 (rd ((rd_T55 x5 x12).f0) (wrap64 ((((rd_T55 x5 x12).f0).length : Int) - 1))))).bind fun t164 => (if t164 = true then (if (rd ((rd_T55 x5 x12).f0) (wrap64 ((((rd_T55 x5 x12).f0).length : Int) - 1))) < (x8.length : Int) then (if (rd x8 (rd ((rd_T55 x5 x12).f0) (wrap64 ((((rd_T55 x5 x12).f0).length : Int) - 1)))) ≥ 0 then (if 0 ≤ (rd x8 (rd ((rd_T55 x5 x12).f0) (wrap64 ((((rd_T55 x5 x12).f0).length : Int) - 1)))) then (if (rd x8 (rd ((rd_T55 x5 x12).f0) (wrap64 ((((rd_T55 x5 x12).f0).length : Int) - 1)))) < (x9.length : Int) then (if (rd x9 (rd x8 (rd ((rd_T55 x5 x12).f0) (wrap64 ((((rd_T55 x5 x12).f0).length : Int) - 1))))) ≥ 0 then ((some (x5.set (x12 : Int).toNat (⟨(rd_T55 x5 x12).f0, rd x9 (rd x8 (rd ((rd_T55 x5 x12).f0) (wrap64 ((((rd_T55 x5 x12).f0).length : Int) - 1)))), (rd_T55 x5 x12).f2⟩ : S55) : List (S55))).bind fun y170 => (if 0 ≤ (rd x9 (rd x8 (rd ((rd_T55 x5 x12).f0) (wrap64 ((((rd_T55 x5 x12).f0).length : Int) - 1))))) then (if (rd x9 (rd x8 (rd ((rd_T55 x5 x12).f0) (wrap64 ((((rd_T55 x5 x12).f0).length : Int) - 1))))) < (x5.length : Int) then (selvedgeref15_runs.l3 k x0 (y170.set ((rd x9 (rd x8 (rd ((rd_T55 x5 x12).f0) (wrap64 ((((rd_T55 x5 x12).f0).length : Int) - 1))))) : Int).toNat (⟨(rd_T55 y170 (rd x9 (rd x8 (rd ((rd_T55 x5 x12).f0) (wrap64 ((((rd_T55 x5 x12).f0).length : Int) - 1)))))).f0, (rd_T55 y170 (rd x9 (rd x8 (rd ((rd_T55 x5 x12).f0) (wrap64 ((((rd_T55 x5 x12).f0).length : Int) - 1)))))).f1, x12⟩ : S55)) x8 x9 (wrap64 (x12 + 1))) else (none)) else (none))) else (selvedgeref15_runs.l3 k x0 x5 x8 x9 (wrap64 (x12 + 1)))) else (none)) else (none)) else (selvedgeref15_runs.l3 k x0 x5 x8 x9 (wrap64 (x12 + 1)))) else (none)) else (selvedgeref15_runs.l3 k x0 x5 x8 x9 (wrap64 (x12 + 1))))) else (none)) else (none)) else (none)) else (none)) else (none)) else (some x5)
end
def selvedgeref15_runs.f (k : Nat) (l0 : List Int) (l1 : List Int) : Option ((List (S55))) := selvedgeref15_runs.l0 k l0 l1 ([] : List (S55)) 0
theorem selvedgeref15_runs.mono_l : ∀ k, (∀ y0 y1 y2 y3, LeO (selvedgeref15_runs.l0 k y0 y1 y2 y3) (selvedgeref15_runs.l0 (k + 1) y0 y1 y2 y3)) ∧ (∀ y0 y1 y2 y3 y4, LeO (selvedgeref15_runs.l1 k y0 y1 y2 y3 y4) (selvedgeref15_runs.l1 (k + 1) y0 y1 y2 y3 y4)) ∧ (∀ y0 y1 y2 y3 y4, LeO (selvedgeref15_runs.l2 k y0 y1 y2 y3 y4) (selvedgeref15_runs.l2 (k + 1) y0 y1 y2 y3 y4)) ∧ (∀ y0 y1 y2 y3 y4, LeO (selvedgeref15_runs.l3 k y0 y1 y2 y3 y4) (selvedgeref15_runs.l3 (k + 1) y0 y1 y2 y3 y4))
 | 0 => ⟨fun _ _ _ _ r h => by simp [selvedgeref15_runs.l0] at h, fun _ _ _ _ _ r h => by simp [selvedgeref15_runs.l1] at h, fun _ _ _ _ _ r h => by simp [selvedgeref15_runs.l2] at h, fun _ _ _ _ _ r h => by simp [selvedgeref15_runs.l3] at h⟩
 | k + 1 => by
  obtain ⟨ih0, ih1, ih2, ih3⟩ := selvedgeref15_runs.mono_l k
  refine ⟨?_, ?_, ?_, ?_⟩
  ·intro y0 y1 y2 y3
   unfold selvedgeref15_runs.l0
   repeat' first
   | (with_reducible exact ih0 _ _ _ _)
   | (with_reducible exact ih1 _ _ _ _ _)
   | (with_reducible exact ih2 _ _ _ _ _)
   | (with_reducible exact ih3 _ _ _ _ _)
   | (with_reducible exact selvedgeref14_Match.mono _ _)
   | (with_reducible exact LeO.refl _)
   | (with_reducible exact LeO.none _)
   | (with_reducible refine LeO.ite ?_ ?_)
   | (with_reducible refine LeO.bind ?_ (fun _ => ?_))
   | exact ih0 _ _ _ _
   | exact ih1 _ _ _ _ _
   | exact ih2 _ _ _ _ _
   | exact ih3 _ _ _ _ _
   | exact selvedgeref14_Match.mono _ _
   | exact LeO.none _
   | refine LeO.ite ?_ ?_
   | refine LeO.bind ?_ (fun _ => ?_)
  ·intro y0 y1 y2 y3 y4
   unfold selvedgeref15_runs.l1
   repeat' first
   | (with_reducible exact ih0 _ _ _ _)
   | (with_reducible exact ih1 _ _ _ _ _)
   | (with_reducible exact ih2 _ _ _ _ _)
   | (with_reducible exact ih3 _ _ _ _ _)
   | (with_reducible exact selvedgeref14_Match.mono _ _)
   | (with_reducible exact LeO.refl _)
   | (with_reducible exact LeO.none _)
   | (with_reducible refine LeO.ite ?_ ?_)
   | (with_reducible refine LeO.bind ?_ (fun _ => ?_))
   | exact ih0 _ _ _ _
   | exact ih1 _ _ _ _ _
   | exact ih2 _ _ _ _ _
   | exact ih3 _ _ _ _ _
   | exact selvedgeref14_Match.mono _ _
   | exact LeO.none _
   | refine LeO.ite ?_ ?_
   | refine LeO.bind ?_ (fun _ => ?_)
  ·intro y0 y1 y2 y3 y4
   unfold selvedgeref15_runs.l2
   repeat' first
   | (with_reducible exact ih0 _ _ _ _)
   | (with_reducible exact ih1 _ _ _ _ _)
   | (with_reducible exact ih2 _ _ _ _ _)
   | (with_reducible exact ih3 _ _ _ _ _)
   | (with_reducible exact selvedgeref14_Match.mono _ _)
   | (with_reducible exact LeO.refl _)
   | (with_reducible exact LeO.none _)
   | (with_reducible refine LeO.ite ?_ ?_)
   | (with_reducible refine LeO.bind ?_ (fun _ => ?_))
   | exact ih0 _ _ _ _
   | exact ih1 _ _ _ _ _
   | exact ih2 _ _ _ _ _
   | exact ih3 _ _ _ _ _
   | exact selvedgeref14_Match.mono _ _
   | exact LeO.none _
   | refine LeO.ite ?_ ?_
   | refine LeO.bind ?_ (fun _ => ?_)
  ·intro y0 y1 y2 y3 y4
   unfold selvedgeref15_runs.l3
   repeat' first
   | (with_reducible exact ih0 _ _ _ _)
   | (with_reducible exact ih1 _ _ _ _ _)
   | (with_reducible exact ih2 _ _ _ _ _)
   | (with_reducible exact ih3 _ _ _ _ _)
   | (with_reducible exact selvedgeref14_Match.mono _ _)
   | (with_reducible exact LeO.refl _)
   | (with_reducible exact LeO.none _)
   | (with_reducible refine LeO.ite ?_ ?_)
   | (with_reducible refine LeO.bind ?_ (fun _ => ?_))
   | exact ih0 _ _ _ _
   | exact ih1 _ _ _ _ _
   | exact ih2 _ _ _ _ _
   | exact ih3 _ _ _ _ _
   | exact selvedgeref14_Match.mono _ _
   | exact LeO.none _
   | refine LeO.ite ?_ ?_
   | refine LeO.bind ?_ (fun _ => ?_)
theorem selvedgeref15_runs.mono : ∀ a0 a1 k, LeO (selvedgeref15_runs.f k a0 a1) (selvedgeref15_runs.f (k + 1) a0 a1) := by
 intro a0 a1 k
 obtain ⟨ih0, ih1, ih2, ih3⟩ := selvedgeref15_runs.mono_l k
 unfold selvedgeref15_runs.f
 repeat' first
   | (with_reducible exact ih0 _ _ _ _)
   | (with_reducible exact ih1 _ _ _ _ _)
   | (with_reducible exact ih2 _ _ _ _ _)
   | (with_reducible exact ih3 _ _ _ _ _)
   | (with_reducible exact selvedgeref14_Match.mono _ _)
   | (with_reducible exact LeO.refl _)
   | (with_reducible exact LeO.none _)
   | (with_reducible refine LeO.ite ?_ ?_)
   | (with_reducible refine LeO.bind ?_ (fun _ => ?_))
   | exact ih0 _ _ _ _
   | exact ih1 _ _ _ _ _
   | exact ih2 _ _ _ _ _
   | exact ih3 _ _ _ _ _
   | exact selvedgeref14_Match.mono _ _
   | exact LeO.none _
   | refine LeO.ite ?_ ?_
   | refine LeO.bind ?_ (fun _ => ?_)
set_option maxHeartbeats 8000000 in
set_option maxRecDepth 100000 in
theorem selvedgeref15_runs.calls (k : Nat) (A0 : Option Addr) (c0 : Nat) (l0 : List Int) (A1 : Option Addr) (c1 : Nat) (l1 : List Int) (r : List (S55)) (w : World) (hr0 : Kd.C (Kd.int .u8) w A0 l0.length l0) (hc0 : l0.length ≤ c0) (hr1 : Kd.C (Kd.int .u8) w A1 l1.length l1) (hc1 : l1.length ≤ c1) (h : selvedgeref15_runs.f k l0 l1 = some r) :
  Calls Try.prog 16 #[.slice A0 l0.length c0, .slice A1 l1.length c1] w fun e w' => ∃ v0_ : Value, e = .returned (v0_) ∧ Kd.S k55 55 w' w.heap.size (fun _ => True) v0_ r ∧ Below w.heap.size w w' := by
 have hu55 := Try.underlying55
 have HR0 := Aside0.mk hr0
 have HC0 := Aside0.mk hc0
 clear hr0 hc0
 have HR1 := Aside0.mk hr1
 have HC1 := Aside0.mk hc1
 clear hr1 hc1
 have HB := Aside0.mk (Below.refl w.heap.size w)
 have H : (selvedgeref15_runs.l0 k l0 l1 ([] : List (S55)) 0) = some r := h
 clear h
 have H' := Aside0.mk H
 clear H
 go_enter Try.func16, Try.ntmps16
 go_wp2
 repeat (go_quiet (fail); try go_wp2)
 go_loopg [5, 6] k (fun kq v5 v6 w' => ∃ (x5_1 : List (S55)) (x6_1 : Int), v6 = .int .i64 x6_1 ∧ Aside0 (selvedgeref15_runs.l0 kq l0 l1 x5_1 x6_1 = some r) ∧ Aside0 (kq ≤ k) ∧ Aside0 (Kd.S k55 55 w' w.heap.size (fun _ => True) v5 x5_1) ∧ Aside0 (Below w.heap.size w w'))
 case atStart => exact ⟨(([] : List (S55))), (0), (by first | rfl | (simp; done) | (simp [*]; done)), H', ⟨Nat.le_refl _⟩, ⟨by first | exact Kd.S_nil _ _ _ _ _ | exact Kd.N_nil _ _ _ _ _ | exact Kd.V_nil _ _ _ _ _ | exact Kd.Q_nil _ _ _ _ _ | exact Kd.R_nil _ _ _ _ _⟩, ⟨mvB HB⟩⟩
 case round =>
  clear H'
  try clear c1
  try clear p2
  obtain ⟨x5_1, x6_1, rfl, HA, HK1, HO_5, HB⟩ := hrel
  cases gk with
  | zero => exact absurd HA.out (by simp [selvedgeref15_runs.l0])
  | succ k1 =>
   have H := HA.out
   clear HA
   simp only [selvedgeref15_runs.l0] at H
   by_cases c3 : x6_1 < (l0.length : Int)
   ·rw [if_pos c3] at H
    have c3b0 : decide (x6_1 < (l0.length : Int)) = true := decide_eq_true c3
    clear c3
    by_cases c4 : 0 ≤ x6_1
    ·rw [if_pos c4] at H
     have c4b0 : decide (0 ≤ x6_1) = true := decide_eq_true c4
     clear c4
     replace H := Option.bind_eq_some_iff.mp H
     obtain ⟨t124, A50, H⟩ := H
     replace H : (if t124 = true then (selvedgeref15_runs.l0 k1 l0 l1 x5_1 (wrap64 (x6_1 + 1))) else (if (x5_1.length : Int) = 0 then (if x5_1.length < 3518437208883 then ((some (x5_1 ++ [(⟨([] : List Int), (-1), (-1)⟩ : S55)] : List (S55))).bind fun y125 => (if 0 ≤ (wrap64 ((wrap64 ((x5_1.length : Int) + 1)) - 1)) then (if (wrap64 ((wrap64 ((x5_1.length : Int) + 1)) - 1)) < (y125.length : Int) then (if ((rd_T55 y125 (wrap64 ((wrap64 ((x5_1.length : Int) + 1)) - 1))).f0).length < 17592186044416 then (selvedgeref15_runs.l0 k1 l0 l1 (y125.set ((wrap64 ((wrap64 ((x5_1.length : Int) + 1)) - 1)) : Int).toNat (⟨(((rd_T55 y125 (wrap64 ((wrap64 ((x5_1.length : Int) + 1)) - 1))).f0) ++ [x6_1]), (rd_T55 y125 (wrap64 ((wrap64 ((x5_1.length : Int) + 1)) - 1))).f1, (rd_T55 y125 (wrap64 ((wrap64 ((x5_1.length : Int) + 1)) - 1))).f2⟩ : S55)) (wrap64 (x6_1 + 1))) else (none)) else (none)) else (none))) else (none)) else (if 0 ≤ (wrap64 ((x5_1.length : Int) - 1)) then (if (wrap64 ((x5_1.length : Int) - 1)) < (x5_1.length : Int) then (if 0 < (((rd_T55 x5_1 (wrap64 ((x5_1.length : Int) - 1))).f0).length : Int) then (if 0 ≤ (rd ((rd_T55 x5_1 (wrap64 ((x5_1.length : Int) - 1))).f0) 0) then (if (rd ((rd_T55 x5_1 (wrap64 ((x5_1.length : Int) - 1))).f0) 0) < (l1.length : Int) then (if x6_1 < (l1.length : Int) then (if (rd l1 (rd ((rd_T55 x5_1 (wrap64 ((x5_1.length : Int) - 1))).f0) 0)) = (rd l1 x6_1) then (if ((rd_T55 x5_1 (wrap64 ((x5_1.length : Int) - 1))).f0).length < 17592186044416 then (selvedgeref15_runs.l0 k1 l0 l1 (x5_1.set ((wrap64 ((x5_1.length : Int) - 1)) : Int).toNat (⟨(((rd_T55 x5_1 (wrap64 ((x5_1.length : Int) - 1))).f0) ++ [x6_1]), (rd_T55 x5_1 (wrap64 ((x5_1.length : Int) - 1))).f1, (rd_T55 x5_1 (wrap64 ((x5_1.length : Int) - 1))).f2⟩ : S55)) (wrap64 (x6_1 + 1))) else (none)) else (if x5_1.length < 3518437208883 then ((some (x5_1 ++ [(⟨([] : List Int), (-1), (-1)⟩ : S55)] : List (S55))).bind fun y142 => (if 0 ≤ (wrap64 ((wrap64 ((x5_1.length : Int) + 1)) - 1)) then (if (wrap64 ((wrap64 ((x5_1.length : Int) + 1)) - 1)) < (y142.length : Int) then (if ((rd_T55 y142 (wrap64 ((wrap64 ((x5_1.length : Int) + 1)) - 1))).f0).length < 17592186044416 then (selvedgeref15_runs.l0 k1 l0 l1 (y142.set ((wrap64 ((wrap64 ((x5_1.length : Int) + 1)) - 1)) : Int).toNat (⟨(((rd_T55 y142 (wrap64 ((wrap64 ((x5_1.length : Int) + 1)) - 1))).f0) ++ [x6_1]), (rd_T55 y142 (wrap64 ((wrap64 ((x5_1.length : Int) + 1)) - 1))).f1, (rd_T55 y142 (wrap64 ((wrap64 ((x5_1.length : Int) + 1)) - 1))).f2⟩ : S55)) (wrap64 (x6_1 + 1))) else (none)) else (none)) else (none))) else (none))) else (none)) else (none)) else (none)) else (none)) else (none)) else (none)))) = some r := H
     have A5 := Aside0.mk A50
     clear A50
     by_cases c6 : t124 = true
     ·subst c6
      have H1 : (selvedgeref15_runs.l0 k1 l0 l1 x5_1 (wrap64 (x6_1 + 1))) = some r := by rw [if_pos rfl] at H; exact H
      clear H
      have H := H1
      clear H1
      have H' := Aside0.mk H
      clear H
      obtain ⟨ad123, e123, hx123_0, p123, q123⟩ := atI HR0.out x6_1
      cases e123
      replace hx123_0 := (HB.out.cell (World.block_lt_of_cell? w _ hx123_0)).trans hx123_0
      go_wp2_with (first | (go_at_call 14; (with_reducible refine (selvedgeref14_Removed.calls (rd l0 x6_1) true _ A5.out).mono ?_); rintro e w' ⟨rfl, ⟨nd, rfl⟩⟩; (try first | exact ⟨rfl, _, World.drewN_drewN _ _ _⟩ | exact ⟨rfl, _, Eq.trans (World.drewN_drewN _ _ _) (congrArg (World.drewN _) (Nat.add_assoc _ _ _))⟩)))
      repeat (go_quiet (first | (go_at_call 14; (with_reducible refine (selvedgeref14_Removed.calls (rd l0 x6_1) true _ A5.out).mono ?_); rintro e w' ⟨rfl, ⟨nd, rfl⟩⟩; (try first | exact ⟨rfl, _, World.drewN_drewN _ _ _⟩ | exact ⟨rfl, _, Eq.trans (World.drewN_drewN _ _ _) (congrArg (World.drewN _) (Nat.add_assoc _ _ _))⟩))); try go_wp2_with (first | (go_at_call 14; (with_reducible refine (selvedgeref14_Removed.calls (rd l0 x6_1) true _ A5.out).mono ?_); rintro e w' ⟨rfl, ⟨nd, rfl⟩⟩; (try first | exact ⟨rfl, _, World.drewN_drewN _ _ _⟩ | exact ⟨rfl, _, Eq.trans (World.drewN_drewN _ _ _) (congrArg (World.drewN _) (Nat.add_assoc _ _ _))⟩))))
      go_roundg k1
      case measure => have := HK1.out; omega
      case rel => exact ⟨(x5_1), (wrap64 (x6_1 + 1)), (by first | rfl | (simp; done) | (simp [*]; done)), H', ⟨by have := HK1.out; omega⟩, ⟨by (with_reducible repeat (first | apply Kd.S_alloc | apply Kd.S_drewN | apply Kd.S_drew)); exact HO_5.out⟩, ⟨mvB HB⟩⟩
     ·replace c6 := Bool.eq_false_iff.mpr c6
      subst c6
      have H1 : (if (x5_1.length : Int) = 0 then (if x5_1.length < 3518437208883 then ((some (x5_1 ++ [(⟨([] : List Int), (-1), (-1)⟩ : S55)] : List (S55))).bind fun y125 => (if 0 ≤ (wrap64 ((wrap64 ((x5_1.length : Int) + 1)) - 1)) then (if (wrap64 ((wrap64 ((x5_1.length : Int) + 1)) - 1)) < (y125.length : Int) then (if ((rd_T55 y125 (wrap64 ((wrap64 ((x5_1.length : Int) + 1)) - 1))).f0).length < 17592186044416 then (selvedgeref15_runs.l0 k1 l0 l1 (y125.set ((wrap64 ((wrap64 ((x5_1.length : Int) + 1)) - 1)) : Int).toNat (⟨(((rd_T55 y125 (wrap64 ((wrap64 ((x5_1.length : Int) + 1)) - 1))).f0) ++ [x6_1]), (rd_T55 y125 (wrap64 ((wrap64 ((x5_1.length : Int) + 1)) - 1))).f1, (rd_T55 y125 (wrap64 ((wrap64 ((x5_1.length : Int) + 1)) - 1))).f2⟩ : S55)) (wrap64 (x6_1 + 1))) else (none)) else (none)) else (none))) else (none)) else (if 0 ≤ (wrap64 ((x5_1.length : Int) - 1)) then (if (wrap64 ((x5_1.length : Int) - 1)) < (x5_1.length : Int) then (if 0 < (((rd_T55 x5_1 (wrap64 ((x5_1.length : Int) - 1))).f0).length : Int) then (if 0 ≤ (rd ((rd_T55 x5_1 (wrap64 ((x5_1.length : Int) - 1))).f0) 0) then (if (rd ((rd_T55 x5_1 (wrap64 ((x5_1.length : Int) - 1))).f0) 0) < (l1.length : Int) then (if x6_1 < (l1.length : Int) then (if (rd l1 (rd ((rd_T55 x5_1 (wrap64 ((x5_1.length : Int) - 1))).f0) 0)) = (rd l1 x6_1) then (if ((rd_T55 x5_1 (wrap64 ((x5_1.length : Int) - 1))).f0).length < 17592186044416 then (selvedgeref15_runs.l0 k1 l0 l1 (x5_1.set ((wrap64 ((x5_1.length : Int) - 1)) : Int).toNat (⟨(((rd_T55 x5_1 (wrap64 ((x5_1.length : Int) - 1))).f0) ++ [x6_1]), (rd_T55 x5_1 (wrap64 ((x5_1.length : Int) - 1))).f1, (rd_T55 x5_1 (wrap64 ((x5_1.length : Int) - 1))).f2⟩ : S55)) (wrap64 (x6_1 + 1))) else (none)) else (if x5_1.length < 3518437208883 then ((some (x5_1 ++ [(⟨([] : List Int), (-1), (-1)⟩ : S55)] : List (S55))).bind fun y142 => (if 0 ≤ (wrap64 ((wrap64 ((x5_1.length : Int) + 1)) - 1)) then (if (wrap64 ((wrap64 ((x5_1.length : Int) + 1)) - 1)) < (y142.length : Int) then (if ((rd_T55 y142 (wrap64 ((wrap64 ((x5_1.length : Int) + 1)) - 1))).f0).length < 17592186044416 then (selvedgeref15_runs.l0 k1 l0 l1 (y142.set ((wrap64 ((wrap64 ((x5_1.length : Int) + 1)) - 1)) : Int).toNat (⟨(((rd_T55 y142 (wrap64 ((wrap64 ((x5_1.length : Int) + 1)) - 1))).f0) ++ [x6_1]), (rd_T55 y142 (wrap64 ((wrap64 ((x5_1.length : Int) + 1)) - 1))).f1, (rd_T55 y142 (wrap64 ((wrap64 ((x5_1.length : Int) + 1)) - 1))).f2⟩ : S55)) (wrap64 (x6_1 + 1))) else (none)) else (none)) else (none))) else (none))) else (none)) else (none)) else (none)) else (none)) else (none)) else (none))) = some r := by rw [if_neg (show ¬ (false = true) by decide)] at H; exact H
      clear H
      have H := H1
      clear H1
      by_cases c7 : (x5_1.length : Int) = 0
      ·rw [if_pos c7] at H
       have c7b0 : ((x5_1.length : Int) == 0) = true := beq_iff_eq.mpr c7
       have c7b1 : ((x5_1.length : Int) != 0) = false := bne_eq_false_iff_eq.mpr c7
       clear c7
       by_cases c8 : x5_1.length < 3518437208883
       ·rw [if_pos c8] at H
        have LMc8 := Aside0.mk c8
        clear c8
        obtain ⟨y125, hy125⟩ : ∃ y_ : List (S55), y_ = (x5_1 ++ [(⟨([] : List Int), (-1), (-1)⟩ : S55)]) := ⟨_, rfl⟩
        replace H : (if 0 ≤ (wrap64 ((wrap64 ((x5_1.length : Int) + 1)) - 1)) then (if (wrap64 ((wrap64 ((x5_1.length : Int) + 1)) - 1)) < (y125.length : Int) then (if ((rd_T55 y125 (wrap64 ((wrap64 ((x5_1.length : Int) + 1)) - 1))).f0).length < 17592186044416 then (selvedgeref15_runs.l0 k1 l0 l1 (y125.set ((wrap64 ((wrap64 ((x5_1.length : Int) + 1)) - 1)) : Int).toNat (⟨(((rd_T55 y125 (wrap64 ((wrap64 ((x5_1.length : Int) + 1)) - 1))).f0) ++ [x6_1]), (rd_T55 y125 (wrap64 ((wrap64 ((x5_1.length : Int) + 1)) - 1))).f1, (rd_T55 y125 (wrap64 ((wrap64 ((x5_1.length : Int) + 1)) - 1))).f2⟩ : S55)) (wrap64 (x6_1 + 1))) else (none)) else (none)) else (none)) = some r := by first | (rw [hy125]; with_reducible exact H) | (have H2_ := (Option.bind_some _ _).symm.trans H; rw [hy125]; with_reducible exact H2_) | (have H2_ := (Option.bind_some _ _).symm.trans H; with_reducible exact H2_) | with_reducible exact H | (rw [hy125]; exact H) | exact H
        have Ny125 := Aside0.mk hy125
        clear hy125
        obtain ⟨ji9, hji9⟩ : ∃ j_ : Int, (wrap64 ((wrap64 ((x5_1.length : Int) + 1)) - 1)) = j_ := ⟨_, rfl⟩
        replace H : (if 0 ≤ (ji9) then (if (ji9) < (y125.length : Int) then (if ((rd_T55 y125 (ji9)).f0).length < 17592186044416 then (selvedgeref15_runs.l0 k1 l0 l1 (y125.set ((ji9) : Int).toNat (⟨(((rd_T55 y125 (ji9)).f0) ++ [x6_1]), (rd_T55 y125 (ji9)).f1, (rd_T55 y125 (ji9)).f2⟩ : S55)) (wrap64 (x6_1 + 1))) else (none)) else (none)) else (none)) = some r := by first | (rw [hji9] at H; exact H) | (simp only [hji9] at H ⊢; exact H)
        (try rw [hji9] at A5)
        have hji9w : (IntKind.i64.wrap ((wrap64 ((x5_1.length : Int) + 1)) - 1)) = ji9 := (i64_w _).trans hji9
        by_cases c10 : 0 ≤ (ji9)
        ·rw [if_pos c10] at H
         have c10b0 : decide (0 ≤ (ji9)) = true := decide_eq_true c10
         clear c10
         by_cases c11 : (ji9) < (y125.length : Int)
         ·rw [if_pos c11] at H
          have c11b0 : decide ((ji9) < (y125.length : Int)) = true := decide_eq_true c11
          clear c11
          by_cases c12 : ((rd_T55 y125 (ji9)).f0).length < 17592186044416
          ·rw [if_pos c12] at H
           have LMc12 := Aside0.mk c12
           clear c12
           obtain ⟨y129, hy129⟩ : ∃ y_ : List Int, y_ = (((rd_T55 y125 (ji9)).f0) ++ [x6_1]) := ⟨_, rfl⟩
           replace H : (selvedgeref15_runs.l0 k1 l0 l1 (y125.set ((ji9) : Int).toNat (⟨y129, (rd_T55 y125 (ji9)).f1, (rd_T55 y125 (ji9)).f2⟩ : S55)) (wrap64 (x6_1 + 1))) = some r := by first | (rw [hy129]; with_reducible exact H) | (have H2_ := (Option.bind_some _ _).symm.trans H; rw [hy129]; with_reducible exact H2_) | (have H2_ := (Option.bind_some _ _).symm.trans H; with_reducible exact H2_) | with_reducible exact H | (rw [hy129]; exact H) | exact H
           have Ny129 := Aside0.mk hy129
           clear hy129
           obtain ⟨y132, hy132⟩ : ∃ y_ : List (S55), y_ = (y125.set ((ji9) : Int).toNat (⟨y129, (rd_T55 y125 (ji9)).f1, (rd_T55 y125 (ji9)).f2⟩ : S55)) := ⟨_, rfl⟩
           replace H : (selvedgeref15_runs.l0 k1 l0 l1 y132 (wrap64 (x6_1 + 1))) = some r := by first | (rw [hy132]; with_reducible exact H) | (have H2_ := (Option.bind_some _ _).symm.trans H; rw [hy132]; with_reducible exact H2_) | (have H2_ := (Option.bind_some _ _).symm.trans H; with_reducible exact H2_) | with_reducible exact H | (rw [hy132]; exact H) | exact H
           have Ny132 := Aside0.mk hy132
           clear hy132
           have H' := Aside0.mk H
           clear H
           obtain ⟨ad123, e123, hx123_0, p123, q123⟩ := atI HR0.out x6_1
           cases e123
           replace hx123_0 := (HB.out.cell (World.block_lt_of_cell? w _ hx123_0)).trans hx123_0
           go_wp2_with (first | (go_at_call 14; (with_reducible refine (selvedgeref14_Removed.calls (rd l0 x6_1) false _ A5.out).mono ?_); rintro e w' ⟨rfl, ⟨nd, rfl⟩⟩; (try first | exact ⟨rfl, _, World.drewN_drewN _ _ _⟩ | exact ⟨rfl, _, Eq.trans (World.drewN_drewN _ _ _) (congrArg (World.drewN _) (Nat.add_assoc _ _ _))⟩); obtain ⟨Ao14, co14, eo14⟩ := Kd.S_slice HO_5.out; subst eo14) | ((with_reducible refine gate_builtin (b := .append) (xs := #[.tmp 48, .tmp 50]) rfl ?_); at_builtin; refine Kd.S_append k55 (w0 := w) w.heap.size rfl (.tmp 48) (.tmp 50) 50 55 (.agg #[(.slice none 0 0), (.int .i64 0), (.int .i64 0)]) 40 rfl Try.underlying50 info55 rfl (by decide) (by omega) (.slice Ao14 x5_1.length co14) x5_1 (⟨([] : List Int), (-1), (-1)⟩ : S55) [.slice none 0 0, .int .i64 (-1), .int .i64 (-1)] (fun _ => True) (fun _ => False) rfl rfl ?aP (fun k_ hk_ => hk_.elim) ?aF ?aO ?aB ?aS ?aL ?_; (case aP => exact k55_mkM _ _ _ (⟨([] : List Int), (-1), (-1)⟩ : S55) (Kd.R_nil _ _ _ _ _)); (case aB => exact (mvB HB)); (case aF => exact (fun _ _ => trivial)); (case aO => exact (by (with_reducible repeat (first | apply Kd.S_alloc | apply Kd.S_drewN | apply Kd.S_drew)); exact Kd.S_mono HO_5.out (fun k_ hk => ⟨trivial, fun e_ => e_⟩))); (case aS => exact (below_size (mvB HB))); (case aL => have := LMc8.out; omega); intro v126 w15 ho hb hg hat; rw [← Ny125.out] at ho; have n0_ := Aside0.mk (hb); have n1_ := Aside0.mk (ho); clear HB; clear HO_5; have HB := n0_; have HO127 := n1_; clear n0_ n1_; clear ho hb hg hat; obtain ⟨Ao16, co16, eo16⟩ := Kd.S_slice HO127.out; subst eo16; have p128 := dT (0 ≤ ((ji9) : Int)); have q128 := dT ((ji9) < (y125.length : Int)); obtain ⟨ad128, A128_0, c128_0, e128, hx128_0, hx128_1, hx128_2, hl128_0, hi128_0⟩ := at_T55 (Kd.S_reads' HO127.out).2.2 (ji9) p128 q128; cases e128; obtain ⟨ce128, hce128, hMe128, hcc128⟩ := Kd.S_get HO127.out z55 (ji9) p128 (by first | exact q128 | exact of_decide_eq_true (by first | (with_reducible assumption) | assumption) | (have e_ := (Kd.S_reads' HO127.out).1; omega)); obtain ⟨ve128_0, rfl, ge128_0⟩ := k55_openM hMe128; have hv128_0 := hcc128 0 _ rfl; rw [Nat.add_zero] at hv128_0; replace hv128_0 := Option.some.inj (hv128_0.symm.trans hx128_0); rw [hv128_0] at ge128_0; have HL128_0 := Aside0.mk (show Kd.R (Kd.int .i64) 3 _ _ _ _ ((rd_T55 y125 (ji9)).f0) from ge128_0); clear hv128_0 ge128_0; have HX128_0 := Aside0.mk hx128_0; clear hcc128 hce128; have HR128_0 := Aside0.mk hi128_0; have HC128_0 := Aside0.mk hl128_0; clear hi128_0 hl128_0; replace p128 := eq_true p128; replace q128 := eq_true q128; obtain ⟨go17, co17, eo17, gb17, gl17, cl17, HG17⟩ := Kd.S_form HO127.out (by have h_ : ((ji9) : Int) < ((y125.length : Int) : Int) := of_decide_eq_true (by first | (with_reducible assumption) | assumption); have h2_ : 0 ≤ ((ji9) : Int) := (of_decide_eq_true (by first | (with_reducible assumption) | assumption)); omega); (first | cases eo17 | (injection eo17 with ea_ en_ ec_; (first | subst ea_ | (injection ea_ with ea_; subst ea_)); subst ec_; clear en_)); have GB17 := Aside0.mk gb17; have GG17 := Aside0.mk HG17; clear gb17 gl17 HG17; (first | simp only [add_plain] at hx128_0 | skip); (first | simp only [add_plain] at hx128_1 | skip); (first | simp only [add_plain] at hx128_2 | skip); obtain ⟨oki17, ce17, hcl17, hM17, hcc17, _, _, hH17⟩ := Kd.S_elem HO127.out z55 ((ji9) : Int) (of_decide_eq_true (by first | (with_reducible assumption) | assumption)) (by have h_ : ((ji9) : Int) < ((y125.length : Int) : Int) := of_decide_eq_true (by first | (with_reducible assumption) | assumption); first | exact h_ | (have e_ := (Kd.S_reads' HO127.out).1; omega) | simpa using h_); obtain ⟨ve17_0, rfl, ge17_0⟩ := k55_openM hM17; have hv17 := hcc17 0 _ rfl; have hX17 := HX128_0.out; (try simp only [add_plain] at hX17); (try simp only [Nat.add_zero] at hv17); replace hv17 := Option.some.inj (hv17.symm.trans hX17); subst hv17; clear hX17 hcc17 hcl17; have UU17 := Aside0.mk (show Kd.R (Kd.int .i64) 3 _ w.heap.size oki17 (.slice A128_0 ((rd_T55 y125 (ji9)).f0).length c128_0) ((rd_T55 y125 (ji9)).f0) from ge17_0); have HH17 := Aside0.mk hH17; have HN17 := Aside0.mk (Kd.S_reads' HO127.out).1; clear hH17 ge17_0) | ((with_reducible refine gate_builtin (b := .append) (xs := #[.tmp 62, .tmp 64]) rfl ?_); at_builtin; refine Kd.R_append (Kd.int .i64) (w0 := w) w.heap.size rfl (.tmp 62) (.tmp 64) 33 3 (.int .i64 0) 8 rfl Try.underlying33 info3 rfl (by decide) (by omega) (.slice A128_0 ((rd_T55 y125 (ji9)).f0).length c128_0) ((rd_T55 y125 (ji9)).f0) x6_1 [.int .i64 x6_1] (fun k_ => oki17 k_ ∨ ((fun _ => True)) k_ ∧ w15.heap.size ≤ k_) (fun _ => False) rfl rfl ?aP (fun _ hk => hk.elim) ?aF ?aO ?aB ?aS ?aL ?_; (case aP => exact rfl); (case aB => exact (mvB HB)); (case aF => exact (fun k_ hk => .inr ⟨trivial, hk⟩)); (case aO => exact (by (with_reducible repeat (first | apply Kd.R_alloc | apply Kd.R_drewN | apply Kd.R_drew)); exact Kd.R_mono UU17.out (fun _ hk => .inl hk))); (case aS => exact (below_size (mvB HB))); (case aL => have := LMc12.out; omega); intro v130 w18 ho hb hg hat; rw [← Ny129.out] at ho; have n0_ := Aside0.mk (hb); have n1_ := Aside0.mk (Kd.H_grown (Kd.H_widen (by repeat (first | exact HH17.out | refine Kd.H_alloc ?_ _ | refine Kd.H_drewN ?_ _ | refine Kd.H_drew ?_))) hg (fun k_ e_ => .inl (UU17.out.1 k_ e_))); have n2_ := Aside0.mk (ho); clear HB; clear HH17; clear HO127; clear UU17; clear HL128_0; have HB := n0_; have HH17 := n1_; have HO131 := n2_; clear n0_ n1_ n2_; clear ho hb hg hat; have p13 := dT (0 ≤ ((ji9) : Int)); have q13 : ((ji9) : Int) < ((y125.length : Int) : Int) := of_decide_eq_true (by first | (with_reducible assumption) | assumption); replace p13 := eq_true p13; replace q13 := eq_true q13; obtain ⟨Ao21, co21, eo21⟩ := Kd.R_slice HO131.out; subst eo21; obtain ⟨_, _, hraw19, _, _, hcc19, _⟩ := Kd.H_raw HH17.out (of_decide_eq_true (by first | (with_reducible assumption) | assumption)) (by have h_ : ((ji9) : Int) < ((y125.length : Int) : Int) := of_decide_eq_true (by first | (with_reducible assumption) | assumption); first | exact h_ | (have e_ := (HN17.out); omega) | simpa using h_); obtain ⟨_, hfr19⟩ := Kd.H_at HH17.out (of_decide_eq_true (by first | (with_reducible assumption) | assumption)) (by have h_ : ((ji9) : Int) < ((y125.length : Int) : Int) := of_decide_eq_true (by first | (with_reducible assumption) | assumption); first | exact h_ | (have e_ := (HN17.out); omega) | simpa using h_); have hx19_0 := hcc19 0 _ rfl; have hf19_0 := hfr19 0; (try simp only [Nat.add_zero] at hx19_0 hf19_0); (try rw [show (k55).sz = 3 from rfl] at hx19_0); (try rw [show (k55).sz = 3 from rfl] at hf19_0); have HP19 := Kd.S_seg0 HH17.out (of_decide_eq_true (by first | (with_reducible assumption) | assumption)) (by have h_ : ((ji9) : Int) < ((y125.length : Int) : Int) := of_decide_eq_true (by first | (with_reducible assumption) | assumption); first | exact h_ | (have e_ := (HN17.out); omega) | simpa using h_) (seg := [.slice Ao21 y129.length co21]) (j := 0) (show 1 ≤ 3 from by decide) (x' := (⟨y129, (rd_T55 y125 (ji9)).f1, (rd_T55 y125 (ji9)).f2⟩ : S55)) (k55_mkM _ _ _ (⟨y129, (rd_T55 y125 (ji9)).f1, (rd_T55 y125 (ji9)).f2⟩ : S55) HO131.out) (fun _ hk => hk); clear hcc19 hfr19) | ((with_reducible refine gate_store (t := 33) (p := 67) rfl ?_); (try (rw [drewN_self w18]; generalize hq_ : World.drewN w18 _ = w18; have n0_ := Aside0.mk (Kd.S_at hq_ HO127.out); have n1_ := Aside0.mk (below_at hq_ HB.out); clear hq_ HO127 HB; have HO127 := n0_; have HB := n1_; clear n0_ n1_; (try (obtain ⟨Ao21, co21, eo21⟩ := Kd.R_slice HO131.out)); (try (subst eo21)); (try (obtain ⟨_, _, hraw19, _, _, hcc19, _⟩ := Kd.H_raw HH17.out (of_decide_eq_true (by first | (with_reducible assumption) | assumption)) (by have h_ : ((ji9) : Int) < ((y125.length : Int) : Int) := of_decide_eq_true (by first | (with_reducible assumption) | assumption); first | exact h_ | (have e_ := (HN17.out); omega) | simpa using h_))); (try (obtain ⟨_, hfr19⟩ := Kd.H_at HH17.out (of_decide_eq_true (by first | (with_reducible assumption) | assumption)) (by have h_ : ((ji9) : Int) < ((y125.length : Int) : Int) := of_decide_eq_true (by first | (with_reducible assumption) | assumption); first | exact h_ | (have e_ := (HN17.out); omega) | simpa using h_))); (try (have hx19_0 := hcc19 0 _ rfl)); (try (have hf19_0 := hfr19 0)); (try (try simp only [Nat.add_zero] at hx19_0 hf19_0)); (try (try rw [show (k55).sz = 3 from rfl] at hx19_0)); (try (try rw [show (k55).sz = 3 from rfl] at hf19_0)); (try (have HP19 := Kd.S_seg0 HH17.out (of_decide_eq_true (by first | (with_reducible assumption) | assumption)) (by have h_ : ((ji9) : Int) < ((y125.length : Int) : Int) := of_decide_eq_true (by first | (with_reducible assumption) | assumption); first | exact h_ | (have e_ := (HN17.out); omega) | simpa using h_) (seg := [.slice Ao21 y129.length co21]) (j := 0) (show 1 ≤ 3 from by decide) (x' := (⟨y129, (rd_T55 y125 (ji9)).f1, (rd_T55 y125 (ji9)).f2⟩ : S55)) (k55_mkM _ _ _ (⟨y129, (rd_T55 y125 (ji9)).f1, (rd_T55 y125 (ji9)).f2⟩ : S55) HO131.out) (fun _ hk => hk))); (try (clear hcc19 hfr19)))); refine store_event (t := 33) (p := 67) (v := ?vo_w20) (w1 := (w18.setCell ⟨go17, ((ji9) : Int).toNat * 3, none⟩ (.slice Ao21 y129.length co21))) ?hg ?ho ?hn ?hr ?_; (case ho => rfl); (case hg => rfl); (case hn => rfl); (case hr => first | (go_simp; done) | (go_simp; rfl)); intro w20 hw; have hg : w18.grownBy w20 (some go17) := (by rw [hw]; exact HP19.2); have hp_ : Kd.S k55 55 w20 w.heap.size (fun _ => True) (.slice (some ⟨go17, 0, none⟩) y125.length co16) y132 := (by rw [hw, Ny132.out]; exact HP19.1); clear HP19; have n0_ := Aside0.mk ((by rw [hw]; exact below_set HB.out GB17.out : Below w.heap.size w w20)); have n1_ := Aside0.mk (hp_); clear HB; clear HO131; clear HH17; have HB := n0_; have HO127 := n1_; clear n0_ n1_; clear hg hw hp_ hraw19))
           repeat (go_quiet (first | (go_at_call 14; (with_reducible refine (selvedgeref14_Removed.calls (rd l0 x6_1) false _ A5.out).mono ?_); rintro e w' ⟨rfl, ⟨nd, rfl⟩⟩; (try first | exact ⟨rfl, _, World.drewN_drewN _ _ _⟩ | exact ⟨rfl, _, Eq.trans (World.drewN_drewN _ _ _) (congrArg (World.drewN _) (Nat.add_assoc _ _ _))⟩); obtain ⟨Ao14, co14, eo14⟩ := Kd.S_slice HO_5.out; subst eo14)); try go_wp2_with (first | (go_at_call 14; (with_reducible refine (selvedgeref14_Removed.calls (rd l0 x6_1) false _ A5.out).mono ?_); rintro e w' ⟨rfl, ⟨nd, rfl⟩⟩; (try first | exact ⟨rfl, _, World.drewN_drewN _ _ _⟩ | exact ⟨rfl, _, Eq.trans (World.drewN_drewN _ _ _) (congrArg (World.drewN _) (Nat.add_assoc _ _ _))⟩); obtain ⟨Ao14, co14, eo14⟩ := Kd.S_slice HO_5.out; subst eo14) | ((with_reducible refine gate_builtin (b := .append) (xs := #[.tmp 48, .tmp 50]) rfl ?_); at_builtin; refine Kd.S_append k55 (w0 := w) w.heap.size rfl (.tmp 48) (.tmp 50) 50 55 (.agg #[(.slice none 0 0), (.int .i64 0), (.int .i64 0)]) 40 rfl Try.underlying50 info55 rfl (by decide) (by omega) (.slice Ao14 x5_1.length co14) x5_1 (⟨([] : List Int), (-1), (-1)⟩ : S55) [.slice none 0 0, .int .i64 (-1), .int .i64 (-1)] (fun _ => True) (fun _ => False) rfl rfl ?aP (fun k_ hk_ => hk_.elim) ?aF ?aO ?aB ?aS ?aL ?_; (case aP => exact k55_mkM _ _ _ (⟨([] : List Int), (-1), (-1)⟩ : S55) (Kd.R_nil _ _ _ _ _)); (case aB => exact (mvB HB)); (case aF => exact (fun _ _ => trivial)); (case aO => exact (by (with_reducible repeat (first | apply Kd.S_alloc | apply Kd.S_drewN | apply Kd.S_drew)); exact Kd.S_mono HO_5.out (fun k_ hk => ⟨trivial, fun e_ => e_⟩))); (case aS => exact (below_size (mvB HB))); (case aL => have := LMc8.out; omega); intro v126 w15 ho hb hg hat; rw [← Ny125.out] at ho; have n0_ := Aside0.mk (hb); have n1_ := Aside0.mk (ho); clear HB; clear HO_5; have HB := n0_; have HO127 := n1_; clear n0_ n1_; clear ho hb hg hat; obtain ⟨Ao16, co16, eo16⟩ := Kd.S_slice HO127.out; subst eo16; have p128 := dT (0 ≤ ((ji9) : Int)); have q128 := dT ((ji9) < (y125.length : Int)); obtain ⟨ad128, A128_0, c128_0, e128, hx128_0, hx128_1, hx128_2, hl128_0, hi128_0⟩ := at_T55 (Kd.S_reads' HO127.out).2.2 (ji9) p128 q128; cases e128; obtain ⟨ce128, hce128, hMe128, hcc128⟩ := Kd.S_get HO127.out z55 (ji9) p128 (by first | exact q128 | exact of_decide_eq_true (by first | (with_reducible assumption) | assumption) | (have e_ := (Kd.S_reads' HO127.out).1; omega)); obtain ⟨ve128_0, rfl, ge128_0⟩ := k55_openM hMe128; have hv128_0 := hcc128 0 _ rfl; rw [Nat.add_zero] at hv128_0; replace hv128_0 := Option.some.inj (hv128_0.symm.trans hx128_0); rw [hv128_0] at ge128_0; have HL128_0 := Aside0.mk (show Kd.R (Kd.int .i64) 3 _ _ _ _ ((rd_T55 y125 (ji9)).f0) from ge128_0); clear hv128_0 ge128_0; have HX128_0 := Aside0.mk hx128_0; clear hcc128 hce128; have HR128_0 := Aside0.mk hi128_0; have HC128_0 := Aside0.mk hl128_0; clear hi128_0 hl128_0; replace p128 := eq_true p128; replace q128 := eq_true q128; obtain ⟨go17, co17, eo17, gb17, gl17, cl17, HG17⟩ := Kd.S_form HO127.out (by have h_ : ((ji9) : Int) < ((y125.length : Int) : Int) := of_decide_eq_true (by first | (with_reducible assumption) | assumption); have h2_ : 0 ≤ ((ji9) : Int) := (of_decide_eq_true (by first | (with_reducible assumption) | assumption)); omega); (first | cases eo17 | (injection eo17 with ea_ en_ ec_; (first | subst ea_ | (injection ea_ with ea_; subst ea_)); subst ec_; clear en_)); have GB17 := Aside0.mk gb17; have GG17 := Aside0.mk HG17; clear gb17 gl17 HG17; (first | simp only [add_plain] at hx128_0 | skip); (first | simp only [add_plain] at hx128_1 | skip); (first | simp only [add_plain] at hx128_2 | skip); obtain ⟨oki17, ce17, hcl17, hM17, hcc17, _, _, hH17⟩ := Kd.S_elem HO127.out z55 ((ji9) : Int) (of_decide_eq_true (by first | (with_reducible assumption) | assumption)) (by have h_ : ((ji9) : Int) < ((y125.length : Int) : Int) := of_decide_eq_true (by first | (with_reducible assumption) | assumption); first | exact h_ | (have e_ := (Kd.S_reads' HO127.out).1; omega) | simpa using h_); obtain ⟨ve17_0, rfl, ge17_0⟩ := k55_openM hM17; have hv17 := hcc17 0 _ rfl; have hX17 := HX128_0.out; (try simp only [add_plain] at hX17); (try simp only [Nat.add_zero] at hv17); replace hv17 := Option.some.inj (hv17.symm.trans hX17); subst hv17; clear hX17 hcc17 hcl17; have UU17 := Aside0.mk (show Kd.R (Kd.int .i64) 3 _ w.heap.size oki17 (.slice A128_0 ((rd_T55 y125 (ji9)).f0).length c128_0) ((rd_T55 y125 (ji9)).f0) from ge17_0); have HH17 := Aside0.mk hH17; have HN17 := Aside0.mk (Kd.S_reads' HO127.out).1; clear hH17 ge17_0) | ((with_reducible refine gate_builtin (b := .append) (xs := #[.tmp 62, .tmp 64]) rfl ?_); at_builtin; refine Kd.R_append (Kd.int .i64) (w0 := w) w.heap.size rfl (.tmp 62) (.tmp 64) 33 3 (.int .i64 0) 8 rfl Try.underlying33 info3 rfl (by decide) (by omega) (.slice A128_0 ((rd_T55 y125 (ji9)).f0).length c128_0) ((rd_T55 y125 (ji9)).f0) x6_1 [.int .i64 x6_1] (fun k_ => oki17 k_ ∨ ((fun _ => True)) k_ ∧ w15.heap.size ≤ k_) (fun _ => False) rfl rfl ?aP (fun _ hk => hk.elim) ?aF ?aO ?aB ?aS ?aL ?_; (case aP => exact rfl); (case aB => exact (mvB HB)); (case aF => exact (fun k_ hk => .inr ⟨trivial, hk⟩)); (case aO => exact (by (with_reducible repeat (first | apply Kd.R_alloc | apply Kd.R_drewN | apply Kd.R_drew)); exact Kd.R_mono UU17.out (fun _ hk => .inl hk))); (case aS => exact (below_size (mvB HB))); (case aL => have := LMc12.out; omega); intro v130 w18 ho hb hg hat; rw [← Ny129.out] at ho; have n0_ := Aside0.mk (hb); have n1_ := Aside0.mk (Kd.H_grown (Kd.H_widen (by repeat (first | exact HH17.out | refine Kd.H_alloc ?_ _ | refine Kd.H_drewN ?_ _ | refine Kd.H_drew ?_))) hg (fun k_ e_ => .inl (UU17.out.1 k_ e_))); have n2_ := Aside0.mk (ho); clear HB; clear HH17; clear HO127; clear UU17; clear HL128_0; have HB := n0_; have HH17 := n1_; have HO131 := n2_; clear n0_ n1_ n2_; clear ho hb hg hat; have p13 := dT (0 ≤ ((ji9) : Int)); have q13 : ((ji9) : Int) < ((y125.length : Int) : Int) := of_decide_eq_true (by first | (with_reducible assumption) | assumption); replace p13 := eq_true p13; replace q13 := eq_true q13; obtain ⟨Ao21, co21, eo21⟩ := Kd.R_slice HO131.out; subst eo21; obtain ⟨_, _, hraw19, _, _, hcc19, _⟩ := Kd.H_raw HH17.out (of_decide_eq_true (by first | (with_reducible assumption) | assumption)) (by have h_ : ((ji9) : Int) < ((y125.length : Int) : Int) := of_decide_eq_true (by first | (with_reducible assumption) | assumption); first | exact h_ | (have e_ := (HN17.out); omega) | simpa using h_); obtain ⟨_, hfr19⟩ := Kd.H_at HH17.out (of_decide_eq_true (by first | (with_reducible assumption) | assumption)) (by have h_ : ((ji9) : Int) < ((y125.length : Int) : Int) := of_decide_eq_true (by first | (with_reducible assumption) | assumption); first | exact h_ | (have e_ := (HN17.out); omega) | simpa using h_); have hx19_0 := hcc19 0 _ rfl; have hf19_0 := hfr19 0; (try simp only [Nat.add_zero] at hx19_0 hf19_0); (try rw [show (k55).sz = 3 from rfl] at hx19_0); (try rw [show (k55).sz = 3 from rfl] at hf19_0); have HP19 := Kd.S_seg0 HH17.out (of_decide_eq_true (by first | (with_reducible assumption) | assumption)) (by have h_ : ((ji9) : Int) < ((y125.length : Int) : Int) := of_decide_eq_true (by first | (with_reducible assumption) | assumption); first | exact h_ | (have e_ := (HN17.out); omega) | simpa using h_) (seg := [.slice Ao21 y129.length co21]) (j := 0) (show 1 ≤ 3 from by decide) (x' := (⟨y129, (rd_T55 y125 (ji9)).f1, (rd_T55 y125 (ji9)).f2⟩ : S55)) (k55_mkM _ _ _ (⟨y129, (rd_T55 y125 (ji9)).f1, (rd_T55 y125 (ji9)).f2⟩ : S55) HO131.out) (fun _ hk => hk); clear hcc19 hfr19) | ((with_reducible refine gate_store (t := 33) (p := 67) rfl ?_); (try (rw [drewN_self w18]; generalize hq_ : World.drewN w18 _ = w18; have n0_ := Aside0.mk (Kd.S_at hq_ HO127.out); have n1_ := Aside0.mk (below_at hq_ HB.out); clear hq_ HO127 HB; have HO127 := n0_; have HB := n1_; clear n0_ n1_; (try (obtain ⟨Ao21, co21, eo21⟩ := Kd.R_slice HO131.out)); (try (subst eo21)); (try (obtain ⟨_, _, hraw19, _, _, hcc19, _⟩ := Kd.H_raw HH17.out (of_decide_eq_true (by first | (with_reducible assumption) | assumption)) (by have h_ : ((ji9) : Int) < ((y125.length : Int) : Int) := of_decide_eq_true (by first | (with_reducible assumption) | assumption); first | exact h_ | (have e_ := (HN17.out); omega) | simpa using h_))); (try (obtain ⟨_, hfr19⟩ := Kd.H_at HH17.out (of_decide_eq_true (by first | (with_reducible assumption) | assumption)) (by have h_ : ((ji9) : Int) < ((y125.length : Int) : Int) := of_decide_eq_true (by first | (with_reducible assumption) | assumption); first | exact h_ | (have e_ := (HN17.out); omega) | simpa using h_))); (try (have hx19_0 := hcc19 0 _ rfl)); (try (have hf19_0 := hfr19 0)); (try (try simp only [Nat.add_zero] at hx19_0 hf19_0)); (try (try rw [show (k55).sz = 3 from rfl] at hx19_0)); (try (try rw [show (k55).sz = 3 from rfl] at hf19_0)); (try (have HP19 := Kd.S_seg0 HH17.out (of_decide_eq_true (by first | (with_reducible assumption) | assumption)) (by have h_ : ((ji9) : Int) < ((y125.length : Int) : Int) := of_decide_eq_true (by first | (with_reducible assumption) | assumption); first | exact h_ | (have e_ := (HN17.out); omega) | simpa using h_) (seg := [.slice Ao21 y129.length co21]) (j := 0) (show 1 ≤ 3 from by decide) (x' := (⟨y129, (rd_T55 y125 (ji9)).f1, (rd_T55 y125 (ji9)).f2⟩ : S55)) (k55_mkM _ _ _ (⟨y129, (rd_T55 y125 (ji9)).f1, (rd_T55 y125 (ji9)).f2⟩ : S55) HO131.out) (fun _ hk => hk))); (try (clear hcc19 hfr19)))); refine store_event (t := 33) (p := 67) (v := ?vo_w20) (w1 := (w18.setCell ⟨go17, ((ji9) : Int).toNat * 3, none⟩ (.slice Ao21 y129.length co21))) ?hg ?ho ?hn ?hr ?_; (case ho => rfl); (case hg => rfl); (case hn => rfl); (case hr => first | (go_simp; done) | (go_simp; rfl)); intro w20 hw; have hg : w18.grownBy w20 (some go17) := (by rw [hw]; exact HP19.2); have hp_ : Kd.S k55 55 w20 w.heap.size (fun _ => True) (.slice (some ⟨go17, 0, none⟩) y125.length co16) y132 := (by rw [hw, Ny132.out]; exact HP19.1); clear HP19; have n0_ := Aside0.mk ((by rw [hw]; exact below_set HB.out GB17.out : Below w.heap.size w w20)); have n1_ := Aside0.mk (hp_); clear HB; clear HO131; clear HH17; have HB := n0_; have HO127 := n1_; clear n0_ n1_; clear hg hw hp_ hraw19)))
           go_roundg k1
           case measure => have := HK1.out; omega
           case rel => exact ⟨(y132), (wrap64 (x6_1 + 1)), (by first | rfl | (simp; done) | (simp [*]; done)), H', ⟨by have := HK1.out; omega⟩, ⟨by (with_reducible repeat (first | apply Kd.S_alloc | apply Kd.S_drewN | apply Kd.S_drew)); exact HO127.out⟩, ⟨mvB HB⟩⟩
          ·rw [if_neg c12] at H
           exact absurd H (by simp)
         ·rw [if_neg c11] at H
          exact absurd H (by simp)
        ·rw [if_neg c10] at H
         exact absurd H (by simp)
       ·rw [if_neg c8] at H
        exact absurd H (by simp)
      ·rw [if_neg c7] at H
       have c7b0 : ((x5_1.length : Int) == 0) = false := beq_eq_false_iff_ne.mpr c7
       have c7b1 : ((x5_1.length : Int) != 0) = true := bne_iff_ne.mpr c7
       have c7b2 : ¬ (x5_1 = []) := fun h_ => c7 (by rw [h_]; rfl)
       obtain ⟨ji22, hji22⟩ : ∃ j_ : Int, (wrap64 ((x5_1.length : Int) - 1)) = j_ := ⟨_, rfl⟩
       replace H : (if 0 ≤ (ji22) then (if (ji22) < (x5_1.length : Int) then (if 0 < (((rd_T55 x5_1 (ji22)).f0).length : Int) then (if 0 ≤ (rd ((rd_T55 x5_1 (ji22)).f0) 0) then (if (rd ((rd_T55 x5_1 (ji22)).f0) 0) < (l1.length : Int) then (if x6_1 < (l1.length : Int) then (if (rd l1 (rd ((rd_T55 x5_1 (ji22)).f0) 0)) = (rd l1 x6_1) then (if ((rd_T55 x5_1 (ji22)).f0).length < 17592186044416 then (selvedgeref15_runs.l0 k1 l0 l1 (x5_1.set ((ji22) : Int).toNat (⟨(((rd_T55 x5_1 (ji22)).f0) ++ [x6_1]), (rd_T55 x5_1 (ji22)).f1, (rd_T55 x5_1 (ji22)).f2⟩ : S55)) (wrap64 (x6_1 + 1))) else (none)) else (if x5_1.length < 3518437208883 then ((some (x5_1 ++ [(⟨([] : List Int), (-1), (-1)⟩ : S55)] : List (S55))).bind fun y142 => (if 0 ≤ (wrap64 ((wrap64 ((x5_1.length : Int) + 1)) - 1)) then (if (wrap64 ((wrap64 ((x5_1.length : Int) + 1)) - 1)) < (y142.length : Int) then (if ((rd_T55 y142 (wrap64 ((wrap64 ((x5_1.length : Int) + 1)) - 1))).f0).length < 17592186044416 then (selvedgeref15_runs.l0 k1 l0 l1 (y142.set ((wrap64 ((wrap64 ((x5_1.length : Int) + 1)) - 1)) : Int).toNat (⟨(((rd_T55 y142 (wrap64 ((wrap64 ((x5_1.length : Int) + 1)) - 1))).f0) ++ [x6_1]), (rd_T55 y142 (wrap64 ((wrap64 ((x5_1.length : Int) + 1)) - 1))).f1, (rd_T55 y142 (wrap64 ((wrap64 ((x5_1.length : Int) + 1)) - 1))).f2⟩ : S55)) (wrap64 (x6_1 + 1))) else (none)) else (none)) else (none))) else (none))) else (none)) else (none)) else (none)) else (none)) else (none)) else (none)) = some r := by first | (rw [hji22] at H; exact H) | (simp only [hji22] at H ⊢; exact H)
       (try rw [hji22] at A5)
       have hji22w : (IntKind.i64.wrap ((x5_1.length : Int) - 1)) = ji22 := (i64_w _).trans hji22
       by_cases c23 : 0 ≤ (ji22)
       ·rw [if_pos c23] at H
        have c23b0 : decide (0 ≤ (ji22)) = true := decide_eq_true c23
        clear c23
        by_cases c24 : (ji22) < (x5_1.length : Int)
        ·rw [if_pos c24] at H
         have c24b0 : decide ((ji22) < (x5_1.length : Int)) = true := decide_eq_true c24
         clear c24
         by_cases c25 : 0 < (((rd_T55 x5_1 (ji22)).f0).length : Int)
         ·rw [if_pos c25] at H
          have c25b0 : decide (0 < (((rd_T55 x5_1 (ji22)).f0).length : Int)) = true := decide_eq_true c25
          have c25b1 : decide (0 < ((rd_T55 x5_1 (ji22)).f0).length) = true := decide_eq_true (by omega)
          clear c25
          by_cases c26 : 0 ≤ (rd ((rd_T55 x5_1 (ji22)).f0) 0)
          ·rw [if_pos c26] at H
           have c26b0 : decide (0 ≤ (rd ((rd_T55 x5_1 (ji22)).f0) 0)) = true := decide_eq_true c26
           clear c26
           by_cases c27 : (rd ((rd_T55 x5_1 (ji22)).f0) 0) < (l1.length : Int)
           ·rw [if_pos c27] at H
            have c27b0 : decide ((rd ((rd_T55 x5_1 (ji22)).f0) 0) < (l1.length : Int)) = true := decide_eq_true c27
            clear c27
            by_cases c28 : x6_1 < (l1.length : Int)
            ·rw [if_pos c28] at H
             have c28b0 : decide (x6_1 < (l1.length : Int)) = true := decide_eq_true c28
             clear c28
             by_cases c29 : (rd l1 (rd ((rd_T55 x5_1 (ji22)).f0) 0)) = (rd l1 x6_1)
             ·rw [if_pos c29] at H
              have c29b0 : ((rd l1 (rd ((rd_T55 x5_1 (ji22)).f0) 0)) == (rd l1 x6_1)) = true := beq_iff_eq.mpr c29
              have c29b1 : ((rd l1 (rd ((rd_T55 x5_1 (ji22)).f0) 0)) != (rd l1 x6_1)) = false := bne_eq_false_iff_eq.mpr c29
              clear c29
              by_cases c30 : ((rd_T55 x5_1 (ji22)).f0).length < 17592186044416
              ·rw [if_pos c30] at H
               have LMc30 := Aside0.mk c30
               clear c30
               obtain ⟨y138, hy138⟩ : ∃ y_ : List Int, y_ = (((rd_T55 x5_1 (ji22)).f0) ++ [x6_1]) := ⟨_, rfl⟩
               replace H : (selvedgeref15_runs.l0 k1 l0 l1 (x5_1.set ((ji22) : Int).toNat (⟨y138, (rd_T55 x5_1 (ji22)).f1, (rd_T55 x5_1 (ji22)).f2⟩ : S55)) (wrap64 (x6_1 + 1))) = some r := by first | (rw [hy138]; with_reducible exact H) | (have H2_ := (Option.bind_some _ _).symm.trans H; rw [hy138]; with_reducible exact H2_) | (have H2_ := (Option.bind_some _ _).symm.trans H; with_reducible exact H2_) | with_reducible exact H | (rw [hy138]; exact H) | exact H
               have Ny138 := Aside0.mk hy138
               clear hy138
               obtain ⟨y141, hy141⟩ : ∃ y_ : List (S55), y_ = (x5_1.set ((ji22) : Int).toNat (⟨y138, (rd_T55 x5_1 (ji22)).f1, (rd_T55 x5_1 (ji22)).f2⟩ : S55)) := ⟨_, rfl⟩
               replace H : (selvedgeref15_runs.l0 k1 l0 l1 y141 (wrap64 (x6_1 + 1))) = some r := by first | (rw [hy141]; with_reducible exact H) | (have H2_ := (Option.bind_some _ _).symm.trans H; rw [hy141]; with_reducible exact H2_) | (have H2_ := (Option.bind_some _ _).symm.trans H; with_reducible exact H2_) | with_reducible exact H | (rw [hy141]; exact H) | exact H
               have Ny141 := Aside0.mk hy141
               clear hy141
               have H' := Aside0.mk H
               clear H
               obtain ⟨ad123, e123, hx123_0, p123, q123⟩ := atI HR0.out x6_1
               cases e123
               replace hx123_0 := (HB.out.cell (World.block_lt_of_cell? w _ hx123_0)).trans hx123_0
               go_wp2_with (first | (go_at_call 14; (with_reducible refine (selvedgeref14_Removed.calls (rd l0 x6_1) false _ A5.out).mono ?_); rintro e w' ⟨rfl, ⟨nd, rfl⟩⟩; (try first | exact ⟨rfl, _, World.drewN_drewN _ _ _⟩ | exact ⟨rfl, _, Eq.trans (World.drewN_drewN _ _ _) (congrArg (World.drewN _) (Nat.add_assoc _ _ _))⟩); obtain ⟨Ao32, co32, eo32⟩ := Kd.S_slice HO_5.out; subst eo32; have p133 := dT (0 ≤ ((ji22) : Int)); have q133 := dT ((ji22) < (x5_1.length : Int)); obtain ⟨ad133, A133_0, c133_0, e133, hx133_0, hx133_1, hx133_2, hl133_0, hi133_0⟩ := at_T55 (Kd.S_reads' HO_5.out).2.2 (ji22) p133 q133; cases e133; obtain ⟨ce133, hce133, hMe133, hcc133⟩ := Kd.S_get HO_5.out z55 (ji22) p133 (by first | exact q133 | exact of_decide_eq_true (by first | (with_reducible assumption) | assumption) | (have e_ := (Kd.S_reads' HO_5.out).1; omega)); obtain ⟨ve133_0, rfl, ge133_0⟩ := k55_openM hMe133; have hv133_0 := hcc133 0 _ rfl; rw [Nat.add_zero] at hv133_0; replace hv133_0 := Option.some.inj (hv133_0.symm.trans hx133_0); rw [hv133_0] at ge133_0; have HL133_0 := Aside0.mk (show Kd.R (Kd.int .i64) 3 _ _ _ _ ((rd_T55 x5_1 (ji22)).f0) from ge133_0); clear hv133_0 ge133_0; have HX133_0 := Aside0.mk hx133_0; clear hcc133 hce133; have HR133_0 := Aside0.mk hi133_0; have HC133_0 := Aside0.mk hl133_0; clear hi133_0 hl133_0; replace p133 := eq_true p133; replace q133 := eq_true q133; have p134 : 0 ≤ (0 : Int) := (by omega); have q134 := dT (0 < (((rd_T55 x5_1 (ji22)).f0).length : Int)); obtain ⟨ad134, e134, hx134_0⟩ := Kd.at_int (by repeat (first | (with_reducible exact HR133_0.out) | (with_reducible refine Kd.C_alloc ?_ _) | (with_reducible refine Kd.C_drewN ?_ _) | (with_reducible refine Kd.C_drew ?_) | exact HR133_0.out)) 0 p134 q134; cases e134; have qi134 : (0 < ((rd_T55 x5_1 (ji22)).f0).length) = True := eq_true (by omega); (try rw [show ((0 : Int)).toNat = 0 from rfl] at hx134_0); (try rw [Addr.add_zero'] at hx134_0); replace p134 := eq_true p134; replace q134 := eq_true q134; obtain ⟨ad135, e135, hx135_0, p135, q135⟩ := atI HR1.out (rd ((rd_T55 x5_1 (ji22)).f0) 0); cases e135; replace hx135_0 := (HB.out.cell (World.block_lt_of_cell? w _ hx135_0)).trans hx135_0; obtain ⟨ad136, e136, hx136_0, p136, q136⟩ := atI HR1.out x6_1; obtain rfl : ad135 = ad136 := (by injection e136); replace hx136_0 := (HB.out.cell (World.block_lt_of_cell? w _ hx136_0)).trans hx136_0; have p137 := dT (0 ≤ ((ji22) : Int)); have q137 := dT ((ji22) < (x5_1.length : Int)); obtain ⟨ad137, A137_0, c137_0, e137, hx137_0, hx137_1, hx137_2, hl137_0, hi137_0⟩ := at_T55 (Kd.S_reads' HO_5.out).2.2 (ji22) p137 q137; obtain rfl : ad133 = ad137 := (by injection e137); obtain ⟨ce137, hce137, hMe137, hcc137⟩ := Kd.S_get HO_5.out z55 (ji22) p137 (by first | exact q137 | exact of_decide_eq_true (by first | (with_reducible assumption) | assumption) | (have e_ := (Kd.S_reads' HO_5.out).1; omega)); obtain ⟨ve137_0, rfl, ge137_0⟩ := k55_openM hMe137; have hv137_0 := hcc137 0 _ rfl; rw [Nat.add_zero] at hv137_0; replace hv137_0 := Option.some.inj (hv137_0.symm.trans hx137_0); rw [hv137_0] at ge137_0; have HL137_0 := Aside0.mk (show Kd.R (Kd.int .i64) 3 _ _ _ _ ((rd_T55 x5_1 (ji22)).f0) from ge137_0); clear hv137_0 ge137_0; have HX137_0 := Aside0.mk hx137_0; clear hcc137 hce137; have HR137_0 := Aside0.mk hi137_0; have HC137_0 := Aside0.mk hl137_0; clear hi137_0 hl137_0; replace p137 := eq_true p137; replace q137 := eq_true q137; have ea_ := Option.some.inj (hx133_0.symm.trans hx137_0); injection ea_ with ea_ en_ ec_; subst ea_; subst ec_; clear en_; obtain ⟨go33, co33, eo33, gb33, gl33, cl33, HG33⟩ := Kd.S_form HO_5.out (by have h_ : ((ji22) : Int) < ((x5_1.length : Int) : Int) := of_decide_eq_true (by first | (with_reducible assumption) | assumption); have h2_ : 0 ≤ ((ji22) : Int) := (of_decide_eq_true (by first | (with_reducible assumption) | assumption)); omega); (first | cases eo33 | (injection eo33 with ea_ en_ ec_; (first | subst ea_ | (injection ea_ with ea_; subst ea_)); subst ec_; clear en_)); have GB33 := Aside0.mk gb33; have GG33 := Aside0.mk HG33; clear gb33 gl33 HG33; (first | simp only [add_plain] at hx133_0 | skip); (first | simp only [add_plain] at hx133_1 | skip); (first | simp only [add_plain] at hx133_2 | skip); (first | simp only [add_plain] at hx137_0 | skip); (first | simp only [add_plain] at hx137_1 | skip); (first | simp only [add_plain] at hx137_2 | skip); obtain ⟨oki33, ce33, hcl33, hM33, hcc33, _, _, hH33⟩ := Kd.S_elem HO_5.out z55 ((ji22) : Int) (of_decide_eq_true (by first | (with_reducible assumption) | assumption)) (by have h_ : ((ji22) : Int) < ((x5_1.length : Int) : Int) := of_decide_eq_true (by first | (with_reducible assumption) | assumption); first | exact h_ | (have e_ := (Kd.S_reads' HO_5.out).1; omega) | simpa using h_); obtain ⟨ve33_0, rfl, ge33_0⟩ := k55_openM hM33; have hv33 := hcc33 0 _ rfl; have hX33 := HX137_0.out; (try simp only [add_plain] at hX33); (try simp only [Nat.add_zero] at hv33); replace hv33 := Option.some.inj (hv33.symm.trans hX33); subst hv33; clear hX33 hcc33 hcl33; have UU33 := Aside0.mk (show Kd.R (Kd.int .i64) 3 _ w.heap.size oki33 (.slice (some ad134) ((rd_T55 x5_1 (ji22)).f0).length c133_0) ((rd_T55 x5_1 (ji22)).f0) from ge33_0); have HH33 := Aside0.mk hH33; have HN33 := Aside0.mk (Kd.S_reads' HO_5.out).1; clear hH33 ge33_0) | ((with_reducible refine gate_builtin (b := .append) (xs := #[.tmp 62, .tmp 64]) rfl ?_); at_builtin; refine Kd.R_append (Kd.int .i64) (w0 := w) w.heap.size rfl (.tmp 62) (.tmp 64) 33 3 (.int .i64 0) 8 rfl Try.underlying33 info3 rfl (by decide) (by omega) (.slice (some ad134) ((rd_T55 x5_1 (ji22)).f0).length c133_0) ((rd_T55 x5_1 (ji22)).f0) x6_1 [.int .i64 x6_1] (fun k_ => oki33 k_ ∨ ((fun _ => True)) k_ ∧ wr.heap.size ≤ k_) (fun _ => False) rfl rfl ?aP (fun _ hk => hk.elim) ?aF ?aO ?aB ?aS ?aL ?_; (case aP => exact rfl); (case aB => exact (mvB HB)); (case aF => exact (fun k_ hk => .inr ⟨trivial, hk⟩)); (case aO => exact (by (with_reducible repeat (first | apply Kd.R_alloc | apply Kd.R_drewN | apply Kd.R_drew)); exact Kd.R_mono UU33.out (fun _ hk => .inl hk))); (case aS => exact (below_size (mvB HB))); (case aL => have := LMc30.out; omega); intro v139 w34 ho hb hg hat; rw [← Ny138.out] at ho; have n0_ := Aside0.mk (hb); have n1_ := Aside0.mk (Kd.H_grown (Kd.H_widen (by repeat (first | exact HH33.out | refine Kd.H_alloc ?_ _ | refine Kd.H_drewN ?_ _ | refine Kd.H_drew ?_))) hg (fun k_ e_ => .inl (UU33.out.1 k_ e_))); have n2_ := Aside0.mk (ho); clear HB; clear HH33; clear HO_5; clear UU33; clear HL133_0; clear HL137_0; have HB := n0_; have HH33 := n1_; have HO140 := n2_; clear n0_ n1_ n2_; clear ho hb hg hat; have p31 := dT (0 ≤ ((ji22) : Int)); have q31 : ((ji22) : Int) < ((x5_1.length : Int) : Int) := of_decide_eq_true (by first | (with_reducible assumption) | assumption); replace p31 := eq_true p31; replace q31 := eq_true q31; obtain ⟨Ao37, co37, eo37⟩ := Kd.R_slice HO140.out; subst eo37; obtain ⟨_, _, hraw35, _, _, hcc35, _⟩ := Kd.H_raw HH33.out (of_decide_eq_true (by first | (with_reducible assumption) | assumption)) (by have h_ : ((ji22) : Int) < ((x5_1.length : Int) : Int) := of_decide_eq_true (by first | (with_reducible assumption) | assumption); first | exact h_ | (have e_ := (HN33.out); omega) | simpa using h_); obtain ⟨_, hfr35⟩ := Kd.H_at HH33.out (of_decide_eq_true (by first | (with_reducible assumption) | assumption)) (by have h_ : ((ji22) : Int) < ((x5_1.length : Int) : Int) := of_decide_eq_true (by first | (with_reducible assumption) | assumption); first | exact h_ | (have e_ := (HN33.out); omega) | simpa using h_); have hx35_0 := hcc35 0 _ rfl; have hf35_0 := hfr35 0; (try simp only [Nat.add_zero] at hx35_0 hf35_0); (try rw [show (k55).sz = 3 from rfl] at hx35_0); (try rw [show (k55).sz = 3 from rfl] at hf35_0); have HP35 := Kd.S_seg0 HH33.out (of_decide_eq_true (by first | (with_reducible assumption) | assumption)) (by have h_ : ((ji22) : Int) < ((x5_1.length : Int) : Int) := of_decide_eq_true (by first | (with_reducible assumption) | assumption); first | exact h_ | (have e_ := (HN33.out); omega) | simpa using h_) (seg := [.slice Ao37 y138.length co37]) (j := 0) (show 1 ≤ 3 from by decide) (x' := (⟨y138, (rd_T55 x5_1 (ji22)).f1, (rd_T55 x5_1 (ji22)).f2⟩ : S55)) (k55_mkM _ _ _ (⟨y138, (rd_T55 x5_1 (ji22)).f1, (rd_T55 x5_1 (ji22)).f2⟩ : S55) HO140.out) (fun _ hk => hk); clear hcc35 hfr35) | ((with_reducible refine gate_store (t := 33) (p := 67) rfl ?_); (try (rw [drewN_self w34]; generalize hq_ : World.drewN w34 _ = w34; have n0_ := Aside0.mk (Kd.S_at hq_ HO_5.out); have n1_ := Aside0.mk (below_at hq_ HB.out); clear hq_ HO_5 HB; have HO_5 := n0_; have HB := n1_; clear n0_ n1_; (try (obtain ⟨Ao37, co37, eo37⟩ := Kd.R_slice HO140.out)); (try (subst eo37)); (try (obtain ⟨_, _, hraw35, _, _, hcc35, _⟩ := Kd.H_raw HH33.out (of_decide_eq_true (by first | (with_reducible assumption) | assumption)) (by have h_ : ((ji22) : Int) < ((x5_1.length : Int) : Int) := of_decide_eq_true (by first | (with_reducible assumption) | assumption); first | exact h_ | (have e_ := (HN33.out); omega) | simpa using h_))); (try (obtain ⟨_, hfr35⟩ := Kd.H_at HH33.out (of_decide_eq_true (by first | (with_reducible assumption) | assumption)) (by have h_ : ((ji22) : Int) < ((x5_1.length : Int) : Int) := of_decide_eq_true (by first | (with_reducible assumption) | assumption); first | exact h_ | (have e_ := (HN33.out); omega) | simpa using h_))); (try (have hx35_0 := hcc35 0 _ rfl)); (try (have hf35_0 := hfr35 0)); (try (try simp only [Nat.add_zero] at hx35_0 hf35_0)); (try (try rw [show (k55).sz = 3 from rfl] at hx35_0)); (try (try rw [show (k55).sz = 3 from rfl] at hf35_0)); (try (have HP35 := Kd.S_seg0 HH33.out (of_decide_eq_true (by first | (with_reducible assumption) | assumption)) (by have h_ : ((ji22) : Int) < ((x5_1.length : Int) : Int) := of_decide_eq_true (by first | (with_reducible assumption) | assumption); first | exact h_ | (have e_ := (HN33.out); omega) | simpa using h_) (seg := [.slice Ao37 y138.length co37]) (j := 0) (show 1 ≤ 3 from by decide) (x' := (⟨y138, (rd_T55 x5_1 (ji22)).f1, (rd_T55 x5_1 (ji22)).f2⟩ : S55)) (k55_mkM _ _ _ (⟨y138, (rd_T55 x5_1 (ji22)).f1, (rd_T55 x5_1 (ji22)).f2⟩ : S55) HO140.out) (fun _ hk => hk))); (try (clear hcc35 hfr35)))); refine store_event (t := 33) (p := 67) (v := ?vo_w36) (w1 := (w34.setCell ⟨go33, ((ji22) : Int).toNat * 3, none⟩ (.slice Ao37 y138.length co37))) ?hg ?ho ?hn ?hr ?_; (case ho => rfl); (case hg => rfl); (case hn => rfl); (case hr => first | (go_simp; done) | (go_simp; rfl)); intro w36 hw; have hg : w34.grownBy w36 (some go33) := (by rw [hw]; exact HP35.2); have hp_ : Kd.S k55 55 w36 w.heap.size (fun _ => True) (.slice (some ⟨go33, 0, none⟩) x5_1.length co32) y141 := (by rw [hw, Ny141.out]; exact HP35.1); clear HP35; have n0_ := Aside0.mk ((by rw [hw]; exact below_set HB.out GB33.out : Below w.heap.size w w36)); have n1_ := Aside0.mk (hp_); clear HB; clear HO140; clear HH33; have HB := n0_; have HO_5 := n1_; clear n0_ n1_; clear hg hw hp_ hraw35))
               repeat (go_quiet (first | (go_at_call 14; (with_reducible refine (selvedgeref14_Removed.calls (rd l0 x6_1) false _ A5.out).mono ?_); rintro e w' ⟨rfl, ⟨nd, rfl⟩⟩; (try first | exact ⟨rfl, _, World.drewN_drewN _ _ _⟩ | exact ⟨rfl, _, Eq.trans (World.drewN_drewN _ _ _) (congrArg (World.drewN _) (Nat.add_assoc _ _ _))⟩); obtain ⟨Ao32, co32, eo32⟩ := Kd.S_slice HO_5.out; subst eo32; have p133 := dT (0 ≤ ((ji22) : Int)); have q133 := dT ((ji22) < (x5_1.length : Int)); obtain ⟨ad133, A133_0, c133_0, e133, hx133_0, hx133_1, hx133_2, hl133_0, hi133_0⟩ := at_T55 (Kd.S_reads' HO_5.out).2.2 (ji22) p133 q133; cases e133; obtain ⟨ce133, hce133, hMe133, hcc133⟩ := Kd.S_get HO_5.out z55 (ji22) p133 (by first | exact q133 | exact of_decide_eq_true (by first | (with_reducible assumption) | assumption) | (have e_ := (Kd.S_reads' HO_5.out).1; omega)); obtain ⟨ve133_0, rfl, ge133_0⟩ := k55_openM hMe133; have hv133_0 := hcc133 0 _ rfl; rw [Nat.add_zero] at hv133_0; replace hv133_0 := Option.some.inj (hv133_0.symm.trans hx133_0); rw [hv133_0] at ge133_0; have HL133_0 := Aside0.mk (show Kd.R (Kd.int .i64) 3 _ _ _ _ ((rd_T55 x5_1 (ji22)).f0) from ge133_0); clear hv133_0 ge133_0; have HX133_0 := Aside0.mk hx133_0; clear hcc133 hce133; have HR133_0 := Aside0.mk hi133_0; have HC133_0 := Aside0.mk hl133_0; clear hi133_0 hl133_0; replace p133 := eq_true p133; replace q133 := eq_true q133; have p134 : 0 ≤ (0 : Int) := (by omega); have q134 := dT (0 < (((rd_T55 x5_1 (ji22)).f0).length : Int)); obtain ⟨ad134, e134, hx134_0⟩ := Kd.at_int (by repeat (first | (with_reducible exact HR133_0.out) | (with_reducible refine Kd.C_alloc ?_ _) | (with_reducible refine Kd.C_drewN ?_ _) | (with_reducible refine Kd.C_drew ?_) | exact HR133_0.out)) 0 p134 q134; cases e134; have qi134 : (0 < ((rd_T55 x5_1 (ji22)).f0).length) = True := eq_true (by omega); (try rw [show ((0 : Int)).toNat = 0 from rfl] at hx134_0); (try rw [Addr.add_zero'] at hx134_0); replace p134 := eq_true p134; replace q134 := eq_true q134; obtain ⟨ad135, e135, hx135_0, p135, q135⟩ := atI HR1.out (rd ((rd_T55 x5_1 (ji22)).f0) 0); cases e135; replace hx135_0 := (HB.out.cell (World.block_lt_of_cell? w _ hx135_0)).trans hx135_0; obtain ⟨ad136, e136, hx136_0, p136, q136⟩ := atI HR1.out x6_1; obtain rfl : ad135 = ad136 := (by injection e136); replace hx136_0 := (HB.out.cell (World.block_lt_of_cell? w _ hx136_0)).trans hx136_0; have p137 := dT (0 ≤ ((ji22) : Int)); have q137 := dT ((ji22) < (x5_1.length : Int)); obtain ⟨ad137, A137_0, c137_0, e137, hx137_0, hx137_1, hx137_2, hl137_0, hi137_0⟩ := at_T55 (Kd.S_reads' HO_5.out).2.2 (ji22) p137 q137; obtain rfl : ad133 = ad137 := (by injection e137); obtain ⟨ce137, hce137, hMe137, hcc137⟩ := Kd.S_get HO_5.out z55 (ji22) p137 (by first | exact q137 | exact of_decide_eq_true (by first | (with_reducible assumption) | assumption) | (have e_ := (Kd.S_reads' HO_5.out).1; omega)); obtain ⟨ve137_0, rfl, ge137_0⟩ := k55_openM hMe137; have hv137_0 := hcc137 0 _ rfl; rw [Nat.add_zero] at hv137_0; replace hv137_0 := Option.some.inj (hv137_0.symm.trans hx137_0); rw [hv137_0] at ge137_0; have HL137_0 := Aside0.mk (show Kd.R (Kd.int .i64) 3 _ _ _ _ ((rd_T55 x5_1 (ji22)).f0) from ge137_0); clear hv137_0 ge137_0; have HX137_0 := Aside0.mk hx137_0; clear hcc137 hce137; have HR137_0 := Aside0.mk hi137_0; have HC137_0 := Aside0.mk hl137_0; clear hi137_0 hl137_0; replace p137 := eq_true p137; replace q137 := eq_true q137; have ea_ := Option.some.inj (hx133_0.symm.trans hx137_0); injection ea_ with ea_ en_ ec_; subst ea_; subst ec_; clear en_; obtain ⟨go33, co33, eo33, gb33, gl33, cl33, HG33⟩ := Kd.S_form HO_5.out (by have h_ : ((ji22) : Int) < ((x5_1.length : Int) : Int) := of_decide_eq_true (by first | (with_reducible assumption) | assumption); have h2_ : 0 ≤ ((ji22) : Int) := (of_decide_eq_true (by first | (with_reducible assumption) | assumption)); omega); (first | cases eo33 | (injection eo33 with ea_ en_ ec_; (first | subst ea_ | (injection ea_ with ea_; subst ea_)); subst ec_; clear en_)); have GB33 := Aside0.mk gb33; have GG33 := Aside0.mk HG33; clear gb33 gl33 HG33; (first | simp only [add_plain] at hx133_0 | skip); (first | simp only [add_plain] at hx133_1 | skip); (first | simp only [add_plain] at hx133_2 | skip); (first | simp only [add_plain] at hx137_0 | skip); (first | simp only [add_plain] at hx137_1 | skip); (first | simp only [add_plain] at hx137_2 | skip); obtain ⟨oki33, ce33, hcl33, hM33, hcc33, _, _, hH33⟩ := Kd.S_elem HO_5.out z55 ((ji22) : Int) (of_decide_eq_true (by first | (with_reducible assumption) | assumption)) (by have h_ : ((ji22) : Int) < ((x5_1.length : Int) : Int) := of_decide_eq_true (by first | (with_reducible assumption) | assumption); first | exact h_ | (have e_ := (Kd.S_reads' HO_5.out).1; omega) | simpa using h_); obtain ⟨ve33_0, rfl, ge33_0⟩ := k55_openM hM33; have hv33 := hcc33 0 _ rfl; have hX33 := HX137_0.out; (try simp only [add_plain] at hX33); (try simp only [Nat.add_zero] at hv33); replace hv33 := Option.some.inj (hv33.symm.trans hX33); subst hv33; clear hX33 hcc33 hcl33; have UU33 := Aside0.mk (show Kd.R (Kd.int .i64) 3 _ w.heap.size oki33 (.slice (some ad134) ((rd_T55 x5_1 (ji22)).f0).length c133_0) ((rd_T55 x5_1 (ji22)).f0) from ge33_0); have HH33 := Aside0.mk hH33; have HN33 := Aside0.mk (Kd.S_reads' HO_5.out).1; clear hH33 ge33_0)); try go_wp2_with (first | (go_at_call 14; (with_reducible refine (selvedgeref14_Removed.calls (rd l0 x6_1) false _ A5.out).mono ?_); rintro e w' ⟨rfl, ⟨nd, rfl⟩⟩; (try first | exact ⟨rfl, _, World.drewN_drewN _ _ _⟩ | exact ⟨rfl, _, Eq.trans (World.drewN_drewN _ _ _) (congrArg (World.drewN _) (Nat.add_assoc _ _ _))⟩); obtain ⟨Ao32, co32, eo32⟩ := Kd.S_slice HO_5.out; subst eo32; have p133 := dT (0 ≤ ((ji22) : Int)); have q133 := dT ((ji22) < (x5_1.length : Int)); obtain ⟨ad133, A133_0, c133_0, e133, hx133_0, hx133_1, hx133_2, hl133_0, hi133_0⟩ := at_T55 (Kd.S_reads' HO_5.out).2.2 (ji22) p133 q133; cases e133; obtain ⟨ce133, hce133, hMe133, hcc133⟩ := Kd.S_get HO_5.out z55 (ji22) p133 (by first | exact q133 | exact of_decide_eq_true (by first | (with_reducible assumption) | assumption) | (have e_ := (Kd.S_reads' HO_5.out).1; omega)); obtain ⟨ve133_0, rfl, ge133_0⟩ := k55_openM hMe133; have hv133_0 := hcc133 0 _ rfl; rw [Nat.add_zero] at hv133_0; replace hv133_0 := Option.some.inj (hv133_0.symm.trans hx133_0); rw [hv133_0] at ge133_0; have HL133_0 := Aside0.mk (show Kd.R (Kd.int .i64) 3 _ _ _ _ ((rd_T55 x5_1 (ji22)).f0) from ge133_0); clear hv133_0 ge133_0; have HX133_0 := Aside0.mk hx133_0; clear hcc133 hce133; have HR133_0 := Aside0.mk hi133_0; have HC133_0 := Aside0.mk hl133_0; clear hi133_0 hl133_0; replace p133 := eq_true p133; replace q133 := eq_true q133; have p134 : 0 ≤ (0 : Int) := (by omega); have q134 := dT (0 < (((rd_T55 x5_1 (ji22)).f0).length : Int)); obtain ⟨ad134, e134, hx134_0⟩ := Kd.at_int (by repeat (first | (with_reducible exact HR133_0.out) | (with_reducible refine Kd.C_alloc ?_ _) | (with_reducible refine Kd.C_drewN ?_ _) | (with_reducible refine Kd.C_drew ?_) | exact HR133_0.out)) 0 p134 q134; cases e134; have qi134 : (0 < ((rd_T55 x5_1 (ji22)).f0).length) = True := eq_true (by omega); (try rw [show ((0 : Int)).toNat = 0 from rfl] at hx134_0); (try rw [Addr.add_zero'] at hx134_0); replace p134 := eq_true p134; replace q134 := eq_true q134; obtain ⟨ad135, e135, hx135_0, p135, q135⟩ := atI HR1.out (rd ((rd_T55 x5_1 (ji22)).f0) 0); cases e135; replace hx135_0 := (HB.out.cell (World.block_lt_of_cell? w _ hx135_0)).trans hx135_0; obtain ⟨ad136, e136, hx136_0, p136, q136⟩ := atI HR1.out x6_1; obtain rfl : ad135 = ad136 := (by injection e136); replace hx136_0 := (HB.out.cell (World.block_lt_of_cell? w _ hx136_0)).trans hx136_0; have p137 := dT (0 ≤ ((ji22) : Int)); have q137 := dT ((ji22) < (x5_1.length : Int)); obtain ⟨ad137, A137_0, c137_0, e137, hx137_0, hx137_1, hx137_2, hl137_0, hi137_0⟩ := at_T55 (Kd.S_reads' HO_5.out).2.2 (ji22) p137 q137; obtain rfl : ad133 = ad137 := (by injection e137); obtain ⟨ce137, hce137, hMe137, hcc137⟩ := Kd.S_get HO_5.out z55 (ji22) p137 (by first | exact q137 | exact of_decide_eq_true (by first | (with_reducible assumption) | assumption) | (have e_ := (Kd.S_reads' HO_5.out).1; omega)); obtain ⟨ve137_0, rfl, ge137_0⟩ := k55_openM hMe137; have hv137_0 := hcc137 0 _ rfl; rw [Nat.add_zero] at hv137_0; replace hv137_0 := Option.some.inj (hv137_0.symm.trans hx137_0); rw [hv137_0] at ge137_0; have HL137_0 := Aside0.mk (show Kd.R (Kd.int .i64) 3 _ _ _ _ ((rd_T55 x5_1 (ji22)).f0) from ge137_0); clear hv137_0 ge137_0; have HX137_0 := Aside0.mk hx137_0; clear hcc137 hce137; have HR137_0 := Aside0.mk hi137_0; have HC137_0 := Aside0.mk hl137_0; clear hi137_0 hl137_0; replace p137 := eq_true p137; replace q137 := eq_true q137; have ea_ := Option.some.inj (hx133_0.symm.trans hx137_0); injection ea_ with ea_ en_ ec_; subst ea_; subst ec_; clear en_; obtain ⟨go33, co33, eo33, gb33, gl33, cl33, HG33⟩ := Kd.S_form HO_5.out (by have h_ : ((ji22) : Int) < ((x5_1.length : Int) : Int) := of_decide_eq_true (by first | (with_reducible assumption) | assumption); have h2_ : 0 ≤ ((ji22) : Int) := (of_decide_eq_true (by first | (with_reducible assumption) | assumption)); omega); (first | cases eo33 | (injection eo33 with ea_ en_ ec_; (first | subst ea_ | (injection ea_ with ea_; subst ea_)); subst ec_; clear en_)); have GB33 := Aside0.mk gb33; have GG33 := Aside0.mk HG33; clear gb33 gl33 HG33; (first | simp only [add_plain] at hx133_0 | skip); (first | simp only [add_plain] at hx133_1 | skip); (first | simp only [add_plain] at hx133_2 | skip); (first | simp only [add_plain] at hx137_0 | skip); (first | simp only [add_plain] at hx137_1 | skip); (first | simp only [add_plain] at hx137_2 | skip); obtain ⟨oki33, ce33, hcl33, hM33, hcc33, _, _, hH33⟩ := Kd.S_elem HO_5.out z55 ((ji22) : Int) (of_decide_eq_true (by first | (with_reducible assumption) | assumption)) (by have h_ : ((ji22) : Int) < ((x5_1.length : Int) : Int) := of_decide_eq_true (by first | (with_reducible assumption) | assumption); first | exact h_ | (have e_ := (Kd.S_reads' HO_5.out).1; omega) | simpa using h_); obtain ⟨ve33_0, rfl, ge33_0⟩ := k55_openM hM33; have hv33 := hcc33 0 _ rfl; have hX33 := HX137_0.out; (try simp only [add_plain] at hX33); (try simp only [Nat.add_zero] at hv33); replace hv33 := Option.some.inj (hv33.symm.trans hX33); subst hv33; clear hX33 hcc33 hcl33; have UU33 := Aside0.mk (show Kd.R (Kd.int .i64) 3 _ w.heap.size oki33 (.slice (some ad134) ((rd_T55 x5_1 (ji22)).f0).length c133_0) ((rd_T55 x5_1 (ji22)).f0) from ge33_0); have HH33 := Aside0.mk hH33; have HN33 := Aside0.mk (Kd.S_reads' HO_5.out).1; clear hH33 ge33_0) | ((with_reducible refine gate_builtin (b := .append) (xs := #[.tmp 62, .tmp 64]) rfl ?_); at_builtin; refine Kd.R_append (Kd.int .i64) (w0 := w) w.heap.size rfl (.tmp 62) (.tmp 64) 33 3 (.int .i64 0) 8 rfl Try.underlying33 info3 rfl (by decide) (by omega) (.slice (some ad134) ((rd_T55 x5_1 (ji22)).f0).length c133_0) ((rd_T55 x5_1 (ji22)).f0) x6_1 [.int .i64 x6_1] (fun k_ => oki33 k_ ∨ ((fun _ => True)) k_ ∧ wr.heap.size ≤ k_) (fun _ => False) rfl rfl ?aP (fun _ hk => hk.elim) ?aF ?aO ?aB ?aS ?aL ?_; (case aP => exact rfl); (case aB => exact (mvB HB)); (case aF => exact (fun k_ hk => .inr ⟨trivial, hk⟩)); (case aO => exact (by (with_reducible repeat (first | apply Kd.R_alloc | apply Kd.R_drewN | apply Kd.R_drew)); exact Kd.R_mono UU33.out (fun _ hk => .inl hk))); (case aS => exact (below_size (mvB HB))); (case aL => have := LMc30.out; omega); intro v139 w34 ho hb hg hat; rw [← Ny138.out] at ho; have n0_ := Aside0.mk (hb); have n1_ := Aside0.mk (Kd.H_grown (Kd.H_widen (by repeat (first | exact HH33.out | refine Kd.H_alloc ?_ _ | refine Kd.H_drewN ?_ _ | refine Kd.H_drew ?_))) hg (fun k_ e_ => .inl (UU33.out.1 k_ e_))); have n2_ := Aside0.mk (ho); clear HB; clear HH33; clear HO_5; clear UU33; clear HL133_0; clear HL137_0; have HB := n0_; have HH33 := n1_; have HO140 := n2_; clear n0_ n1_ n2_; clear ho hb hg hat; have p31 := dT (0 ≤ ((ji22) : Int)); have q31 : ((ji22) : Int) < ((x5_1.length : Int) : Int) := of_decide_eq_true (by first | (with_reducible assumption) | assumption); replace p31 := eq_true p31; replace q31 := eq_true q31; obtain ⟨Ao37, co37, eo37⟩ := Kd.R_slice HO140.out; subst eo37; obtain ⟨_, _, hraw35, _, _, hcc35, _⟩ := Kd.H_raw HH33.out (of_decide_eq_true (by first | (with_reducible assumption) | assumption)) (by have h_ : ((ji22) : Int) < ((x5_1.length : Int) : Int) := of_decide_eq_true (by first | (with_reducible assumption) | assumption); first | exact h_ | (have e_ := (HN33.out); omega) | simpa using h_); obtain ⟨_, hfr35⟩ := Kd.H_at HH33.out (of_decide_eq_true (by first | (with_reducible assumption) | assumption)) (by have h_ : ((ji22) : Int) < ((x5_1.length : Int) : Int) := of_decide_eq_true (by first | (with_reducible assumption) | assumption); first | exact h_ | (have e_ := (HN33.out); omega) | simpa using h_); have hx35_0 := hcc35 0 _ rfl; have hf35_0 := hfr35 0; (try simp only [Nat.add_zero] at hx35_0 hf35_0); (try rw [show (k55).sz = 3 from rfl] at hx35_0); (try rw [show (k55).sz = 3 from rfl] at hf35_0); have HP35 := Kd.S_seg0 HH33.out (of_decide_eq_true (by first | (with_reducible assumption) | assumption)) (by have h_ : ((ji22) : Int) < ((x5_1.length : Int) : Int) := of_decide_eq_true (by first | (with_reducible assumption) | assumption); first | exact h_ | (have e_ := (HN33.out); omega) | simpa using h_) (seg := [.slice Ao37 y138.length co37]) (j := 0) (show 1 ≤ 3 from by decide) (x' := (⟨y138, (rd_T55 x5_1 (ji22)).f1, (rd_T55 x5_1 (ji22)).f2⟩ : S55)) (k55_mkM _ _ _ (⟨y138, (rd_T55 x5_1 (ji22)).f1, (rd_T55 x5_1 (ji22)).f2⟩ : S55) HO140.out) (fun _ hk => hk); clear hcc35 hfr35) | ((with_reducible refine gate_store (t := 33) (p := 67) rfl ?_); (try (rw [drewN_self w34]; generalize hq_ : World.drewN w34 _ = w34; have n0_ := Aside0.mk (Kd.S_at hq_ HO_5.out); have n1_ := Aside0.mk (below_at hq_ HB.out); clear hq_ HO_5 HB; have HO_5 := n0_; have HB := n1_; clear n0_ n1_; (try (obtain ⟨Ao37, co37, eo37⟩ := Kd.R_slice HO140.out)); (try (subst eo37)); (try (obtain ⟨_, _, hraw35, _, _, hcc35, _⟩ := Kd.H_raw HH33.out (of_decide_eq_true (by first | (with_reducible assumption) | assumption)) (by have h_ : ((ji22) : Int) < ((x5_1.length : Int) : Int) := of_decide_eq_true (by first | (with_reducible assumption) | assumption); first | exact h_ | (have e_ := (HN33.out); omega) | simpa using h_))); (try (obtain ⟨_, hfr35⟩ := Kd.H_at HH33.out (of_decide_eq_true (by first | (with_reducible assumption) | assumption)) (by have h_ : ((ji22) : Int) < ((x5_1.length : Int) : Int) := of_decide_eq_true (by first | (with_reducible assumption) | assumption); first | exact h_ | (have e_ := (HN33.out); omega) | simpa using h_))); (try (have hx35_0 := hcc35 0 _ rfl)); (try (have hf35_0 := hfr35 0)); (try (try simp only [Nat.add_zero] at hx35_0 hf35_0)); (try (try rw [show (k55).sz = 3 from rfl] at hx35_0)); (try (try rw [show (k55).sz = 3 from rfl] at hf35_0)); (try (have HP35 := Kd.S_seg0 HH33.out (of_decide_eq_true (by first | (with_reducible assumption) | assumption)) (by have h_ : ((ji22) : Int) < ((x5_1.length : Int) : Int) := of_decide_eq_true (by first | (with_reducible assumption) | assumption); first | exact h_ | (have e_ := (HN33.out); omega) | simpa using h_) (seg := [.slice Ao37 y138.length co37]) (j := 0) (show 1 ≤ 3 from by decide) (x' := (⟨y138, (rd_T55 x5_1 (ji22)).f1, (rd_T55 x5_1 (ji22)).f2⟩ : S55)) (k55_mkM _ _ _ (⟨y138, (rd_T55 x5_1 (ji22)).f1, (rd_T55 x5_1 (ji22)).f2⟩ : S55) HO140.out) (fun _ hk => hk))); (try (clear hcc35 hfr35)))); refine store_event (t := 33) (p := 67) (v := ?vo_w36) (w1 := (w34.setCell ⟨go33, ((ji22) : Int).toNat * 3, none⟩ (.slice Ao37 y138.length co37))) ?hg ?ho ?hn ?hr ?_; (case ho => rfl); (case hg => rfl); (case hn => rfl); (case hr => first | (go_simp; done) | (go_simp; rfl)); intro w36 hw; have hg : w34.grownBy w36 (some go33) := (by rw [hw]; exact HP35.2); have hp_ : Kd.S k55 55 w36 w.heap.size (fun _ => True) (.slice (some ⟨go33, 0, none⟩) x5_1.length co32) y141 := (by rw [hw, Ny141.out]; exact HP35.1); clear HP35; have n0_ := Aside0.mk ((by rw [hw]; exact below_set HB.out GB33.out : Below w.heap.size w w36)); have n1_ := Aside0.mk (hp_); clear HB; clear HO140; clear HH33; have HB := n0_; have HO_5 := n1_; clear n0_ n1_; clear hg hw hp_ hraw35)))
               go_roundg k1
               case measure => have := HK1.out; omega
               case rel => exact ⟨(y141), (wrap64 (x6_1 + 1)), (by first | rfl | (simp; done) | (simp [*]; done)), H', ⟨by have := HK1.out; omega⟩, ⟨by (with_reducible repeat (first | apply Kd.S_alloc | apply Kd.S_drewN | apply Kd.S_drew)); exact HO_5.out⟩, ⟨mvB HB⟩⟩
              ·rw [if_neg c30] at H
               exact absurd H (by simp)
             ·rw [if_neg c29] at H
              have c29b0 : ((rd l1 (rd ((rd_T55 x5_1 (ji22)).f0) 0)) == (rd l1 x6_1)) = false := beq_eq_false_iff_ne.mpr c29
              have c29b1 : ((rd l1 (rd ((rd_T55 x5_1 (ji22)).f0) 0)) != (rd l1 x6_1)) = true := bne_iff_ne.mpr c29
              by_cases c38 : x5_1.length < 3518437208883
              ·rw [if_pos c38] at H
               have LMc38 := Aside0.mk c38
               clear c38
               obtain ⟨y142, hy142⟩ : ∃ y_ : List (S55), y_ = (x5_1 ++ [(⟨([] : List Int), (-1), (-1)⟩ : S55)]) := ⟨_, rfl⟩
               replace H : (if 0 ≤ (wrap64 ((wrap64 ((x5_1.length : Int) + 1)) - 1)) then (if (wrap64 ((wrap64 ((x5_1.length : Int) + 1)) - 1)) < (y142.length : Int) then (if ((rd_T55 y142 (wrap64 ((wrap64 ((x5_1.length : Int) + 1)) - 1))).f0).length < 17592186044416 then (selvedgeref15_runs.l0 k1 l0 l1 (y142.set ((wrap64 ((wrap64 ((x5_1.length : Int) + 1)) - 1)) : Int).toNat (⟨(((rd_T55 y142 (wrap64 ((wrap64 ((x5_1.length : Int) + 1)) - 1))).f0) ++ [x6_1]), (rd_T55 y142 (wrap64 ((wrap64 ((x5_1.length : Int) + 1)) - 1))).f1, (rd_T55 y142 (wrap64 ((wrap64 ((x5_1.length : Int) + 1)) - 1))).f2⟩ : S55)) (wrap64 (x6_1 + 1))) else (none)) else (none)) else (none)) = some r := by first | (rw [hy142]; with_reducible exact H) | (have H2_ := (Option.bind_some _ _).symm.trans H; rw [hy142]; with_reducible exact H2_) | (have H2_ := (Option.bind_some _ _).symm.trans H; with_reducible exact H2_) | with_reducible exact H | (rw [hy142]; exact H) | exact H
               have Ny142 := Aside0.mk hy142
               clear hy142
               obtain ⟨ji39, hji39⟩ : ∃ j_ : Int, (wrap64 ((wrap64 ((x5_1.length : Int) + 1)) - 1)) = j_ := ⟨_, rfl⟩
               replace H : (if 0 ≤ (ji39) then (if (ji39) < (y142.length : Int) then (if ((rd_T55 y142 (ji39)).f0).length < 17592186044416 then (selvedgeref15_runs.l0 k1 l0 l1 (y142.set ((ji39) : Int).toNat (⟨(((rd_T55 y142 (ji39)).f0) ++ [x6_1]), (rd_T55 y142 (ji39)).f1, (rd_T55 y142 (ji39)).f2⟩ : S55)) (wrap64 (x6_1 + 1))) else (none)) else (none)) else (none)) = some r := by first | (rw [hji39] at H; exact H) | (simp only [hji39] at H ⊢; exact H)
               (try rw [hji39] at A5)
               have hji39w : (IntKind.i64.wrap ((wrap64 ((x5_1.length : Int) + 1)) - 1)) = ji39 := (i64_w _).trans hji39
               by_cases c40 : 0 ≤ (ji39)
               ·rw [if_pos c40] at H
                have c40b0 : decide (0 ≤ (ji39)) = true := decide_eq_true c40
                clear c40
                by_cases c41 : (ji39) < (y142.length : Int)
                ·rw [if_pos c41] at H
                 have c41b0 : decide ((ji39) < (y142.length : Int)) = true := decide_eq_true c41
                 clear c41
                 by_cases c42 : ((rd_T55 y142 (ji39)).f0).length < 17592186044416
                 ·rw [if_pos c42] at H
                  have LMc42 := Aside0.mk c42
                  clear c42
                  obtain ⟨y146, hy146⟩ : ∃ y_ : List Int, y_ = (((rd_T55 y142 (ji39)).f0) ++ [x6_1]) := ⟨_, rfl⟩
                  replace H : (selvedgeref15_runs.l0 k1 l0 l1 (y142.set ((ji39) : Int).toNat (⟨y146, (rd_T55 y142 (ji39)).f1, (rd_T55 y142 (ji39)).f2⟩ : S55)) (wrap64 (x6_1 + 1))) = some r := by first | (rw [hy146]; with_reducible exact H) | (have H2_ := (Option.bind_some _ _).symm.trans H; rw [hy146]; with_reducible exact H2_) | (have H2_ := (Option.bind_some _ _).symm.trans H; with_reducible exact H2_) | with_reducible exact H | (rw [hy146]; exact H) | exact H
                  have Ny146 := Aside0.mk hy146
                  clear hy146
                  obtain ⟨y149, hy149⟩ : ∃ y_ : List (S55), y_ = (y142.set ((ji39) : Int).toNat (⟨y146, (rd_T55 y142 (ji39)).f1, (rd_T55 y142 (ji39)).f2⟩ : S55)) := ⟨_, rfl⟩
                  replace H : (selvedgeref15_runs.l0 k1 l0 l1 y149 (wrap64 (x6_1 + 1))) = some r := by first | (rw [hy149]; with_reducible exact H) | (have H2_ := (Option.bind_some _ _).symm.trans H; rw [hy149]; with_reducible exact H2_) | (have H2_ := (Option.bind_some _ _).symm.trans H; with_reducible exact H2_) | with_reducible exact H | (rw [hy149]; exact H) | exact H
                  have Ny149 := Aside0.mk hy149
                  clear hy149
                  have H' := Aside0.mk H
                  clear H
                  obtain ⟨ad123, e123, hx123_0, p123, q123⟩ := atI HR0.out x6_1
                  cases e123
                  replace hx123_0 := (HB.out.cell (World.block_lt_of_cell? w _ hx123_0)).trans hx123_0
                  go_wp2_with (first | (go_at_call 14; (with_reducible refine (selvedgeref14_Removed.calls (rd l0 x6_1) false _ A5.out).mono ?_); rintro e w' ⟨rfl, ⟨nd, rfl⟩⟩; (try first | exact ⟨rfl, _, World.drewN_drewN _ _ _⟩ | exact ⟨rfl, _, Eq.trans (World.drewN_drewN _ _ _) (congrArg (World.drewN _) (Nat.add_assoc _ _ _))⟩); obtain ⟨Ao44, co44, eo44⟩ := Kd.S_slice HO_5.out; subst eo44; have p133 := dT (0 ≤ ((ji22) : Int)); have q133 := dT ((ji22) < (x5_1.length : Int)); obtain ⟨ad133, A133_0, c133_0, e133, hx133_0, hx133_1, hx133_2, hl133_0, hi133_0⟩ := at_T55 (Kd.S_reads' HO_5.out).2.2 (ji22) p133 q133; cases e133; obtain ⟨ce133, hce133, hMe133, hcc133⟩ := Kd.S_get HO_5.out z55 (ji22) p133 (by first | exact q133 | exact of_decide_eq_true (by first | (with_reducible assumption) | assumption) | (have e_ := (Kd.S_reads' HO_5.out).1; omega)); obtain ⟨ve133_0, rfl, ge133_0⟩ := k55_openM hMe133; have hv133_0 := hcc133 0 _ rfl; rw [Nat.add_zero] at hv133_0; replace hv133_0 := Option.some.inj (hv133_0.symm.trans hx133_0); rw [hv133_0] at ge133_0; have HL133_0 := Aside0.mk (show Kd.R (Kd.int .i64) 3 _ _ _ _ ((rd_T55 x5_1 (ji22)).f0) from ge133_0); clear hv133_0 ge133_0; have HX133_0 := Aside0.mk hx133_0; clear hcc133 hce133; have HR133_0 := Aside0.mk hi133_0; have HC133_0 := Aside0.mk hl133_0; clear hi133_0 hl133_0; replace p133 := eq_true p133; replace q133 := eq_true q133; have p134 : 0 ≤ (0 : Int) := (by omega); have q134 := dT (0 < (((rd_T55 x5_1 (ji22)).f0).length : Int)); obtain ⟨ad134, e134, hx134_0⟩ := Kd.at_int (by repeat (first | (with_reducible exact HR133_0.out) | (with_reducible refine Kd.C_alloc ?_ _) | (with_reducible refine Kd.C_drewN ?_ _) | (with_reducible refine Kd.C_drew ?_) | exact HR133_0.out)) 0 p134 q134; cases e134; have qi134 : (0 < ((rd_T55 x5_1 (ji22)).f0).length) = True := eq_true (by omega); (try rw [show ((0 : Int)).toNat = 0 from rfl] at hx134_0); (try rw [Addr.add_zero'] at hx134_0); replace p134 := eq_true p134; replace q134 := eq_true q134; obtain ⟨ad135, e135, hx135_0, p135, q135⟩ := atI HR1.out (rd ((rd_T55 x5_1 (ji22)).f0) 0); cases e135; replace hx135_0 := (HB.out.cell (World.block_lt_of_cell? w _ hx135_0)).trans hx135_0; obtain ⟨ad136, e136, hx136_0, p136, q136⟩ := atI HR1.out x6_1; obtain rfl : ad135 = ad136 := (by injection e136); replace hx136_0 := (HB.out.cell (World.block_lt_of_cell? w _ hx136_0)).trans hx136_0) | ((with_reducible refine gate_builtin (b := .append) (xs := #[.tmp 48, .tmp 50]) rfl ?_); at_builtin; refine Kd.S_append k55 (w0 := w) w.heap.size rfl (.tmp 48) (.tmp 50) 50 55 (.agg #[(.slice none 0 0), (.int .i64 0), (.int .i64 0)]) 40 rfl Try.underlying50 info55 rfl (by decide) (by omega) (.slice (some ad133) x5_1.length co44) x5_1 (⟨([] : List Int), (-1), (-1)⟩ : S55) [.slice none 0 0, .int .i64 (-1), .int .i64 (-1)] (fun _ => True) (fun _ => False) rfl rfl ?aP (fun k_ hk_ => hk_.elim) ?aF ?aO ?aB ?aS ?aL ?_; (case aP => exact k55_mkM _ _ _ (⟨([] : List Int), (-1), (-1)⟩ : S55) (Kd.R_nil _ _ _ _ _)); (case aB => exact (mvB HB)); (case aF => exact (fun _ _ => trivial)); (case aO => exact (by (with_reducible repeat (first | apply Kd.S_alloc | apply Kd.S_drewN | apply Kd.S_drew)); exact Kd.S_mono HO_5.out (fun k_ hk => ⟨trivial, fun e_ => e_⟩))); (case aS => exact (below_size (mvB HB))); (case aL => have := LMc38.out; omega); intro v143 w45 ho hb hg hat; rw [← Ny142.out] at ho; have n0_ := Aside0.mk (Kd.R_after (ok := (fun _ => True)) (mvR HL133_0) hg hat); have n1_ := Aside0.mk (hb); have n2_ := Aside0.mk (ho); clear HL133_0; clear HB; clear HO_5; have HL133_0 := n0_; have HB := n1_; have HO144 := n2_; clear n0_ n1_ n2_; clear ho hb hg hat; obtain ⟨Ao46, co46, eo46⟩ := Kd.S_slice HO144.out; subst eo46; have p145 := dT (0 ≤ ((ji39) : Int)); have q145 := dT ((ji39) < (y142.length : Int)); obtain ⟨ad145, A145_0, c145_0, e145, hx145_0, hx145_1, hx145_2, hl145_0, hi145_0⟩ := at_T55 (Kd.S_reads' HO144.out).2.2 (ji39) p145 q145; cases e145; obtain ⟨ce145, hce145, hMe145, hcc145⟩ := Kd.S_get HO144.out z55 (ji39) p145 (by first | exact q145 | exact of_decide_eq_true (by first | (with_reducible assumption) | assumption) | (have e_ := (Kd.S_reads' HO144.out).1; omega)); obtain ⟨ve145_0, rfl, ge145_0⟩ := k55_openM hMe145; have hv145_0 := hcc145 0 _ rfl; rw [Nat.add_zero] at hv145_0; replace hv145_0 := Option.some.inj (hv145_0.symm.trans hx145_0); rw [hv145_0] at ge145_0; have HL145_0 := Aside0.mk (show Kd.R (Kd.int .i64) 3 _ _ _ _ ((rd_T55 y142 (ji39)).f0) from ge145_0); clear hv145_0 ge145_0; have HX145_0 := Aside0.mk hx145_0; clear hcc145 hce145; have HR145_0 := Aside0.mk hi145_0; have HC145_0 := Aside0.mk hl145_0; clear hi145_0 hl145_0; replace p145 := eq_true p145; replace q145 := eq_true q145; obtain ⟨go47, co47, eo47, gb47, gl47, cl47, HG47⟩ := Kd.S_form HO144.out (by have h_ : ((ji39) : Int) < ((y142.length : Int) : Int) := of_decide_eq_true (by first | (with_reducible assumption) | assumption); have h2_ : 0 ≤ ((ji39) : Int) := (of_decide_eq_true (by first | (with_reducible assumption) | assumption)); omega); (first | cases eo47 | (injection eo47 with ea_ en_ ec_; (first | subst ea_ | (injection ea_ with ea_; subst ea_)); subst ec_; clear en_)); have GB47 := Aside0.mk gb47; have GG47 := Aside0.mk HG47; clear gb47 gl47 HG47; (first | simp only [add_plain] at hx145_0 | skip); (first | simp only [add_plain] at hx145_1 | skip); (first | simp only [add_plain] at hx145_2 | skip); obtain ⟨oki47, ce47, hcl47, hM47, hcc47, _, _, hH47⟩ := Kd.S_elem HO144.out z55 ((ji39) : Int) (of_decide_eq_true (by first | (with_reducible assumption) | assumption)) (by have h_ : ((ji39) : Int) < ((y142.length : Int) : Int) := of_decide_eq_true (by first | (with_reducible assumption) | assumption); first | exact h_ | (have e_ := (Kd.S_reads' HO144.out).1; omega) | simpa using h_); obtain ⟨ve47_0, rfl, ge47_0⟩ := k55_openM hM47; have hv47 := hcc47 0 _ rfl; have hX47 := HX145_0.out; (try simp only [add_plain] at hX47); (try simp only [Nat.add_zero] at hv47); replace hv47 := Option.some.inj (hv47.symm.trans hX47); subst hv47; clear hX47 hcc47 hcl47; have UU47 := Aside0.mk (show Kd.R (Kd.int .i64) 3 _ w.heap.size oki47 (.slice A145_0 ((rd_T55 y142 (ji39)).f0).length c145_0) ((rd_T55 y142 (ji39)).f0) from ge47_0); have HH47 := Aside0.mk hH47; have HN47 := Aside0.mk (Kd.S_reads' HO144.out).1; clear hH47 ge47_0) | ((with_reducible refine gate_builtin (b := .append) (xs := #[.tmp 62, .tmp 64]) rfl ?_); at_builtin; refine Kd.R_append (Kd.int .i64) (w0 := w) w.heap.size rfl (.tmp 62) (.tmp 64) 33 3 (.int .i64 0) 8 rfl Try.underlying33 info3 rfl (by decide) (by omega) (.slice A145_0 ((rd_T55 y142 (ji39)).f0).length c145_0) ((rd_T55 y142 (ji39)).f0) x6_1 [.int .i64 x6_1] (fun k_ => oki47 k_ ∨ ((fun _ => True)) k_ ∧ w45.heap.size ≤ k_) (fun _ => False) rfl rfl ?aP (fun _ hk => hk.elim) ?aF ?aO ?aB ?aS ?aL ?_; (case aP => exact rfl); (case aB => exact (mvB HB)); (case aF => exact (fun k_ hk => .inr ⟨trivial, hk⟩)); (case aO => exact (by (with_reducible repeat (first | apply Kd.R_alloc | apply Kd.R_drewN | apply Kd.R_drew)); exact Kd.R_mono UU47.out (fun _ hk => .inl hk))); (case aS => exact (below_size (mvB HB))); (case aL => have := LMc42.out; omega); intro v147 w48 ho hb hg hat; rw [← Ny146.out] at ho; have n0_ := Aside0.mk (hb); have n1_ := Aside0.mk (Kd.H_grown (Kd.H_widen (by repeat (first | exact HH47.out | refine Kd.H_alloc ?_ _ | refine Kd.H_drewN ?_ _ | refine Kd.H_drew ?_))) hg (fun k_ e_ => .inl (UU47.out.1 k_ e_))); have n2_ := Aside0.mk (ho); clear HB; clear HH47; clear HO144; clear UU47; clear HL133_0; clear HL145_0; have HB := n0_; have HH47 := n1_; have HO148 := n2_; clear n0_ n1_ n2_; clear ho hb hg hat; have p43 := dT (0 ≤ ((ji39) : Int)); have q43 : ((ji39) : Int) < ((y142.length : Int) : Int) := of_decide_eq_true (by first | (with_reducible assumption) | assumption); replace p43 := eq_true p43; replace q43 := eq_true q43; obtain ⟨Ao51, co51, eo51⟩ := Kd.R_slice HO148.out; subst eo51; obtain ⟨_, _, hraw49, _, _, hcc49, _⟩ := Kd.H_raw HH47.out (of_decide_eq_true (by first | (with_reducible assumption) | assumption)) (by have h_ : ((ji39) : Int) < ((y142.length : Int) : Int) := of_decide_eq_true (by first | (with_reducible assumption) | assumption); first | exact h_ | (have e_ := (HN47.out); omega) | simpa using h_); obtain ⟨_, hfr49⟩ := Kd.H_at HH47.out (of_decide_eq_true (by first | (with_reducible assumption) | assumption)) (by have h_ : ((ji39) : Int) < ((y142.length : Int) : Int) := of_decide_eq_true (by first | (with_reducible assumption) | assumption); first | exact h_ | (have e_ := (HN47.out); omega) | simpa using h_); have hx49_0 := hcc49 0 _ rfl; have hf49_0 := hfr49 0; (try simp only [Nat.add_zero] at hx49_0 hf49_0); (try rw [show (k55).sz = 3 from rfl] at hx49_0); (try rw [show (k55).sz = 3 from rfl] at hf49_0); have HP49 := Kd.S_seg0 HH47.out (of_decide_eq_true (by first | (with_reducible assumption) | assumption)) (by have h_ : ((ji39) : Int) < ((y142.length : Int) : Int) := of_decide_eq_true (by first | (with_reducible assumption) | assumption); first | exact h_ | (have e_ := (HN47.out); omega) | simpa using h_) (seg := [.slice Ao51 y146.length co51]) (j := 0) (show 1 ≤ 3 from by decide) (x' := (⟨y146, (rd_T55 y142 (ji39)).f1, (rd_T55 y142 (ji39)).f2⟩ : S55)) (k55_mkM _ _ _ (⟨y146, (rd_T55 y142 (ji39)).f1, (rd_T55 y142 (ji39)).f2⟩ : S55) HO148.out) (fun _ hk => hk); clear hcc49 hfr49) | ((with_reducible refine gate_store (t := 33) (p := 67) rfl ?_); (try (rw [drewN_self w48]; generalize hq_ : World.drewN w48 _ = w48; have n0_ := Aside0.mk (Kd.S_at hq_ HO144.out); have n1_ := Aside0.mk (below_at hq_ HB.out); clear hq_ HO144 HB; have HO144 := n0_; have HB := n1_; clear n0_ n1_; (try (obtain ⟨Ao51, co51, eo51⟩ := Kd.R_slice HO148.out)); (try (subst eo51)); (try (obtain ⟨_, _, hraw49, _, _, hcc49, _⟩ := Kd.H_raw HH47.out (of_decide_eq_true (by first | (with_reducible assumption) | assumption)) (by have h_ : ((ji39) : Int) < ((y142.length : Int) : Int) := of_decide_eq_true (by first | (with_reducible assumption) | assumption); first | exact h_ | (have e_ := (HN47.out); omega) | simpa using h_))); (try (obtain ⟨_, hfr49⟩ := Kd.H_at HH47.out (of_decide_eq_true (by first | (with_reducible assumption) | assumption)) (by have h_ : ((ji39) : Int) < ((y142.length : Int) : Int) := of_decide_eq_true (by first | (with_reducible assumption) | assumption); first | exact h_ | (have e_ := (HN47.out); omega) | simpa using h_))); (try (have hx49_0 := hcc49 0 _ rfl)); (try (have hf49_0 := hfr49 0)); (try (try simp only [Nat.add_zero] at hx49_0 hf49_0)); (try (try rw [show (k55).sz = 3 from rfl] at hx49_0)); (try (try rw [show (k55).sz = 3 from rfl] at hf49_0)); (try (have HP49 := Kd.S_seg0 HH47.out (of_decide_eq_true (by first | (with_reducible assumption) | assumption)) (by have h_ : ((ji39) : Int) < ((y142.length : Int) : Int) := of_decide_eq_true (by first | (with_reducible assumption) | assumption); first | exact h_ | (have e_ := (HN47.out); omega) | simpa using h_) (seg := [.slice Ao51 y146.length co51]) (j := 0) (show 1 ≤ 3 from by decide) (x' := (⟨y146, (rd_T55 y142 (ji39)).f1, (rd_T55 y142 (ji39)).f2⟩ : S55)) (k55_mkM _ _ _ (⟨y146, (rd_T55 y142 (ji39)).f1, (rd_T55 y142 (ji39)).f2⟩ : S55) HO148.out) (fun _ hk => hk))); (try (clear hcc49 hfr49)))); refine store_event (t := 33) (p := 67) (v := ?vo_w50) (w1 := (w48.setCell ⟨go47, ((ji39) : Int).toNat * 3, none⟩ (.slice Ao51 y146.length co51))) ?hg ?ho ?hn ?hr ?_; (case ho => rfl); (case hg => rfl); (case hn => rfl); (case hr => first | (go_simp; done) | (go_simp; rfl)); intro w50 hw; have hg : w48.grownBy w50 (some go47) := (by rw [hw]; exact HP49.2); have hp_ : Kd.S k55 55 w50 w.heap.size (fun _ => True) (.slice (some ⟨go47, 0, none⟩) y142.length co46) y149 := (by rw [hw, Ny149.out]; exact HP49.1); clear HP49; have n0_ := Aside0.mk ((by rw [hw]; exact below_set HB.out GB47.out : Below w.heap.size w w50)); have n1_ := Aside0.mk (hp_); clear HB; clear HO148; clear HH47; have HB := n0_; have HO144 := n1_; clear n0_ n1_; clear hg hw hp_ hraw49))
                  repeat (go_quiet (first | (go_at_call 14; (with_reducible refine (selvedgeref14_Removed.calls (rd l0 x6_1) false _ A5.out).mono ?_); rintro e w' ⟨rfl, ⟨nd, rfl⟩⟩; (try first | exact ⟨rfl, _, World.drewN_drewN _ _ _⟩ | exact ⟨rfl, _, Eq.trans (World.drewN_drewN _ _ _) (congrArg (World.drewN _) (Nat.add_assoc _ _ _))⟩); obtain ⟨Ao44, co44, eo44⟩ := Kd.S_slice HO_5.out; subst eo44; have p133 := dT (0 ≤ ((ji22) : Int)); have q133 := dT ((ji22) < (x5_1.length : Int)); obtain ⟨ad133, A133_0, c133_0, e133, hx133_0, hx133_1, hx133_2, hl133_0, hi133_0⟩ := at_T55 (Kd.S_reads' HO_5.out).2.2 (ji22) p133 q133; cases e133; obtain ⟨ce133, hce133, hMe133, hcc133⟩ := Kd.S_get HO_5.out z55 (ji22) p133 (by first | exact q133 | exact of_decide_eq_true (by first | (with_reducible assumption) | assumption) | (have e_ := (Kd.S_reads' HO_5.out).1; omega)); obtain ⟨ve133_0, rfl, ge133_0⟩ := k55_openM hMe133; have hv133_0 := hcc133 0 _ rfl; rw [Nat.add_zero] at hv133_0; replace hv133_0 := Option.some.inj (hv133_0.symm.trans hx133_0); rw [hv133_0] at ge133_0; have HL133_0 := Aside0.mk (show Kd.R (Kd.int .i64) 3 _ _ _ _ ((rd_T55 x5_1 (ji22)).f0) from ge133_0); clear hv133_0 ge133_0; have HX133_0 := Aside0.mk hx133_0; clear hcc133 hce133; have HR133_0 := Aside0.mk hi133_0; have HC133_0 := Aside0.mk hl133_0; clear hi133_0 hl133_0; replace p133 := eq_true p133; replace q133 := eq_true q133; have p134 : 0 ≤ (0 : Int) := (by omega); have q134 := dT (0 < (((rd_T55 x5_1 (ji22)).f0).length : Int)); obtain ⟨ad134, e134, hx134_0⟩ := Kd.at_int (by repeat (first | (with_reducible exact HR133_0.out) | (with_reducible refine Kd.C_alloc ?_ _) | (with_reducible refine Kd.C_drewN ?_ _) | (with_reducible refine Kd.C_drew ?_) | exact HR133_0.out)) 0 p134 q134; cases e134; have qi134 : (0 < ((rd_T55 x5_1 (ji22)).f0).length) = True := eq_true (by omega); (try rw [show ((0 : Int)).toNat = 0 from rfl] at hx134_0); (try rw [Addr.add_zero'] at hx134_0); replace p134 := eq_true p134; replace q134 := eq_true q134; obtain ⟨ad135, e135, hx135_0, p135, q135⟩ := atI HR1.out (rd ((rd_T55 x5_1 (ji22)).f0) 0); cases e135; replace hx135_0 := (HB.out.cell (World.block_lt_of_cell? w _ hx135_0)).trans hx135_0; obtain ⟨ad136, e136, hx136_0, p136, q136⟩ := atI HR1.out x6_1; obtain rfl : ad135 = ad136 := (by injection e136); replace hx136_0 := (HB.out.cell (World.block_lt_of_cell? w _ hx136_0)).trans hx136_0)); try go_wp2_with (first | (go_at_call 14; (with_reducible refine (selvedgeref14_Removed.calls (rd l0 x6_1) false _ A5.out).mono ?_); rintro e w' ⟨rfl, ⟨nd, rfl⟩⟩; (try first | exact ⟨rfl, _, World.drewN_drewN _ _ _⟩ | exact ⟨rfl, _, Eq.trans (World.drewN_drewN _ _ _) (congrArg (World.drewN _) (Nat.add_assoc _ _ _))⟩); obtain ⟨Ao44, co44, eo44⟩ := Kd.S_slice HO_5.out; subst eo44; have p133 := dT (0 ≤ ((ji22) : Int)); have q133 := dT ((ji22) < (x5_1.length : Int)); obtain ⟨ad133, A133_0, c133_0, e133, hx133_0, hx133_1, hx133_2, hl133_0, hi133_0⟩ := at_T55 (Kd.S_reads' HO_5.out).2.2 (ji22) p133 q133; cases e133; obtain ⟨ce133, hce133, hMe133, hcc133⟩ := Kd.S_get HO_5.out z55 (ji22) p133 (by first | exact q133 | exact of_decide_eq_true (by first | (with_reducible assumption) | assumption) | (have e_ := (Kd.S_reads' HO_5.out).1; omega)); obtain ⟨ve133_0, rfl, ge133_0⟩ := k55_openM hMe133; have hv133_0 := hcc133 0 _ rfl; rw [Nat.add_zero] at hv133_0; replace hv133_0 := Option.some.inj (hv133_0.symm.trans hx133_0); rw [hv133_0] at ge133_0; have HL133_0 := Aside0.mk (show Kd.R (Kd.int .i64) 3 _ _ _ _ ((rd_T55 x5_1 (ji22)).f0) from ge133_0); clear hv133_0 ge133_0; have HX133_0 := Aside0.mk hx133_0; clear hcc133 hce133; have HR133_0 := Aside0.mk hi133_0; have HC133_0 := Aside0.mk hl133_0; clear hi133_0 hl133_0; replace p133 := eq_true p133; replace q133 := eq_true q133; have p134 : 0 ≤ (0 : Int) := (by omega); have q134 := dT (0 < (((rd_T55 x5_1 (ji22)).f0).length : Int)); obtain ⟨ad134, e134, hx134_0⟩ := Kd.at_int (by repeat (first | (with_reducible exact HR133_0.out) | (with_reducible refine Kd.C_alloc ?_ _) | (with_reducible refine Kd.C_drewN ?_ _) | (with_reducible refine Kd.C_drew ?_) | exact HR133_0.out)) 0 p134 q134; cases e134; have qi134 : (0 < ((rd_T55 x5_1 (ji22)).f0).length) = True := eq_true (by omega); (try rw [show ((0 : Int)).toNat = 0 from rfl] at hx134_0); (try rw [Addr.add_zero'] at hx134_0); replace p134 := eq_true p134; replace q134 := eq_true q134; obtain ⟨ad135, e135, hx135_0, p135, q135⟩ := atI HR1.out (rd ((rd_T55 x5_1 (ji22)).f0) 0); cases e135; replace hx135_0 := (HB.out.cell (World.block_lt_of_cell? w _ hx135_0)).trans hx135_0; obtain ⟨ad136, e136, hx136_0, p136, q136⟩ := atI HR1.out x6_1; obtain rfl : ad135 = ad136 := (by injection e136); replace hx136_0 := (HB.out.cell (World.block_lt_of_cell? w _ hx136_0)).trans hx136_0) | ((with_reducible refine gate_builtin (b := .append) (xs := #[.tmp 48, .tmp 50]) rfl ?_); at_builtin; refine Kd.S_append k55 (w0 := w) w.heap.size rfl (.tmp 48) (.tmp 50) 50 55 (.agg #[(.slice none 0 0), (.int .i64 0), (.int .i64 0)]) 40 rfl Try.underlying50 info55 rfl (by decide) (by omega) (.slice (some ad133) x5_1.length co44) x5_1 (⟨([] : List Int), (-1), (-1)⟩ : S55) [.slice none 0 0, .int .i64 (-1), .int .i64 (-1)] (fun _ => True) (fun _ => False) rfl rfl ?aP (fun k_ hk_ => hk_.elim) ?aF ?aO ?aB ?aS ?aL ?_; (case aP => exact k55_mkM _ _ _ (⟨([] : List Int), (-1), (-1)⟩ : S55) (Kd.R_nil _ _ _ _ _)); (case aB => exact (mvB HB)); (case aF => exact (fun _ _ => trivial)); (case aO => exact (by (with_reducible repeat (first | apply Kd.S_alloc | apply Kd.S_drewN | apply Kd.S_drew)); exact Kd.S_mono HO_5.out (fun k_ hk => ⟨trivial, fun e_ => e_⟩))); (case aS => exact (below_size (mvB HB))); (case aL => have := LMc38.out; omega); intro v143 w45 ho hb hg hat; rw [← Ny142.out] at ho; have n0_ := Aside0.mk (Kd.R_after (ok := (fun _ => True)) (mvR HL133_0) hg hat); have n1_ := Aside0.mk (hb); have n2_ := Aside0.mk (ho); clear HL133_0; clear HB; clear HO_5; have HL133_0 := n0_; have HB := n1_; have HO144 := n2_; clear n0_ n1_ n2_; clear ho hb hg hat; obtain ⟨Ao46, co46, eo46⟩ := Kd.S_slice HO144.out; subst eo46; have p145 := dT (0 ≤ ((ji39) : Int)); have q145 := dT ((ji39) < (y142.length : Int)); obtain ⟨ad145, A145_0, c145_0, e145, hx145_0, hx145_1, hx145_2, hl145_0, hi145_0⟩ := at_T55 (Kd.S_reads' HO144.out).2.2 (ji39) p145 q145; cases e145; obtain ⟨ce145, hce145, hMe145, hcc145⟩ := Kd.S_get HO144.out z55 (ji39) p145 (by first | exact q145 | exact of_decide_eq_true (by first | (with_reducible assumption) | assumption) | (have e_ := (Kd.S_reads' HO144.out).1; omega)); obtain ⟨ve145_0, rfl, ge145_0⟩ := k55_openM hMe145; have hv145_0 := hcc145 0 _ rfl; rw [Nat.add_zero] at hv145_0; replace hv145_0 := Option.some.inj (hv145_0.symm.trans hx145_0); rw [hv145_0] at ge145_0; have HL145_0 := Aside0.mk (show Kd.R (Kd.int .i64) 3 _ _ _ _ ((rd_T55 y142 (ji39)).f0) from ge145_0); clear hv145_0 ge145_0; have HX145_0 := Aside0.mk hx145_0; clear hcc145 hce145; have HR145_0 := Aside0.mk hi145_0; have HC145_0 := Aside0.mk hl145_0; clear hi145_0 hl145_0; replace p145 := eq_true p145; replace q145 := eq_true q145; obtain ⟨go47, co47, eo47, gb47, gl47, cl47, HG47⟩ := Kd.S_form HO144.out (by have h_ : ((ji39) : Int) < ((y142.length : Int) : Int) := of_decide_eq_true (by first | (with_reducible assumption) | assumption); have h2_ : 0 ≤ ((ji39) : Int) := (of_decide_eq_true (by first | (with_reducible assumption) | assumption)); omega); (first | cases eo47 | (injection eo47 with ea_ en_ ec_; (first | subst ea_ | (injection ea_ with ea_; subst ea_)); subst ec_; clear en_)); have GB47 := Aside0.mk gb47; have GG47 := Aside0.mk HG47; clear gb47 gl47 HG47; (first | simp only [add_plain] at hx145_0 | skip); (first | simp only [add_plain] at hx145_1 | skip); (first | simp only [add_plain] at hx145_2 | skip); obtain ⟨oki47, ce47, hcl47, hM47, hcc47, _, _, hH47⟩ := Kd.S_elem HO144.out z55 ((ji39) : Int) (of_decide_eq_true (by first | (with_reducible assumption) | assumption)) (by have h_ : ((ji39) : Int) < ((y142.length : Int) : Int) := of_decide_eq_true (by first | (with_reducible assumption) | assumption); first | exact h_ | (have e_ := (Kd.S_reads' HO144.out).1; omega) | simpa using h_); obtain ⟨ve47_0, rfl, ge47_0⟩ := k55_openM hM47; have hv47 := hcc47 0 _ rfl; have hX47 := HX145_0.out; (try simp only [add_plain] at hX47); (try simp only [Nat.add_zero] at hv47); replace hv47 := Option.some.inj (hv47.symm.trans hX47); subst hv47; clear hX47 hcc47 hcl47; have UU47 := Aside0.mk (show Kd.R (Kd.int .i64) 3 _ w.heap.size oki47 (.slice A145_0 ((rd_T55 y142 (ji39)).f0).length c145_0) ((rd_T55 y142 (ji39)).f0) from ge47_0); have HH47 := Aside0.mk hH47; have HN47 := Aside0.mk (Kd.S_reads' HO144.out).1; clear hH47 ge47_0) | ((with_reducible refine gate_builtin (b := .append) (xs := #[.tmp 62, .tmp 64]) rfl ?_); at_builtin; refine Kd.R_append (Kd.int .i64) (w0 := w) w.heap.size rfl (.tmp 62) (.tmp 64) 33 3 (.int .i64 0) 8 rfl Try.underlying33 info3 rfl (by decide) (by omega) (.slice A145_0 ((rd_T55 y142 (ji39)).f0).length c145_0) ((rd_T55 y142 (ji39)).f0) x6_1 [.int .i64 x6_1] (fun k_ => oki47 k_ ∨ ((fun _ => True)) k_ ∧ w45.heap.size ≤ k_) (fun _ => False) rfl rfl ?aP (fun _ hk => hk.elim) ?aF ?aO ?aB ?aS ?aL ?_; (case aP => exact rfl); (case aB => exact (mvB HB)); (case aF => exact (fun k_ hk => .inr ⟨trivial, hk⟩)); (case aO => exact (by (with_reducible repeat (first | apply Kd.R_alloc | apply Kd.R_drewN | apply Kd.R_drew)); exact Kd.R_mono UU47.out (fun _ hk => .inl hk))); (case aS => exact (below_size (mvB HB))); (case aL => have := LMc42.out; omega); intro v147 w48 ho hb hg hat; rw [← Ny146.out] at ho; have n0_ := Aside0.mk (hb); have n1_ := Aside0.mk (Kd.H_grown (Kd.H_widen (by repeat (first | exact HH47.out | refine Kd.H_alloc ?_ _ | refine Kd.H_drewN ?_ _ | refine Kd.H_drew ?_))) hg (fun k_ e_ => .inl (UU47.out.1 k_ e_))); have n2_ := Aside0.mk (ho); clear HB; clear HH47; clear HO144; clear UU47; clear HL133_0; clear HL145_0; have HB := n0_; have HH47 := n1_; have HO148 := n2_; clear n0_ n1_ n2_; clear ho hb hg hat; have p43 := dT (0 ≤ ((ji39) : Int)); have q43 : ((ji39) : Int) < ((y142.length : Int) : Int) := of_decide_eq_true (by first | (with_reducible assumption) | assumption); replace p43 := eq_true p43; replace q43 := eq_true q43; obtain ⟨Ao51, co51, eo51⟩ := Kd.R_slice HO148.out; subst eo51; obtain ⟨_, _, hraw49, _, _, hcc49, _⟩ := Kd.H_raw HH47.out (of_decide_eq_true (by first | (with_reducible assumption) | assumption)) (by have h_ : ((ji39) : Int) < ((y142.length : Int) : Int) := of_decide_eq_true (by first | (with_reducible assumption) | assumption); first | exact h_ | (have e_ := (HN47.out); omega) | simpa using h_); obtain ⟨_, hfr49⟩ := Kd.H_at HH47.out (of_decide_eq_true (by first | (with_reducible assumption) | assumption)) (by have h_ : ((ji39) : Int) < ((y142.length : Int) : Int) := of_decide_eq_true (by first | (with_reducible assumption) | assumption); first | exact h_ | (have e_ := (HN47.out); omega) | simpa using h_); have hx49_0 := hcc49 0 _ rfl; have hf49_0 := hfr49 0; (try simp only [Nat.add_zero] at hx49_0 hf49_0); (try rw [show (k55).sz = 3 from rfl] at hx49_0); (try rw [show (k55).sz = 3 from rfl] at hf49_0); have HP49 := Kd.S_seg0 HH47.out (of_decide_eq_true (by first | (with_reducible assumption) | assumption)) (by have h_ : ((ji39) : Int) < ((y142.length : Int) : Int) := of_decide_eq_true (by first | (with_reducible assumption) | assumption); first | exact h_ | (have e_ := (HN47.out); omega) | simpa using h_) (seg := [.slice Ao51 y146.length co51]) (j := 0) (show 1 ≤ 3 from by decide) (x' := (⟨y146, (rd_T55 y142 (ji39)).f1, (rd_T55 y142 (ji39)).f2⟩ : S55)) (k55_mkM _ _ _ (⟨y146, (rd_T55 y142 (ji39)).f1, (rd_T55 y142 (ji39)).f2⟩ : S55) HO148.out) (fun _ hk => hk); clear hcc49 hfr49) | ((with_reducible refine gate_store (t := 33) (p := 67) rfl ?_); (try (rw [drewN_self w48]; generalize hq_ : World.drewN w48 _ = w48; have n0_ := Aside0.mk (Kd.S_at hq_ HO144.out); have n1_ := Aside0.mk (below_at hq_ HB.out); clear hq_ HO144 HB; have HO144 := n0_; have HB := n1_; clear n0_ n1_; (try (obtain ⟨Ao51, co51, eo51⟩ := Kd.R_slice HO148.out)); (try (subst eo51)); (try (obtain ⟨_, _, hraw49, _, _, hcc49, _⟩ := Kd.H_raw HH47.out (of_decide_eq_true (by first | (with_reducible assumption) | assumption)) (by have h_ : ((ji39) : Int) < ((y142.length : Int) : Int) := of_decide_eq_true (by first | (with_reducible assumption) | assumption); first | exact h_ | (have e_ := (HN47.out); omega) | simpa using h_))); (try (obtain ⟨_, hfr49⟩ := Kd.H_at HH47.out (of_decide_eq_true (by first | (with_reducible assumption) | assumption)) (by have h_ : ((ji39) : Int) < ((y142.length : Int) : Int) := of_decide_eq_true (by first | (with_reducible assumption) | assumption); first | exact h_ | (have e_ := (HN47.out); omega) | simpa using h_))); (try (have hx49_0 := hcc49 0 _ rfl)); (try (have hf49_0 := hfr49 0)); (try (try simp only [Nat.add_zero] at hx49_0 hf49_0)); (try (try rw [show (k55).sz = 3 from rfl] at hx49_0)); (try (try rw [show (k55).sz = 3 from rfl] at hf49_0)); (try (have HP49 := Kd.S_seg0 HH47.out (of_decide_eq_true (by first | (with_reducible assumption) | assumption)) (by have h_ : ((ji39) : Int) < ((y142.length : Int) : Int) := of_decide_eq_true (by first | (with_reducible assumption) | assumption); first | exact h_ | (have e_ := (HN47.out); omega) | simpa using h_) (seg := [.slice Ao51 y146.length co51]) (j := 0) (show 1 ≤ 3 from by decide) (x' := (⟨y146, (rd_T55 y142 (ji39)).f1, (rd_T55 y142 (ji39)).f2⟩ : S55)) (k55_mkM _ _ _ (⟨y146, (rd_T55 y142 (ji39)).f1, (rd_T55 y142 (ji39)).f2⟩ : S55) HO148.out) (fun _ hk => hk))); (try (clear hcc49 hfr49)))); refine store_event (t := 33) (p := 67) (v := ?vo_w50) (w1 := (w48.setCell ⟨go47, ((ji39) : Int).toNat * 3, none⟩ (.slice Ao51 y146.length co51))) ?hg ?ho ?hn ?hr ?_; (case ho => rfl); (case hg => rfl); (case hn => rfl); (case hr => first | (go_simp; done) | (go_simp; rfl)); intro w50 hw; have hg : w48.grownBy w50 (some go47) := (by rw [hw]; exact HP49.2); have hp_ : Kd.S k55 55 w50 w.heap.size (fun _ => True) (.slice (some ⟨go47, 0, none⟩) y142.length co46) y149 := (by rw [hw, Ny149.out]; exact HP49.1); clear HP49; have n0_ := Aside0.mk ((by rw [hw]; exact below_set HB.out GB47.out : Below w.heap.size w w50)); have n1_ := Aside0.mk (hp_); clear HB; clear HO148; clear HH47; have HB := n0_; have HO144 := n1_; clear n0_ n1_; clear hg hw hp_ hraw49)))
                  go_roundg k1
                  case measure => have := HK1.out; omega
                  case rel => exact ⟨(y149), (wrap64 (x6_1 + 1)), (by first | rfl | (simp; done) | (simp [*]; done)), H', ⟨by have := HK1.out; omega⟩, ⟨by (with_reducible repeat (first | apply Kd.S_alloc | apply Kd.S_drewN | apply Kd.S_drew)); exact HO144.out⟩, ⟨mvB HB⟩⟩
                 ·rw [if_neg c42] at H
                  exact absurd H (by simp)
                ·rw [if_neg c41] at H
                 exact absurd H (by simp)
               ·rw [if_neg c40] at H
                exact absurd H (by simp)
              ·rw [if_neg c38] at H
               exact absurd H (by simp)
            ·rw [if_neg c28] at H
             exact absurd H (by simp)
           ·rw [if_neg c27] at H
            exact absurd H (by simp)
          ·rw [if_neg c26] at H
           exact absurd H (by simp)
         ·rw [if_neg c25] at H
          exact absurd H (by simp)
        ·rw [if_neg c24] at H
         exact absurd H (by simp)
       ·rw [if_neg c23] at H
        exact absurd H (by simp)
    ·rw [if_neg c4] at H
     exact absurd H (by simp)
   ·rw [if_neg c3] at H
    have c3b0 : decide (x6_1 < (l0.length : Int)) = false := decide_eq_false c3
    clear c3
    replace H := Option.bind_eq_some_iff.mp H
    obtain ⟨t150, A520, H⟩ := H
    replace H : (if 0 ≤ (l0.length : Int) then (if ((l0.length : Int) : Int).toNat ≤ 35184372088832 then (selvedgeref15_runs.l1 k1 l0 x5_1 t150 (List.replicate ((l0.length : Int) : Int).toNat 0) 0) else (none)) else (none)) = some r := H
    have A52 := Aside0.mk A520
    clear A520
    by_cases c53 : 0 ≤ (l0.length : Int)
    ·rw [if_pos c53] at H
     have c53b0 := eq_true c53
     have c53b1 : decide (0 ≤ (l0.length : Int)) = true := decide_eq_true c53
     clear c53
     by_cases c54 : ((l0.length : Int) : Int).toNat ≤ 35184372088832
     ·rw [if_pos c54] at H
      have c54b0 := eq_true c54
      have c54b1 : decide (((l0.length : Int) : Int).toNat ≤ 35184372088832) = true := decide_eq_true c54
      clear c54
      obtain ⟨y153, hy153⟩ : ∃ y_ : List Int, y_ = (List.replicate ((l0.length : Int) : Int).toNat 0) := ⟨_, rfl⟩
      replace H : (selvedgeref15_runs.l1 k1 l0 x5_1 t150 y153 0) = some r := by first | (rw [hy153]; with_reducible exact H) | (have H2_ := (Option.bind_some _ _).symm.trans H; rw [hy153]; with_reducible exact H2_) | (have H2_ := (Option.bind_some _ _).symm.trans H; with_reducible exact H2_) | with_reducible exact H | (rw [hy153]; exact H) | exact H
      have Ny153 := Aside0.mk hy153
      clear hy153
      have H' := Aside0.mk H
      clear H
      go_wp2_with (first | (go_at_call 13; (with_reducible refine (selvedgeref14_Match.calls k1 _ _ l0 t150 _ ?side1 ?side2 A52.out).mono ?_); (case side1 => repeat (first | exact (Kd.C_below HR0.out HB.out) | (with_reducible refine Kd.C_alloc ?_ _) | (with_reducible refine Kd.C_drewN ?_ _) | (with_reducible refine Kd.C_drew ?_))); (case side2 => exact HC0.out); rintro e w55 ⟨v151, rfl, ho0, hb⟩; have n0_ := Aside0.mk (Kd.S_elder' (by (with_reducible repeat (first | apply Kd.S_alloc | apply Kd.S_drewN | apply Kd.S_drew)); exact HO_5.out) (Kd.R_base ho0) hb); have n1_ := Aside0.mk (Kd.R_lower ho0 (below_size (mvB HB))); have n2_ := Aside0.mk (below_step (mvB HB) hb); clear HO_5; clear HB; have HO_5 := n0_; have HO152 := n1_; have HB := n2_; clear n0_ n1_ n2_; (try clear hb); (try clear hb2); (try clear hk); (try clear hi); (try clear ho0)) | ((with_reducible refine gate_dst (N := 72) rfl ?_); refine Kd.R_make (Kd.int .i64) _ 3 rfl (N := 72) rfl 33 _ _ rfl (l0.length : Int) rfl rfl Try.underlying33 (.int .i64 0) 8 info3 rfl (by decide) (by omega) 0 (ok := fun _ => True) (okp := fun _ => True) rfl (fun _ hk => hk) trivial (of_decide_eq_true (by first | (with_reducible assumption) | assumption)) (Nat.le_trans (Nat.mul_le_mul_right _ (of_decide_eq_true (by first | (with_reducible assumption) | assumption) : (l0.length : Int).toNat ≤ 35184372088832)) (by omega)) (Below.refl _ _) (Nat.le_refl _) ?_; intro v154 w56 ho57 hb hg_ hnew_; clear hg_ hnew_; (first | rw [← Ny153.out] at ho57 | (simp only [Int.reduceToNat] at ho57; rw [← Ny153.out] at ho57)); have n0_ := Aside0.mk (Kd.S_elder' (by (with_reducible repeat (first | apply Kd.S_alloc | apply Kd.S_drewN | apply Kd.S_drew)); exact HO_5.out) (Kd.R_base ho57) hb); have n1_ := Aside0.mk (Kd.R_elder' (mvR HO152) (Kd.R_base ho57) hb); have n2_ := Aside0.mk (Kd.R_lower (Kd.R_new' ho57 (Kd.R_lt (mvR HO152))) (below_size (mvB HB))); have n3_ := Aside0.mk (below_step (mvB HB) hb); clear HO_5; clear HO152; clear HB; have HO_5 := n0_; have HO152 := n1_; have HO155 := n2_; have HB := n3_; clear n0_ n1_ n2_ n3_; clear hb ho57))
      repeat (go_quiet (first | ((with_reducible refine gate_dst (N := 72) rfl ?_); refine Kd.R_make (Kd.int .i64) _ 3 rfl (N := 72) rfl 33 _ _ rfl (l0.length : Int) rfl rfl Try.underlying33 (.int .i64 0) 8 info3 rfl (by decide) (by omega) 0 (ok := fun _ => True) (okp := fun _ => True) rfl (fun _ hk => hk) trivial (of_decide_eq_true (by first | (with_reducible assumption) | assumption)) (Nat.le_trans (Nat.mul_le_mul_right _ (of_decide_eq_true (by first | (with_reducible assumption) | assumption) : (l0.length : Int).toNat ≤ 35184372088832)) (by omega)) (Below.refl _ _) (Nat.le_refl _) ?_; intro v154 w56 ho57 hb hg_ hnew_; clear hg_ hnew_; (first | rw [← Ny153.out] at ho57 | (simp only [Int.reduceToNat] at ho57; rw [← Ny153.out] at ho57)); have n0_ := Aside0.mk (Kd.S_elder' (by (with_reducible repeat (first | apply Kd.S_alloc | apply Kd.S_drewN | apply Kd.S_drew)); exact HO_5.out) (Kd.R_base ho57) hb); have n1_ := Aside0.mk (Kd.R_elder' (mvR HO152) (Kd.R_base ho57) hb); have n2_ := Aside0.mk (Kd.R_lower (Kd.R_new' ho57 (Kd.R_lt (mvR HO152))) (below_size (mvB HB))); have n3_ := Aside0.mk (below_step (mvB HB) hb); clear HO_5; clear HO152; clear HB; have HO_5 := n0_; have HO152 := n1_; have HO155 := n2_; have HB := n3_; clear n0_ n1_ n2_ n3_; clear hb ho57)); try go_wp2_with (first | (go_at_call 13; (with_reducible refine (selvedgeref14_Match.calls k1 _ _ l0 t150 _ ?side1 ?side2 A52.out).mono ?_); (case side1 => repeat (first | exact (Kd.C_below HR0.out HB.out) | (with_reducible refine Kd.C_alloc ?_ _) | (with_reducible refine Kd.C_drewN ?_ _) | (with_reducible refine Kd.C_drew ?_))); (case side2 => exact HC0.out); rintro e w55 ⟨v151, rfl, ho0, hb⟩; have n0_ := Aside0.mk (Kd.S_elder' (by (with_reducible repeat (first | apply Kd.S_alloc | apply Kd.S_drewN | apply Kd.S_drew)); exact HO_5.out) (Kd.R_base ho0) hb); have n1_ := Aside0.mk (Kd.R_lower ho0 (below_size (mvB HB))); have n2_ := Aside0.mk (below_step (mvB HB) hb); clear HO_5; clear HB; have HO_5 := n0_; have HO152 := n1_; have HB := n2_; clear n0_ n1_ n2_; (try clear hb); (try clear hb2); (try clear hk); (try clear hi); (try clear ho0)) | ((with_reducible refine gate_dst (N := 72) rfl ?_); refine Kd.R_make (Kd.int .i64) _ 3 rfl (N := 72) rfl 33 _ _ rfl (l0.length : Int) rfl rfl Try.underlying33 (.int .i64 0) 8 info3 rfl (by decide) (by omega) 0 (ok := fun _ => True) (okp := fun _ => True) rfl (fun _ hk => hk) trivial (of_decide_eq_true (by first | (with_reducible assumption) | assumption)) (Nat.le_trans (Nat.mul_le_mul_right _ (of_decide_eq_true (by first | (with_reducible assumption) | assumption) : (l0.length : Int).toNat ≤ 35184372088832)) (by omega)) (Below.refl _ _) (Nat.le_refl _) ?_; intro v154 w56 ho57 hb hg_ hnew_; clear hg_ hnew_; (first | rw [← Ny153.out] at ho57 | (simp only [Int.reduceToNat] at ho57; rw [← Ny153.out] at ho57)); have n0_ := Aside0.mk (Kd.S_elder' (by (with_reducible repeat (first | apply Kd.S_alloc | apply Kd.S_drewN | apply Kd.S_drew)); exact HO_5.out) (Kd.R_base ho57) hb); have n1_ := Aside0.mk (Kd.R_elder' (mvR HO152) (Kd.R_base ho57) hb); have n2_ := Aside0.mk (Kd.R_lower (Kd.R_new' ho57 (Kd.R_lt (mvR HO152))) (below_size (mvB HB))); have n3_ := Aside0.mk (below_step (mvB HB) hb); clear HO_5; clear HO152; clear HB; have HO_5 := n0_; have HO152 := n1_; have HO155 := n2_; have HB := n3_; clear n0_ n1_ n2_ n3_; clear hb ho57)))
      go_loopg [10] k1 (fun kq v10 w' => ∃ (x9_2 : List Int) (x10_2 : Int), v10 = .int .i64 x10_2 ∧ Aside0 (selvedgeref15_runs.l1 kq l0 x5_1 t150 x9_2 x10_2 = some r) ∧ Aside0 (kq ≤ k1) ∧ Aside0 (Kd.S k55 55 w' w.heap.size (fun k_ => some k_ ≠ (v151 : Value).ownBlock ∧ some k_ ≠ (v154 : Value).ownBlock) u5 x5_1) ∧ Aside0 (Kd.R (Kd.int .i64) 3 w' w.heap.size (fun k_ => some k_ ≠ (v154 : Value).ownBlock) v151 t150) ∧ Aside0 (Kd.R (Kd.int .i64) 3 w' w.heap.size (fun k_ => some k_ ≠ (v151 : Value).ownBlock) v154 x9_2) ∧ Aside0 (Below w.heap.size w w'))
      case atStart => exact ⟨(y153), (0), (by first | rfl | (simp; done) | (simp [*]; done)), H', ⟨Nat.le_refl _⟩, ⟨by (with_reducible repeat (first | apply Kd.S_alloc | apply Kd.S_drewN | apply Kd.S_drew)); exact Kd.S_mono HO_5.out (fun _ hk => ⟨hk.1.2, hk.2⟩)⟩, ⟨by (with_reducible repeat (first | apply Kd.R_alloc | apply Kd.R_drewN | apply Kd.R_drew)); exact Kd.R_mono HO152.out (fun _ hk => hk.2)⟩, ⟨by (with_reducible repeat (first | apply Kd.R_alloc | apply Kd.R_drewN | apply Kd.R_drew)); exact Kd.R_mono HO155.out (fun _ hk => hk.2)⟩, ⟨mvB HB⟩⟩
      case round =>
       clear H'
       try clear c1
       try clear p1
       try clear q1
       try clear hx1
       try clear qi1
       try clear c2
       try clear p2
       try clear c3
       try clear c3b0
       try clear p3
       try clear q3
       try clear hx3
       try clear hf3
       try clear c4
       try clear c4b0
       try clear p4
       try clear q4
       try clear hx4
       try clear hf4
       try clear c5
       try clear c6
       try clear p6
       try clear c7
       try clear c7b0
       try clear c7b1
       try clear c7b2
       try clear c8
       try clear c10
       try clear c10b0
       try clear c11
       try clear c11b0
       try clear c12
       try clear p12
       try clear q12
       try clear hx12
       try clear c13
       try clear p13
       try clear q13
       try clear hx13
       try clear qi13
       try clear c14
       try clear p14
       try clear q14
       try clear hx14
       try clear c16
       try clear c17
       try clear c19
       try clear hx19
       try clear hf19
       try clear c23
       try clear c23b0
       try clear c24
       try clear c24b0
       try clear c25
       try clear c25b0
       try clear c25b1
       try clear c26
       try clear c26b0
       try clear c27
       try clear c27b0
       try clear c28
       try clear c28b0
       try clear c29
       try clear c29b0
       try clear c29b1
       try clear c30
       try clear p31
       try clear q31
       try clear c33
       try clear c35
       try clear hx35
       try clear hf35
       try clear c38
       try clear c40
       try clear c40b0
       try clear c41
       try clear c41b0
       try clear c42
       try clear p43
       try clear q43
       try clear c47
       try clear c49
       try clear hx49
       try clear hf49
       try clear c53
       try clear c53b0
       try clear c53b1
       try clear c54
       try clear c54b0
       try clear c54b1
       try clear hx123_0
       try clear hx128_0
       try clear hx128_1
       try clear hx128_2
       try clear hx133_0
       try clear hx133_1
       try clear hx133_2
       try clear hx134_0
       try clear hx135_0
       try clear hx136_0
       try clear hx137_0
       try clear hx137_1
       try clear hx137_2
       try clear hx145_0
       try clear hx145_1
       try clear hx145_2
       try clear hx19_0
       try clear hx35_0
       try clear hx49_0
       try clear p123
       try clear p128
       try clear p13
       try clear p133
       try clear p134
       try clear p135
       try clear p136
       try clear p137
       try clear p145
       try clear p2
       try clear p31
       try clear p43
       try clear q123
       try clear q128
       try clear q13
       try clear q133
       try clear q134
       try clear q135
       try clear q136
       try clear q137
       try clear q145
       try clear q31
       try clear q43
       obtain ⟨x9_2, x10_2, rfl, HA, HK2, HO_5, HO_8, HO_9, HB⟩ := hrel
       cases gk with
       | zero => exact absurd HA.out (by simp [selvedgeref15_runs.l1])
       | succ k2 =>
        have H := HA.out
        clear HA
        simp only [selvedgeref15_runs.l1] at H
        by_cases c58 : x10_2 < (l0.length : Int)
        ·rw [if_pos c58] at H
         have c58b0 : decide (x10_2 < (l0.length : Int)) = true := decide_eq_true c58
         clear c58
         by_cases c59 : 0 ≤ x10_2
         ·rw [if_pos c59] at H
          have c59b0 : decide (0 ≤ x10_2) = true := decide_eq_true c59
          clear c59
          by_cases c60 : x10_2 < (x9_2.length : Int)
          ·rw [if_pos c60] at H
           have c60b0 : decide (x10_2 < (x9_2.length : Int)) = true := decide_eq_true c60
           clear c60
           obtain ⟨y156, hy156⟩ : ∃ y_ : List Int, y_ = (x9_2.set (x10_2 : Int).toNat (-1)) := ⟨_, rfl⟩
           replace H : (selvedgeref15_runs.l1 k2 l0 x5_1 t150 y156 (wrap64 (x10_2 + 1))) = some r := by first | (rw [hy156]; with_reducible exact H) | (have H2_ := (Option.bind_some _ _).symm.trans H; rw [hy156]; with_reducible exact H2_) | (have H2_ := (Option.bind_some _ _).symm.trans H; with_reducible exact H2_) | with_reducible exact H | (rw [hy156]; exact H) | exact H
           have Ny156 := Aside0.mk hy156
           clear hy156
           have H' := Aside0.mk H
           clear H
           have p61 := dT (0 ≤ (x10_2 : Int))
           have q61 : (x10_2 : Int) < ((x9_2.length : Int) : Int) := of_decide_eq_true (by first | (with_reducible assumption) | assumption)
           obtain ⟨go61, co61, eo61, gb61, gl61, cl61, HG61⟩ := Kd.R_form HO_9.out (by omega)
           (first | cases eo61 | (injection eo61 with ea_ en_ ec_; (first | subst ea_ | (injection ea_ with ea_; subst ea_)); subst ec_; clear en_))
           have GB61 := Aside0.mk gb61
           have GG61 := Aside0.mk HG61
           clear gb61 gl61 HG61
           obtain ⟨hx61_0, hf61_0⟩ := Kd.R_celln 0 HO_9.out (x10_2 : Int) p61 q61
           replace p61 := eq_true p61
           replace q61 := eq_true q61
           have HP62 := Kd.R_putg HO_9.out (x10_2 : Int) (-1)
           go_wp2_with (first | ((with_reducible refine gate_store (t := 3) (p := 81) rfl ?_); (try (rw [drewN_self wr]; generalize hq_ : World.drewN wr _ = wr; have n0_ := Aside0.mk (Kd.S_at hq_ HO_5.out); have n1_ := Aside0.mk (Kd.R_at hq_ HO_8.out); have n2_ := Aside0.mk (Kd.R_at hq_ HO_9.out); have n3_ := Aside0.mk (below_at hq_ HB.out); clear hq_ HO_5 HO_8 HO_9 HB; have HO_5 := n0_; have HO_8 := n1_; have HO_9 := n2_; have HB := n3_; clear n0_ n1_ n2_ n3_; (try (have HP62 := Kd.R_putg HO_9.out (x10_2 : Int) (-1))))); refine store_event (t := 3) (p := 81) (v := ?vo_w63) (w1 := (wr.setCell ⟨go61, (x10_2 : Int).toNat, none⟩ (.int .i64 (-1)))) ?hg ?ho ?hn ?hr ?_; (case ho => rfl); (case hg => rfl); (case hn => rfl); (case hr => first | (go_simp; done) | (go_simp; rfl)); intro w63 hw; have hg : wr.grownBy w63 (some go61) := (by rw [hw]; exact HP62.2); have hp_ : Kd.R (Kd.int .i64) 3 w63 w.heap.size (fun k_ => some k_ ≠ (v151 : Value).ownBlock) (.slice (some ⟨go61, 0, none⟩) x9_2.length co61) y156 := (by rw [hw, Ny156.out]; exact HP62.1); clear HP62; have n0_ := Aside0.mk (Kd.S_after (v := (.slice (some ⟨go61, 0, none⟩) x9_2.length co61)) (v1 := (.slice (some ⟨go61, 0, none⟩) x9_2.length co61)) (ok := (fun k_ => some k_ ≠ (v151 : Value).ownBlock)) (by (with_reducible repeat (first | apply Kd.S_alloc | apply Kd.S_drewN | apply Kd.S_drew)); exact HO_5.out) hg (.inl rfl)); have n1_ := Aside0.mk (Kd.R_after (v := (.slice (some ⟨go61, 0, none⟩) x9_2.length co61)) (v1 := (.slice (some ⟨go61, 0, none⟩) x9_2.length co61)) (ok := (fun _ => True)) (by (with_reducible repeat (first | apply Kd.R_alloc | apply Kd.R_drewN | apply Kd.R_drew)); exact Kd.R_mono HO_8.out (fun _ hk => ⟨trivial, hk⟩)) hg (.inl rfl)); have n2_ := Aside0.mk (hp_); have n3_ := Aside0.mk ((by rw [hw]; exact below_set (HB.out) GB61.out : Below w.heap.size w w63)); clear HO_5; clear HO_8; clear HO_9; clear HB; have HO_5 := n0_; have HO_8 := n1_; have HO_9 := n2_; have HB := n3_; clear n0_ n1_ n2_ n3_; clear hg hw hp_))
           repeat (go_quiet (fail); try go_wp2_with (first | ((with_reducible refine gate_store (t := 3) (p := 81) rfl ?_); (try (rw [drewN_self wr]; generalize hq_ : World.drewN wr _ = wr; have n0_ := Aside0.mk (Kd.S_at hq_ HO_5.out); have n1_ := Aside0.mk (Kd.R_at hq_ HO_8.out); have n2_ := Aside0.mk (Kd.R_at hq_ HO_9.out); have n3_ := Aside0.mk (below_at hq_ HB.out); clear hq_ HO_5 HO_8 HO_9 HB; have HO_5 := n0_; have HO_8 := n1_; have HO_9 := n2_; have HB := n3_; clear n0_ n1_ n2_ n3_; (try (have HP62 := Kd.R_putg HO_9.out (x10_2 : Int) (-1))))); refine store_event (t := 3) (p := 81) (v := ?vo_w63) (w1 := (wr.setCell ⟨go61, (x10_2 : Int).toNat, none⟩ (.int .i64 (-1)))) ?hg ?ho ?hn ?hr ?_; (case ho => rfl); (case hg => rfl); (case hn => rfl); (case hr => first | (go_simp; done) | (go_simp; rfl)); intro w63 hw; have hg : wr.grownBy w63 (some go61) := (by rw [hw]; exact HP62.2); have hp_ : Kd.R (Kd.int .i64) 3 w63 w.heap.size (fun k_ => some k_ ≠ (v151 : Value).ownBlock) (.slice (some ⟨go61, 0, none⟩) x9_2.length co61) y156 := (by rw [hw, Ny156.out]; exact HP62.1); clear HP62; have n0_ := Aside0.mk (Kd.S_after (v := (.slice (some ⟨go61, 0, none⟩) x9_2.length co61)) (v1 := (.slice (some ⟨go61, 0, none⟩) x9_2.length co61)) (ok := (fun k_ => some k_ ≠ (v151 : Value).ownBlock)) (by (with_reducible repeat (first | apply Kd.S_alloc | apply Kd.S_drewN | apply Kd.S_drew)); exact HO_5.out) hg (.inl rfl)); have n1_ := Aside0.mk (Kd.R_after (v := (.slice (some ⟨go61, 0, none⟩) x9_2.length co61)) (v1 := (.slice (some ⟨go61, 0, none⟩) x9_2.length co61)) (ok := (fun _ => True)) (by (with_reducible repeat (first | apply Kd.R_alloc | apply Kd.R_drewN | apply Kd.R_drew)); exact Kd.R_mono HO_8.out (fun _ hk => ⟨trivial, hk⟩)) hg (.inl rfl)); have n2_ := Aside0.mk (hp_); have n3_ := Aside0.mk ((by rw [hw]; exact below_set (HB.out) GB61.out : Below w.heap.size w w63)); clear HO_5; clear HO_8; clear HO_9; clear HB; have HO_5 := n0_; have HO_8 := n1_; have HO_9 := n2_; have HB := n3_; clear n0_ n1_ n2_ n3_; clear hg hw hp_)))
           go_roundg k2
           case measure => have := HK1.out; have := HK2.out; omega
           case rel => exact ⟨(y156), (wrap64 (x10_2 + 1)), (by first | rfl | (simp; done) | (simp [*]; done)), H', ⟨by have := HK1.out; have := HK2.out; omega⟩, ⟨by (with_reducible repeat (first | apply Kd.S_alloc | apply Kd.S_drewN | apply Kd.S_drew)); exact HO_5.out⟩, ⟨by (with_reducible repeat (first | apply Kd.R_alloc | apply Kd.R_drewN | apply Kd.R_drew)); exact Kd.R_mono HO_8.out (fun _ hk => hk.2)⟩, ⟨mvR HO_9⟩, ⟨mvB HB⟩⟩
          ·rw [if_neg c60] at H
           exact absurd H (by simp)
         ·rw [if_neg c59] at H
          exact absurd H (by simp)
        ·rw [if_neg c58] at H
         have c58b0 : decide (x10_2 < (l0.length : Int)) = false := decide_eq_false c58
         clear c58
         have H' := Aside0.mk H
         clear H
         go_wp2
         repeat (go_quiet (fail); try go_wp2)
         go_loopg [11] k2 (fun kq v11 w' => ∃ (x9_3 : List Int) (x11_3 : Int), v11 = .int .i64 x11_3 ∧ Aside0 (selvedgeref15_runs.l2 kq l0 x5_1 t150 x9_3 x11_3 = some r) ∧ Aside0 (kq ≤ k2) ∧ Aside0 (Kd.S k55 55 w' w.heap.size (fun k_ => some k_ ≠ (v151 : Value).ownBlock ∧ some k_ ≠ (v154 : Value).ownBlock) u5 x5_1) ∧ Aside0 (Kd.R (Kd.int .i64) 3 w' w.heap.size (fun k_ => some k_ ≠ (v154 : Value).ownBlock) v151 t150) ∧ Aside0 (Kd.R (Kd.int .i64) 3 w' w.heap.size (fun k_ => some k_ ≠ (v151 : Value).ownBlock) v154 x9_3) ∧ Aside0 (Below w.heap.size w w'))
         case atStart => exact ⟨(x9_2), (0), (by first | rfl | (simp; done) | (simp [*]; done)), H', ⟨Nat.le_refl _⟩, ⟨by (with_reducible repeat (first | apply Kd.S_alloc | apply Kd.S_drewN | apply Kd.S_drew)); exact HO_5.out⟩, ⟨mvR HO_8⟩, ⟨mvR HO_9⟩, ⟨mvB HB⟩⟩
         case round =>
          clear H'
          try clear c1
          try clear p1
          try clear q1
          try clear hx1
          try clear qi1
          try clear c2
          try clear p2
          try clear c3
          try clear c3b0
          try clear p3
          try clear q3
          try clear hx3
          try clear hf3
          try clear c4
          try clear c4b0
          try clear p4
          try clear q4
          try clear hx4
          try clear hf4
          try clear c5
          try clear c6
          try clear p6
          try clear q6
          try clear hx6
          try clear hf6
          try clear c7
          try clear c7b0
          try clear c7b1
          try clear c7b2
          try clear c8
          try clear c10
          try clear c10b0
          try clear c11
          try clear c11b0
          try clear c12
          try clear p12
          try clear q12
          try clear hx12
          try clear c13
          try clear p13
          try clear q13
          try clear hx13
          try clear qi13
          try clear c14
          try clear p14
          try clear q14
          try clear hx14
          try clear c16
          try clear c17
          try clear c19
          try clear hx19
          try clear hf19
          try clear c23
          try clear c23b0
          try clear c24
          try clear c24b0
          try clear c25
          try clear c25b0
          try clear c25b1
          try clear c26
          try clear c26b0
          try clear c27
          try clear c27b0
          try clear c28
          try clear c28b0
          try clear c29
          try clear c29b0
          try clear c29b1
          try clear c30
          try clear p31
          try clear q31
          try clear c33
          try clear c35
          try clear hx35
          try clear hf35
          try clear c38
          try clear c40
          try clear c40b0
          try clear c41
          try clear c41b0
          try clear c42
          try clear p43
          try clear q43
          try clear c47
          try clear c49
          try clear hx49
          try clear hf49
          try clear c53
          try clear c53b0
          try clear c53b1
          try clear c54
          try clear c54b0
          try clear c54b1
          try clear c58
          try clear c58b0
          try clear c59
          try clear c59b0
          try clear c60
          try clear c60b0
          try clear p61
          try clear q61
          try clear hx61
          try clear hf61
          try clear hx123_0
          try clear hx128_0
          try clear hx128_1
          try clear hx128_2
          try clear hx133_0
          try clear hx133_1
          try clear hx133_2
          try clear hx134_0
          try clear hx135_0
          try clear hx136_0
          try clear hx137_0
          try clear hx137_1
          try clear hx137_2
          try clear hx145_0
          try clear hx145_1
          try clear hx145_2
          try clear hx19_0
          try clear hx35_0
          try clear hx49_0
          try clear hx61_0
          try clear p1
          try clear p12
          try clear p123
          try clear p128
          try clear p13
          try clear p133
          try clear p134
          try clear p135
          try clear p136
          try clear p137
          try clear p14
          try clear p145
          try clear p2
          try clear p3
          try clear p31
          try clear p4
          try clear p43
          try clear p6
          try clear p61
          try clear q1
          try clear q12
          try clear q123
          try clear q128
          try clear q13
          try clear q133
          try clear q134
          try clear q135
          try clear q136
          try clear q137
          try clear q14
          try clear q145
          try clear q3
          try clear q31
          try clear q4
          try clear q43
          try clear q61
          obtain ⟨x9_3, x11_3, rfl, HA, HK3, HO_5, HO_8, HO_9, HB⟩ := hrel
          cases gk with
          | zero => exact absurd HA.out (by simp [selvedgeref15_runs.l2])
          | succ k3 =>
           have H := HA.out
           clear HA
           simp only [selvedgeref15_runs.l2] at H
           by_cases c64 : x11_3 < (x5_1.length : Int)
           ·rw [if_pos c64] at H
            have c64b0 : decide (x11_3 < (x5_1.length : Int)) = true := decide_eq_true c64
            clear c64
            by_cases c65 : 0 ≤ x11_3
            ·rw [if_pos c65] at H
             have c65b0 : decide (0 ≤ x11_3) = true := decide_eq_true c65
             clear c65
             by_cases c66 : 0 < (((rd_T55 x5_1 x11_3).f0).length : Int)
             ·rw [if_pos c66] at H
              have c66b0 : decide (0 < (((rd_T55 x5_1 x11_3).f0).length : Int)) = true := decide_eq_true c66
              have c66b1 : decide (0 < ((rd_T55 x5_1 x11_3).f0).length) = true := decide_eq_true (by omega)
              clear c66
              by_cases c67 : 0 ≤ (rd ((rd_T55 x5_1 x11_3).f0) 0)
              ·rw [if_pos c67] at H
               have c67b0 : decide (0 ≤ (rd ((rd_T55 x5_1 x11_3).f0) 0)) = true := decide_eq_true c67
               clear c67
               by_cases c68 : (rd ((rd_T55 x5_1 x11_3).f0) 0) < (x9_3.length : Int)
               ·rw [if_pos c68] at H
                have c68b0 : decide ((rd ((rd_T55 x5_1 x11_3).f0) 0) < (x9_3.length : Int)) = true := decide_eq_true c68
                clear c68
                obtain ⟨y159, hy159⟩ : ∃ y_ : List Int, y_ = (x9_3.set ((rd ((rd_T55 x5_1 x11_3).f0) 0) : Int).toNat x11_3) := ⟨_, rfl⟩
                replace H : (selvedgeref15_runs.l2 k3 l0 x5_1 t150 y159 (wrap64 (x11_3 + 1))) = some r := by first | (rw [hy159]; with_reducible exact H) | (have H2_ := (Option.bind_some _ _).symm.trans H; rw [hy159]; with_reducible exact H2_) | (have H2_ := (Option.bind_some _ _).symm.trans H; with_reducible exact H2_) | with_reducible exact H | (rw [hy159]; exact H) | exact H
                have Ny159 := Aside0.mk hy159
                clear hy159
                have H' := Aside0.mk H
                clear H
                obtain ⟨Ao70, co70, eo70⟩ := Kd.S_slice HO_5.out
                subst eo70
                have p157 := dT (0 ≤ (x11_3 : Int))
                have q157 := dT (x11_3 < (x5_1.length : Int))
                obtain ⟨ad157, A157_0, c157_0, e157, hx157_0, hx157_1, hx157_2, hl157_0, hi157_0⟩ := at_T55 (Kd.S_reads' HO_5.out).2.2 x11_3 p157 q157
                cases e157
                obtain ⟨ce157, hce157, hMe157, hcc157⟩ := Kd.S_get HO_5.out z55 x11_3 p157 (by first | exact q157 | exact of_decide_eq_true (by first | (with_reducible assumption) | assumption) | (have e_ := (Kd.S_reads' HO_5.out).1; omega))
                obtain ⟨ve157_0, rfl, ge157_0⟩ := k55_openM hMe157
                have hv157_0 := hcc157 0 _ rfl
                rw [Nat.add_zero] at hv157_0
                replace hv157_0 := Option.some.inj (hv157_0.symm.trans hx157_0)
                rw [hv157_0] at ge157_0
                have HL157_0 := Aside0.mk (show Kd.R (Kd.int .i64) 3 _ _ _ _ ((rd_T55 x5_1 x11_3).f0) from ge157_0)
                clear hv157_0 ge157_0
                have HX157_0 := Aside0.mk hx157_0
                clear hcc157 hce157
                have HR157_0 := Aside0.mk hi157_0
                have HC157_0 := Aside0.mk hl157_0
                clear hi157_0 hl157_0
                replace p157 := eq_true p157
                replace q157 := eq_true q157
                have p158 : 0 ≤ (0 : Int) := (by omega)
                have q158 := dT (0 < (((rd_T55 x5_1 x11_3).f0).length : Int))
                obtain ⟨ad158, e158, hx158_0⟩ := Kd.at_int (by repeat (first | (with_reducible exact HR157_0.out) | (with_reducible refine Kd.C_alloc ?_ _) | (with_reducible refine Kd.C_drewN ?_ _) | (with_reducible refine Kd.C_drew ?_) | exact HR157_0.out)) 0 p158 q158
                cases e158
                have qi158 : (0 < ((rd_T55 x5_1 x11_3).f0).length) = True := eq_true (by omega)
                (try rw [show ((0 : Int)).toNat = 0 from rfl] at hx158_0)
                (try rw [Addr.add_zero'] at hx158_0)
                replace p158 := eq_true p158
                replace q158 := eq_true q158
                have p69 := dT (0 ≤ ((rd ((rd_T55 x5_1 x11_3).f0) 0) : Int))
                have q69 : ((rd ((rd_T55 x5_1 x11_3).f0) 0) : Int) < ((x9_3.length : Int) : Int) := of_decide_eq_true (by first | (with_reducible assumption) | assumption)
                obtain ⟨go69, co69, eo69, gb69, gl69, cl69, HG69⟩ := Kd.R_form HO_9.out (by omega)
                (first | cases eo69 | (injection eo69 with ea_ en_ ec_; (first | subst ea_ | (injection ea_ with ea_; subst ea_)); subst ec_; clear en_))
                have GB69 := Aside0.mk gb69
                have GG69 := Aside0.mk HG69
                clear gb69 gl69 HG69
                obtain ⟨hx69_0, hf69_0⟩ := Kd.R_celln 0 HO_9.out ((rd ((rd_T55 x5_1 x11_3).f0) 0) : Int) p69 q69
                replace p69 := eq_true p69
                replace q69 := eq_true q69
                have HP71 := Kd.R_putg HO_9.out ((rd ((rd_T55 x5_1 x11_3).f0) 0) : Int) x11_3
                go_wp2_with (first | ((with_reducible refine gate_store (t := 3) (p := 97) rfl ?_); (try (rw [drewN_self wr]; generalize hq_ : World.drewN wr _ = wr; have n0_ := Aside0.mk (Kd.S_at hq_ HO_5.out); have n1_ := Aside0.mk (Kd.R_at hq_ HO_8.out); have n2_ := Aside0.mk (Kd.R_at hq_ HO_9.out); have n3_ := Aside0.mk (Kd.R_at hq_ HL157_0.out); have n4_ := Aside0.mk (below_at hq_ HB.out); clear hq_ HO_5 HO_8 HO_9 HL157_0 HB; have HO_5 := n0_; have HO_8 := n1_; have HO_9 := n2_; have HL157_0 := n3_; have HB := n4_; clear n0_ n1_ n2_ n3_ n4_; (try (have HP71 := Kd.R_putg HO_9.out ((rd ((rd_T55 x5_1 x11_3).f0) 0) : Int) x11_3)))); refine store_event (t := 3) (p := 97) (v := ?vo_w72) (w1 := (wr.setCell ⟨go69, ((rd ((rd_T55 x5_1 x11_3).f0) 0) : Int).toNat, none⟩ (.int .i64 x11_3))) ?hg ?ho ?hn ?hr ?_; (case ho => rfl); (case hg => rfl); (case hn => rfl); (case hr => first | (go_simp; done) | (go_simp; rfl)); intro w72 hw; have hg : wr.grownBy w72 (some go69) := (by rw [hw]; exact HP71.2); have hp_ : Kd.R (Kd.int .i64) 3 w72 w.heap.size (fun k_ => some k_ ≠ (v151 : Value).ownBlock) (.slice (some ⟨go69, 0, none⟩) x9_3.length co69) y159 := (by rw [hw, Ny159.out]; exact HP71.1); clear HP71; have n0_ := Aside0.mk (Kd.S_after (v := (.slice (some ⟨go69, 0, none⟩) x9_3.length co69)) (v1 := (.slice (some ⟨go69, 0, none⟩) x9_3.length co69)) (ok := (fun k_ => some k_ ≠ (v151 : Value).ownBlock)) (by (with_reducible repeat (first | apply Kd.S_alloc | apply Kd.S_drewN | apply Kd.S_drew)); exact HO_5.out) hg (.inl rfl)); have n1_ := Aside0.mk (Kd.R_after (v := (.slice (some ⟨go69, 0, none⟩) x9_3.length co69)) (v1 := (.slice (some ⟨go69, 0, none⟩) x9_3.length co69)) (ok := (fun _ => True)) (by (with_reducible repeat (first | apply Kd.R_alloc | apply Kd.R_drewN | apply Kd.R_drew)); exact Kd.R_mono HO_8.out (fun _ hk => ⟨trivial, hk⟩)) hg (.inl rfl)); have n2_ := Aside0.mk (hp_); have n3_ := Aside0.mk (Kd.R_after (v := (.slice (some ⟨go69, 0, none⟩) x9_3.length co69)) (v1 := (.slice (some ⟨go69, 0, none⟩) x9_3.length co69)) (ok := (fun k_ => some k_ ≠ (.slice (some ad157) x5_1.length co70 : Value).ownBlock ∧ some k_ ≠ (v151 : Value).ownBlock)) (by (with_reducible repeat (first | apply Kd.R_alloc | apply Kd.R_drewN | apply Kd.R_drew)); exact Kd.R_mono HL157_0.out (fun _ hk => ⟨⟨hk.2, hk.1.1⟩, hk.1.2⟩)) hg (.inl rfl)); have n4_ := Aside0.mk ((by rw [hw]; exact below_set (HB.out) GB69.out : Below w.heap.size w w72)); clear HO_5; clear HO_8; clear HO_9; clear HL157_0; clear HB; have HO_5 := n0_; have HO_8 := n1_; have HO_9 := n2_; have HL157_0 := n3_; have HB := n4_; clear n0_ n1_ n2_ n3_ n4_; clear hg hw hp_))
                repeat (go_quiet (fail); try go_wp2_with (first | ((with_reducible refine gate_store (t := 3) (p := 97) rfl ?_); (try (rw [drewN_self wr]; generalize hq_ : World.drewN wr _ = wr; have n0_ := Aside0.mk (Kd.S_at hq_ HO_5.out); have n1_ := Aside0.mk (Kd.R_at hq_ HO_8.out); have n2_ := Aside0.mk (Kd.R_at hq_ HO_9.out); have n3_ := Aside0.mk (Kd.R_at hq_ HL157_0.out); have n4_ := Aside0.mk (below_at hq_ HB.out); clear hq_ HO_5 HO_8 HO_9 HL157_0 HB; have HO_5 := n0_; have HO_8 := n1_; have HO_9 := n2_; have HL157_0 := n3_; have HB := n4_; clear n0_ n1_ n2_ n3_ n4_; (try (have HP71 := Kd.R_putg HO_9.out ((rd ((rd_T55 x5_1 x11_3).f0) 0) : Int) x11_3)))); refine store_event (t := 3) (p := 97) (v := ?vo_w72) (w1 := (wr.setCell ⟨go69, ((rd ((rd_T55 x5_1 x11_3).f0) 0) : Int).toNat, none⟩ (.int .i64 x11_3))) ?hg ?ho ?hn ?hr ?_; (case ho => rfl); (case hg => rfl); (case hn => rfl); (case hr => first | (go_simp; done) | (go_simp; rfl)); intro w72 hw; have hg : wr.grownBy w72 (some go69) := (by rw [hw]; exact HP71.2); have hp_ : Kd.R (Kd.int .i64) 3 w72 w.heap.size (fun k_ => some k_ ≠ (v151 : Value).ownBlock) (.slice (some ⟨go69, 0, none⟩) x9_3.length co69) y159 := (by rw [hw, Ny159.out]; exact HP71.1); clear HP71; have n0_ := Aside0.mk (Kd.S_after (v := (.slice (some ⟨go69, 0, none⟩) x9_3.length co69)) (v1 := (.slice (some ⟨go69, 0, none⟩) x9_3.length co69)) (ok := (fun k_ => some k_ ≠ (v151 : Value).ownBlock)) (by (with_reducible repeat (first | apply Kd.S_alloc | apply Kd.S_drewN | apply Kd.S_drew)); exact HO_5.out) hg (.inl rfl)); have n1_ := Aside0.mk (Kd.R_after (v := (.slice (some ⟨go69, 0, none⟩) x9_3.length co69)) (v1 := (.slice (some ⟨go69, 0, none⟩) x9_3.length co69)) (ok := (fun _ => True)) (by (with_reducible repeat (first | apply Kd.R_alloc | apply Kd.R_drewN | apply Kd.R_drew)); exact Kd.R_mono HO_8.out (fun _ hk => ⟨trivial, hk⟩)) hg (.inl rfl)); have n2_ := Aside0.mk (hp_); have n3_ := Aside0.mk (Kd.R_after (v := (.slice (some ⟨go69, 0, none⟩) x9_3.length co69)) (v1 := (.slice (some ⟨go69, 0, none⟩) x9_3.length co69)) (ok := (fun k_ => some k_ ≠ (.slice (some ad157) x5_1.length co70 : Value).ownBlock ∧ some k_ ≠ (v151 : Value).ownBlock)) (by (with_reducible repeat (first | apply Kd.R_alloc | apply Kd.R_drewN | apply Kd.R_drew)); exact Kd.R_mono HL157_0.out (fun _ hk => ⟨⟨hk.2, hk.1.1⟩, hk.1.2⟩)) hg (.inl rfl)); have n4_ := Aside0.mk ((by rw [hw]; exact below_set (HB.out) GB69.out : Below w.heap.size w w72)); clear HO_5; clear HO_8; clear HO_9; clear HL157_0; clear HB; have HO_5 := n0_; have HO_8 := n1_; have HO_9 := n2_; have HL157_0 := n3_; have HB := n4_; clear n0_ n1_ n2_ n3_ n4_; clear hg hw hp_)))
                go_roundg k3
                case measure => have := HK1.out; have := HK2.out; have := HK3.out; omega
                case rel => exact ⟨(y159), (wrap64 (x11_3 + 1)), (by first | rfl | (simp; done) | (simp [*]; done)), H', ⟨by have := HK1.out; have := HK2.out; have := HK3.out; omega⟩, ⟨by (with_reducible repeat (first | apply Kd.S_alloc | apply Kd.S_drewN | apply Kd.S_drew)); exact HO_5.out⟩, ⟨by (with_reducible repeat (first | apply Kd.R_alloc | apply Kd.R_drewN | apply Kd.R_drew)); exact Kd.R_mono HO_8.out (fun _ hk => hk.2)⟩, ⟨mvR HO_9⟩, ⟨mvB HB⟩⟩
               ·rw [if_neg c68] at H
                exact absurd H (by simp)
              ·rw [if_neg c67] at H
               exact absurd H (by simp)
             ·rw [if_neg c66] at H
              exact absurd H (by simp)
            ·rw [if_neg c65] at H
             exact absurd H (by simp)
           ·rw [if_neg c64] at H
            have c64b0 : decide (x11_3 < (x5_1.length : Int)) = false := decide_eq_false c64
            clear c64
            have H' := Aside0.mk H
            clear H
            obtain ⟨Ao73, co73, eo73⟩ := Kd.S_slice HO_5.out
            subst eo73
            go_wp2
            repeat (go_quiet (fail); try go_wp2)
            go_loopg [12] k3 (fun kq v12 w' => ∃ (x5_4 : List (S55)) (x12_4 : Int), v12 = .int .i64 x12_4 ∧ Aside0 (selvedgeref15_runs.l3 kq l0 x5_4 t150 x9_3 x12_4 = some r) ∧ Aside0 (kq ≤ k3) ∧ Aside0 (Kd.S k55 55 w' w.heap.size (fun k_ => some k_ ≠ (v151 : Value).ownBlock ∧ some k_ ≠ (v154 : Value).ownBlock) (.slice Ao73 x5_1.length co73) x5_4) ∧ Aside0 (Kd.R (Kd.int .i64) 3 w' w.heap.size (fun k_ => some k_ ≠ (v154 : Value).ownBlock) v151 t150) ∧ Aside0 (Kd.R (Kd.int .i64) 3 w' w.heap.size (fun k_ => some k_ ≠ (v151 : Value).ownBlock) v154 x9_3) ∧ Aside0 (Below w.heap.size w w'))
            case atStart => exact ⟨(x5_1), (0), (by first | rfl | (simp; done) | (simp [*]; done)), H', ⟨Nat.le_refl _⟩, ⟨by (with_reducible repeat (first | apply Kd.S_alloc | apply Kd.S_drewN | apply Kd.S_drew)); exact HO_5.out⟩, ⟨mvR HO_8⟩, ⟨mvR HO_9⟩, ⟨mvB HB⟩⟩
            case round =>
             clear H'
             try clear c1
             try clear p1
             try clear q1
             try clear hx1
             try clear qi1
             try clear c2
             try clear p2
             try clear c3
             try clear c3b0
             try clear p3
             try clear q3
             try clear hx3
             try clear hf3
             try clear c4
             try clear c4b0
             try clear p4
             try clear q4
             try clear hx4
             try clear hf4
             try clear c5
             try clear c6
             try clear p6
             try clear q6
             try clear hx6
             try clear hf6
             try clear c7
             try clear c7b0
             try clear c7b1
             try clear c7b2
             try clear c8
             try clear c10
             try clear c10b0
             try clear c11
             try clear c11b0
             try clear c12
             try clear p12
             try clear q12
             try clear hx12
             try clear c13
             try clear p13
             try clear q13
             try clear hx13
             try clear qi13
             try clear c14
             try clear p14
             try clear q14
             try clear hx14
             try clear c15
             try clear p15
             try clear q15
             try clear hx15
             try clear qi15
             try clear c16
             try clear c17
             try clear c19
             try clear hx19
             try clear hf19
             try clear c23
             try clear c23b0
             try clear c24
             try clear c24b0
             try clear c25
             try clear c25b0
             try clear c25b1
             try clear c26
             try clear c26b0
             try clear c27
             try clear c27b0
             try clear c28
             try clear c28b0
             try clear c29
             try clear c29b0
             try clear c29b1
             try clear c30
             try clear p31
             try clear q31
             try clear c33
             try clear c35
             try clear hx35
             try clear hf35
             try clear c38
             try clear c40
             try clear c40b0
             try clear c41
             try clear c41b0
             try clear c42
             try clear p43
             try clear q43
             try clear c47
             try clear c49
             try clear hx49
             try clear hf49
             try clear c53
             try clear c53b0
             try clear c53b1
             try clear c54
             try clear c54b0
             try clear c54b1
             try clear c58
             try clear c58b0
             try clear c59
             try clear c59b0
             try clear c60
             try clear c60b0
             try clear p61
             try clear q61
             try clear hx61
             try clear hf61
             try clear c64
             try clear c64b0
             try clear p64
             try clear c65
             try clear c65b0
             try clear c66
             try clear c66b0
             try clear c66b1
             try clear c67
             try clear c67b0
             try clear c68
             try clear c68b0
             try clear p69
             try clear q69
             try clear hx69
             try clear hf69
             try clear hx123_0
             try clear hx128_0
             try clear hx128_1
             try clear hx128_2
             try clear hx133_0
             try clear hx133_1
             try clear hx133_2
             try clear hx134_0
             try clear hx135_0
             try clear hx136_0
             try clear hx137_0
             try clear hx137_1
             try clear hx137_2
             try clear hx145_0
             try clear hx145_1
             try clear hx145_2
             try clear hx157_0
             try clear hx157_1
             try clear hx157_2
             try clear hx158_0
             try clear hx19_0
             try clear hx35_0
             try clear hx49_0
             try clear hx61_0
             try clear hx69_0
             try clear p1
             try clear p12
             try clear p123
             try clear p128
             try clear p13
             try clear p133
             try clear p134
             try clear p135
             try clear p136
             try clear p137
             try clear p14
             try clear p145
             try clear p157
             try clear p158
             try clear p2
             try clear p3
             try clear p31
             try clear p4
             try clear p43
             try clear p6
             try clear p61
             try clear p69
             try clear q1
             try clear q12
             try clear q123
             try clear q128
             try clear q13
             try clear q133
             try clear q134
             try clear q135
             try clear q136
             try clear q137
             try clear q14
             try clear q145
             try clear q157
             try clear q158
             try clear q3
             try clear q31
             try clear q4
             try clear q43
             try clear q6
             try clear q61
             try clear q69
             obtain ⟨x5_4, x12_4, rfl, HA, HK4, HO_5, HO_8, HO_9, HB⟩ := hrel
             have hl5_4 := (Kd.S_reads' HO_5.out).1
             rw [hl5_4] at HO_5
             (try simp only [hl5_4])
             (try simp only [hl5_4] at HO_8)
             (try simp only [hl5_4] at HO_9)
             cases gk with
             | zero => exact absurd HA.out (by simp [selvedgeref15_runs.l3])
             | succ k4 =>
              have H := HA.out
              clear HA
              simp only [selvedgeref15_runs.l3] at H
              by_cases c74 : x12_4 < (x5_4.length : Int)
              ·rw [if_pos c74] at H
               have c74b0 : decide (x12_4 < (x5_4.length : Int)) = true := decide_eq_true c74
               clear c74
               by_cases c75 : 0 ≤ x12_4
               ·rw [if_pos c75] at H
                have c75b0 : decide (0 ≤ x12_4) = true := decide_eq_true c75
                clear c75
                obtain ⟨ji76, hji76⟩ : ∃ j_ : Int, (wrap64 ((((rd_T55 x5_4 x12_4).f0).length : Int) - 1)) = j_ := ⟨_, rfl⟩
                replace H : (if 0 ≤ (ji76) then (if (ji76) < (((rd_T55 x5_4 x12_4).f0).length : Int) then (if 0 ≤ (rd ((rd_T55 x5_4 x12_4).f0) (ji76)) then (if (rd ((rd_T55 x5_4 x12_4).f0) (ji76)) < (l0.length : Int) then ((selvedgeref14_Initiator.f (rd l0 (rd ((rd_T55 x5_4 x12_4).f0) (ji76)))).bind fun t164 => (if t164 = true then (if (rd ((rd_T55 x5_4 x12_4).f0) (ji76)) < (t150.length : Int) then (if (rd t150 (rd ((rd_T55 x5_4 x12_4).f0) (ji76))) ≥ 0 then (if 0 ≤ (rd t150 (rd ((rd_T55 x5_4 x12_4).f0) (ji76))) then (if (rd t150 (rd ((rd_T55 x5_4 x12_4).f0) (ji76))) < (x9_3.length : Int) then (if (rd x9_3 (rd t150 (rd ((rd_T55 x5_4 x12_4).f0) (ji76)))) ≥ 0 then ((some (x5_4.set (x12_4 : Int).toNat (⟨(rd_T55 x5_4 x12_4).f0, rd x9_3 (rd t150 (rd ((rd_T55 x5_4 x12_4).f0) (ji76))), (rd_T55 x5_4 x12_4).f2⟩ : S55) : List (S55))).bind fun y170 => (if 0 ≤ (rd x9_3 (rd t150 (rd ((rd_T55 x5_4 x12_4).f0) (ji76)))) then (if (rd x9_3 (rd t150 (rd ((rd_T55 x5_4 x12_4).f0) (ji76)))) < (x5_4.length : Int) then (selvedgeref15_runs.l3 k4 l0 (y170.set ((rd x9_3 (rd t150 (rd ((rd_T55 x5_4 x12_4).f0) (ji76)))) : Int).toNat (⟨(rd_T55 y170 (rd x9_3 (rd t150 (rd ((rd_T55 x5_4 x12_4).f0) (ji76))))).f0, (rd_T55 y170 (rd x9_3 (rd t150 (rd ((rd_T55 x5_4 x12_4).f0) (ji76))))).f1, x12_4⟩ : S55)) t150 x9_3 (wrap64 (x12_4 + 1))) else (none)) else (none))) else (selvedgeref15_runs.l3 k4 l0 x5_4 t150 x9_3 (wrap64 (x12_4 + 1)))) else (none)) else (none)) else (selvedgeref15_runs.l3 k4 l0 x5_4 t150 x9_3 (wrap64 (x12_4 + 1)))) else (none)) else (selvedgeref15_runs.l3 k4 l0 x5_4 t150 x9_3 (wrap64 (x12_4 + 1))))) else (none)) else (none)) else (none)) else (none)) = some r := by first | (rw [hji76] at H; exact H) | (simp only [hji76] at H ⊢; exact H)
                have hji76w : (IntKind.i64.wrap ((((rd_T55 x5_4 x12_4).f0).length : Int) - 1)) = ji76 := (i64_w _).trans hji76
                by_cases c77 : 0 ≤ (ji76)
                ·rw [if_pos c77] at H
                 have c77b0 : decide (0 ≤ (ji76)) = true := decide_eq_true c77
                 clear c77
                 by_cases c78 : (ji76) < (((rd_T55 x5_4 x12_4).f0).length : Int)
                 ·rw [if_pos c78] at H
                  have c78b0 : decide ((ji76) < (((rd_T55 x5_4 x12_4).f0).length : Int)) = true := decide_eq_true c78
                  clear c78
                  by_cases c79 : 0 ≤ (rd ((rd_T55 x5_4 x12_4).f0) (ji76))
                  ·rw [if_pos c79] at H
                   have c79b0 : decide (0 ≤ (rd ((rd_T55 x5_4 x12_4).f0) (ji76))) = true := decide_eq_true c79
                   clear c79
                   by_cases c80 : (rd ((rd_T55 x5_4 x12_4).f0) (ji76)) < (l0.length : Int)
                   ·rw [if_pos c80] at H
                    have c80b0 : decide ((rd ((rd_T55 x5_4 x12_4).f0) (ji76)) < (l0.length : Int)) = true := decide_eq_true c80
                    clear c80
                    replace H := Option.bind_eq_some_iff.mp H
                    obtain ⟨t164, A810, H⟩ := H
                    replace H : (if t164 = true then (if (rd ((rd_T55 x5_4 x12_4).f0) (ji76)) < (t150.length : Int) then (if (rd t150 (rd ((rd_T55 x5_4 x12_4).f0) (ji76))) ≥ 0 then (if 0 ≤ (rd t150 (rd ((rd_T55 x5_4 x12_4).f0) (ji76))) then (if (rd t150 (rd ((rd_T55 x5_4 x12_4).f0) (ji76))) < (x9_3.length : Int) then (if (rd x9_3 (rd t150 (rd ((rd_T55 x5_4 x12_4).f0) (ji76)))) ≥ 0 then ((some (x5_4.set (x12_4 : Int).toNat (⟨(rd_T55 x5_4 x12_4).f0, rd x9_3 (rd t150 (rd ((rd_T55 x5_4 x12_4).f0) (ji76))), (rd_T55 x5_4 x12_4).f2⟩ : S55) : List (S55))).bind fun y170 => (if 0 ≤ (rd x9_3 (rd t150 (rd ((rd_T55 x5_4 x12_4).f0) (ji76)))) then (if (rd x9_3 (rd t150 (rd ((rd_T55 x5_4 x12_4).f0) (ji76)))) < (x5_4.length : Int) then (selvedgeref15_runs.l3 k4 l0 (y170.set ((rd x9_3 (rd t150 (rd ((rd_T55 x5_4 x12_4).f0) (ji76)))) : Int).toNat (⟨(rd_T55 y170 (rd x9_3 (rd t150 (rd ((rd_T55 x5_4 x12_4).f0) (ji76))))).f0, (rd_T55 y170 (rd x9_3 (rd t150 (rd ((rd_T55 x5_4 x12_4).f0) (ji76))))).f1, x12_4⟩ : S55)) t150 x9_3 (wrap64 (x12_4 + 1))) else (none)) else (none))) else (selvedgeref15_runs.l3 k4 l0 x5_4 t150 x9_3 (wrap64 (x12_4 + 1)))) else (none)) else (none)) else (selvedgeref15_runs.l3 k4 l0 x5_4 t150 x9_3 (wrap64 (x12_4 + 1)))) else (none)) else (selvedgeref15_runs.l3 k4 l0 x5_4 t150 x9_3 (wrap64 (x12_4 + 1)))) = some r := H
                    have A81 := Aside0.mk A810
                    clear A810
                    by_cases c82 : t164 = true
                    ·subst c82
                     have H1 : (if (rd ((rd_T55 x5_4 x12_4).f0) (ji76)) < (t150.length : Int) then (if (rd t150 (rd ((rd_T55 x5_4 x12_4).f0) (ji76))) ≥ 0 then (if 0 ≤ (rd t150 (rd ((rd_T55 x5_4 x12_4).f0) (ji76))) then (if (rd t150 (rd ((rd_T55 x5_4 x12_4).f0) (ji76))) < (x9_3.length : Int) then (if (rd x9_3 (rd t150 (rd ((rd_T55 x5_4 x12_4).f0) (ji76)))) ≥ 0 then ((some (x5_4.set (x12_4 : Int).toNat (⟨(rd_T55 x5_4 x12_4).f0, rd x9_3 (rd t150 (rd ((rd_T55 x5_4 x12_4).f0) (ji76))), (rd_T55 x5_4 x12_4).f2⟩ : S55) : List (S55))).bind fun y170 => (if 0 ≤ (rd x9_3 (rd t150 (rd ((rd_T55 x5_4 x12_4).f0) (ji76)))) then (if (rd x9_3 (rd t150 (rd ((rd_T55 x5_4 x12_4).f0) (ji76)))) < (x5_4.length : Int) then (selvedgeref15_runs.l3 k4 l0 (y170.set ((rd x9_3 (rd t150 (rd ((rd_T55 x5_4 x12_4).f0) (ji76)))) : Int).toNat (⟨(rd_T55 y170 (rd x9_3 (rd t150 (rd ((rd_T55 x5_4 x12_4).f0) (ji76))))).f0, (rd_T55 y170 (rd x9_3 (rd t150 (rd ((rd_T55 x5_4 x12_4).f0) (ji76))))).f1, x12_4⟩ : S55)) t150 x9_3 (wrap64 (x12_4 + 1))) else (none)) else (none))) else (selvedgeref15_runs.l3 k4 l0 x5_4 t150 x9_3 (wrap64 (x12_4 + 1)))) else (none)) else (none)) else (selvedgeref15_runs.l3 k4 l0 x5_4 t150 x9_3 (wrap64 (x12_4 + 1)))) else (none)) = some r := by rw [if_pos rfl] at H; exact H
                     clear H
                     have H := H1
                     clear H1
                     by_cases c83 : (rd ((rd_T55 x5_4 x12_4).f0) (ji76)) < (t150.length : Int)
                     ·rw [if_pos c83] at H
                      have c83b0 : decide ((rd ((rd_T55 x5_4 x12_4).f0) (ji76)) < (t150.length : Int)) = true := decide_eq_true c83
                      clear c83
                      by_cases c84 : (rd t150 (rd ((rd_T55 x5_4 x12_4).f0) (ji76))) ≥ 0
                      ·rw [if_pos c84] at H
                       have c84b0 : decide (0 ≤ (rd t150 (rd ((rd_T55 x5_4 x12_4).f0) (ji76)))) = true := decide_eq_true c84
                       clear c84
                       by_cases c85 : 0 ≤ (rd t150 (rd ((rd_T55 x5_4 x12_4).f0) (ji76)))
                       ·rw [if_pos c85] at H
                        have c85b0 : decide (0 ≤ (rd t150 (rd ((rd_T55 x5_4 x12_4).f0) (ji76)))) = true := decide_eq_true c85
                        clear c85
                        by_cases c86 : (rd t150 (rd ((rd_T55 x5_4 x12_4).f0) (ji76))) < (x9_3.length : Int)
                        ·rw [if_pos c86] at H
                         have c86b0 : decide ((rd t150 (rd ((rd_T55 x5_4 x12_4).f0) (ji76))) < (x9_3.length : Int)) = true := decide_eq_true c86
                         clear c86
                         by_cases c87 : (rd x9_3 (rd t150 (rd ((rd_T55 x5_4 x12_4).f0) (ji76)))) ≥ 0
                         ·rw [if_pos c87] at H
                          have c87b0 : decide (0 ≤ (rd x9_3 (rd t150 (rd ((rd_T55 x5_4 x12_4).f0) (ji76))))) = true := decide_eq_true c87
                          clear c87
                          obtain ⟨y170, hy170⟩ : ∃ y_ : List (S55), y_ = (x5_4.set (x12_4 : Int).toNat (⟨(rd_T55 x5_4 x12_4).f0, rd x9_3 (rd t150 (rd ((rd_T55 x5_4 x12_4).f0) (ji76))), (rd_T55 x5_4 x12_4).f2⟩ : S55)) := ⟨_, rfl⟩
                          replace H : (if 0 ≤ (rd x9_3 (rd t150 (rd ((rd_T55 x5_4 x12_4).f0) (ji76)))) then (if (rd x9_3 (rd t150 (rd ((rd_T55 x5_4 x12_4).f0) (ji76)))) < (x5_4.length : Int) then (selvedgeref15_runs.l3 k4 l0 (y170.set ((rd x9_3 (rd t150 (rd ((rd_T55 x5_4 x12_4).f0) (ji76)))) : Int).toNat (⟨(rd_T55 y170 (rd x9_3 (rd t150 (rd ((rd_T55 x5_4 x12_4).f0) (ji76))))).f0, (rd_T55 y170 (rd x9_3 (rd t150 (rd ((rd_T55 x5_4 x12_4).f0) (ji76))))).f1, x12_4⟩ : S55)) t150 x9_3 (wrap64 (x12_4 + 1))) else (none)) else (none)) = some r := by first | (rw [hy170]; with_reducible exact H) | (have H2_ := (Option.bind_some _ _).symm.trans H; rw [hy170]; with_reducible exact H2_) | (have H2_ := (Option.bind_some _ _).symm.trans H; with_reducible exact H2_) | with_reducible exact H | (rw [hy170]; exact H) | exact H
                          have Ny170 := Aside0.mk hy170
                          clear hy170
                          by_cases c89 : 0 ≤ (rd x9_3 (rd t150 (rd ((rd_T55 x5_4 x12_4).f0) (ji76))))
                          ·rw [if_pos c89] at H
                           have c89b0 : decide (0 ≤ (rd x9_3 (rd t150 (rd ((rd_T55 x5_4 x12_4).f0) (ji76))))) = true := decide_eq_true c89
                           clear c89
                           by_cases c90 : (rd x9_3 (rd t150 (rd ((rd_T55 x5_4 x12_4).f0) (ji76)))) < (x5_4.length : Int)
                           ·rw [if_pos c90] at H
                            have c90b0 : decide ((rd x9_3 (rd t150 (rd ((rd_T55 x5_4 x12_4).f0) (ji76)))) < (x5_4.length : Int)) = true := decide_eq_true c90
                            clear c90
                            obtain ⟨y171, hy171⟩ : ∃ y_ : List (S55), y_ = (y170.set ((rd x9_3 (rd t150 (rd ((rd_T55 x5_4 x12_4).f0) (ji76)))) : Int).toNat (⟨(rd_T55 y170 (rd x9_3 (rd t150 (rd ((rd_T55 x5_4 x12_4).f0) (ji76))))).f0, (rd_T55 y170 (rd x9_3 (rd t150 (rd ((rd_T55 x5_4 x12_4).f0) (ji76))))).f1, x12_4⟩ : S55)) := ⟨_, rfl⟩
                            replace H : (selvedgeref15_runs.l3 k4 l0 y171 t150 x9_3 (wrap64 (x12_4 + 1))) = some r := by first | (rw [hy171]; with_reducible exact H) | (have H2_ := (Option.bind_some _ _).symm.trans H; rw [hy171]; with_reducible exact H2_) | (have H2_ := (Option.bind_some _ _).symm.trans H; with_reducible exact H2_) | with_reducible exact H | (rw [hy171]; exact H) | exact H
                            have Ny171 := Aside0.mk hy171
                            clear hy171
                            have H' := Aside0.mk H
                            clear H
                            have p160 := dT (0 ≤ (x12_4 : Int))
                            have q160 := dT (x12_4 < (x5_4.length : Int))
                            obtain ⟨ad160, A160_0, c160_0, e160, hx160_0, hx160_1, hx160_2, hl160_0, hi160_0⟩ := at_T55 (Kd.S_reads' HO_5.out).2.2 x12_4 p160 q160
                            cases e160
                            obtain ⟨ce160, hce160, hMe160, hcc160⟩ := Kd.S_get HO_5.out z55 x12_4 p160 (by first | exact q160 | exact of_decide_eq_true (by first | (with_reducible assumption) | assumption) | (have e_ := (Kd.S_reads' HO_5.out).1; omega))
                            obtain ⟨ve160_0, rfl, ge160_0⟩ := k55_openM hMe160
                            have hv160_0 := hcc160 0 _ rfl
                            rw [Nat.add_zero] at hv160_0
                            replace hv160_0 := Option.some.inj (hv160_0.symm.trans hx160_0)
                            rw [hv160_0] at ge160_0
                            have HL160_0 := Aside0.mk (show Kd.R (Kd.int .i64) 3 _ _ _ _ ((rd_T55 x5_4 x12_4).f0) from ge160_0)
                            clear hv160_0 ge160_0
                            have HX160_0 := Aside0.mk hx160_0
                            clear hcc160 hce160
                            have HR160_0 := Aside0.mk hi160_0
                            have HC160_0 := Aside0.mk hl160_0
                            clear hi160_0 hl160_0
                            replace p160 := eq_true p160
                            replace q160 := eq_true q160
                            have p161 := dT (0 ≤ (x12_4 : Int))
                            have q161 := dT (x12_4 < (x5_4.length : Int))
                            obtain ⟨ad161, A161_0, c161_0, e161, hx161_0, hx161_1, hx161_2, hl161_0, hi161_0⟩ := at_T55 (Kd.S_reads' HO_5.out).2.2 x12_4 p161 q161
                            obtain rfl : ad160 = ad161 := (by injection e161)
                            obtain ⟨ce161, hce161, hMe161, hcc161⟩ := Kd.S_get HO_5.out z55 x12_4 p161 (by first | exact q161 | exact of_decide_eq_true (by first | (with_reducible assumption) | assumption) | (have e_ := (Kd.S_reads' HO_5.out).1; omega))
                            obtain ⟨ve161_0, rfl, ge161_0⟩ := k55_openM hMe161
                            have hv161_0 := hcc161 0 _ rfl
                            rw [Nat.add_zero] at hv161_0
                            replace hv161_0 := Option.some.inj (hv161_0.symm.trans hx161_0)
                            rw [hv161_0] at ge161_0
                            have HL161_0 := Aside0.mk (show Kd.R (Kd.int .i64) 3 _ _ _ _ ((rd_T55 x5_4 x12_4).f0) from ge161_0)
                            clear hv161_0 ge161_0
                            have HX161_0 := Aside0.mk hx161_0
                            clear hcc161 hce161
                            have HR161_0 := Aside0.mk hi161_0
                            have HC161_0 := Aside0.mk hl161_0
                            clear hi161_0 hl161_0
                            replace p161 := eq_true p161
                            replace q161 := eq_true q161
                            have ea_ := Option.some.inj (hx160_0.symm.trans hx161_0)
                            injection ea_ with ea_ en_ ec_
                            subst ea_
                            subst ec_
                            clear en_
                            obtain ⟨ad162, e162, hx162_0, p162, q162⟩ := atI (by repeat (first | (with_reducible exact HR160_0.out) | (with_reducible refine Kd.C_alloc ?_ _) | (with_reducible refine Kd.C_drewN ?_ _) | (with_reducible refine Kd.C_drew ?_) | exact HR160_0.out)) (ji76)
                            cases e162
                            obtain ⟨ad163, e163, hx163_0, p163, q163⟩ := atI HR0.out (rd ((rd_T55 x5_4 x12_4).f0) (ji76))
                            cases e163
                            replace hx163_0 := (HB.out.cell (World.block_lt_of_cell? w _ hx163_0)).trans hx163_0
                            go_wp2_with (first | (go_at_call 19; (with_reducible refine (selvedgeref14_Initiator.calls (rd l0 (rd ((rd_T55 x5_4 x12_4).f0) (ji76))) true _ A81.out).mono ?_); rintro e w' ⟨rfl, ⟨nd, rfl⟩⟩; (try first | exact ⟨rfl, _, World.drewN_drewN _ _ _⟩ | exact ⟨rfl, _, Eq.trans (World.drewN_drewN _ _ _) (congrArg (World.drewN _) (Nat.add_assoc _ _ _))⟩); obtain ⟨Ao92, co92, eo92⟩ := Kd.R_slice HO_8.out; subst eo92; obtain ⟨ad165, e165, hx165_0, p165, q165⟩ := atI (Kd.R_reads' HO_8.out).2.2 (rd ((rd_T55 x5_4 x12_4).f0) (ji76)); cases e165; obtain ⟨ad166, e166, hx166_0, p166, q166⟩ := atI (Kd.R_reads' HO_8.out).2.2 (rd ((rd_T55 x5_4 x12_4).f0) (ji76)); obtain rfl : ad165 = ad166 := (by injection e166); obtain ⟨Ao93, co93, eo93⟩ := Kd.R_slice HO_9.out; subst eo93; obtain ⟨ad167, e167, hx167_0, p167, q167⟩ := atI (Kd.R_reads' HO_9.out).2.2 (rd t150 (rd ((rd_T55 x5_4 x12_4).f0) (ji76))); cases e167; obtain ⟨ad168, e168, hx168_0, p168, q168⟩ := atI (Kd.R_reads' HO_8.out).2.2 (rd ((rd_T55 x5_4 x12_4).f0) (ji76)); obtain rfl : ad165 = ad168 := (by injection e168); obtain ⟨ad169, e169, hx169_0, p169, q169⟩ := atI (Kd.R_reads' HO_9.out).2.2 (rd t150 (rd ((rd_T55 x5_4 x12_4).f0) (ji76))); obtain rfl : ad167 = ad169 := (by injection e169); have p88 := dT (0 ≤ (x12_4 : Int)); have q88 : (x12_4 : Int) < ((x5_4.length : Int) : Int) := of_decide_eq_true (by first | (with_reducible assumption) | assumption); obtain ⟨go88, co88, eo88, gb88, gl88, cl88, HG88⟩ := Kd.S_form HO_5.out (by omega); (first | cases eo88 | (injection eo88 with ea_ en_ ec_; (first | subst ea_ | (injection ea_ with ea_; subst ea_)); subst ec_; clear en_)); have GB88 := Aside0.mk gb88; have GG88 := Aside0.mk HG88; clear gb88 gl88 HG88; (first | simp only [add_plain] at hx160_0 | skip); (first | simp only [add_plain] at hx160_1 | skip); (first | simp only [add_plain] at hx160_2 | skip); (first | simp only [add_plain] at hx161_0 | skip); (first | simp only [add_plain] at hx161_1 | skip); (first | simp only [add_plain] at hx161_2 | skip); obtain ⟨_, ce88, hcl88, hM88, hcc88, hfr88, _, _⟩ := Kd.S_elem HO_5.out z55 (x12_4 : Int) p88 q88; obtain ⟨ve88_0, rfl, ge88_0⟩ := k55_openM hM88; have hx88_0 : wr.cell? ⟨go88, (x12_4 : Int).toNat * 3, none⟩ = some (ve88_0) := hcc88 0 _ rfl; have hx88_1 : wr.cell? ⟨go88, (x12_4 : Int).toNat * 3 + 1, none⟩ = some (.int .i64 ((rd_T55 x5_4 x12_4).f1)) := hcc88 1 _ rfl; have hx88_2 : wr.cell? ⟨go88, (x12_4 : Int).toNat * 3 + 2, none⟩ = some (.int .i64 ((rd_T55 x5_4 x12_4).f2)) := hcc88 2 _ rfl; have hf88_0 : wr.frozen? ⟨go88, (x12_4 : Int).toNat * 3, none⟩ = false := hfr88 0; have hf88_1 : wr.frozen? ⟨go88, (x12_4 : Int).toNat * 3 + 1, none⟩ = false := hfr88 1; have hf88_2 : wr.frozen? ⟨go88, (x12_4 : Int).toNat * 3 + 2, none⟩ = false := hfr88 2; clear hcl88 hcc88 hfr88 hM88; replace p88 := eq_true p88; replace q88 := eq_true q88; have HX94 := Aside0.mk (show Kd.S k55 55 wr w.heap.size (fun k_ => ((fun k_ => some k_ ≠ (.slice (some ad165) t150.length co92 : Value).ownBlock ∧ some k_ ≠ (.slice (some ad167) x9_3.length co93 : Value).ownBlock)) k_ ∧ ¬ ((fun _ => False)) k_) (.slice (some ⟨go88, 0, none⟩) x5_4.length co73) x5_4 from (by (with_reducible repeat (first | apply Kd.S_alloc | apply Kd.S_drewN | apply Kd.S_drew)); exact Kd.S_mono HO_5.out (fun k_ hk => ⟨⟨hk.1, hk.2⟩, fun e_ => e_⟩))); obtain ⟨oki94, ce94, hcl94, hM94, hcc94, hfr94, hoki94, hH94⟩ := Kd.S_elem HX94.out z55 (x12_4 : Int) (of_decide_eq_true (by first | (with_reducible assumption) | assumption)) (by have h_ : (x12_4 : Int) < ((x5_4.length : Int) : Int) := of_decide_eq_true (by first | (with_reducible assumption) | assumption); first | exact h_ | (have e_ := (Kd.S_reads' HO_5.out).1; omega) | simpa using h_); obtain ⟨ve94_0, rfl, ge94_0⟩ := k55_openM hM94; have HP94 := Kd.S_seg hH94 (of_decide_eq_true (by first | (with_reducible assumption) | assumption)) (by have h_ : (x12_4 : Int) < ((x5_4.length : Int) : Int) := of_decide_eq_true (by first | (with_reducible assumption) | assumption); first | exact h_ | (have e_ := (Kd.S_reads' HO_5.out).1; omega) | simpa using h_) (seg := [.int .i64 (rd x9_3 (rd t150 (rd ((rd_T55 x5_4 x12_4).f0) (ji76))))]) (j := 1) (show 2 ≤ 3 from by decide) (x' := (⟨(rd_T55 x5_4 x12_4).f0, rd x9_3 (rd t150 (rd ((rd_T55 x5_4 x12_4).f0) (ji76))), (rd_T55 x5_4 x12_4).f2⟩ : S55)) (k55_mkM _ _ _ (⟨(rd_T55 x5_4 x12_4).f0, rd x9_3 (rd t150 (rd ((rd_T55 x5_4 x12_4).f0) (ji76))), (rd_T55 x5_4 x12_4).f2⟩ : S55) (Kd.R_mono ge94_0 (fun _ h_ => Or.inl h_))) (fun _ hk => hk) (fun k_ hk_ => hk_.elim); have hx94_1 := hcc94 1 _ rfl; (try simp only [show (k55).sz = 3 from rfl, Nat.mul_one, Nat.add_zero] at hx94_1); have hf94_1 := hfr94 1; (try simp only [show (k55).sz = 3 from rfl, Nat.mul_one, Nat.add_zero] at hf94_1); clear hcl94 hcc94 hfr94 hM94 hoki94 hH94) | ((with_reducible refine gate_store (t := 3) (p := 151) rfl ?_); (try (rw [drewN_self wr]; generalize hq_ : World.drewN wr _ = wr; have n0_ := Aside0.mk (Kd.S_at hq_ HO_5.out); have n1_ := Aside0.mk (Kd.R_at hq_ HO_8.out); have n2_ := Aside0.mk (Kd.R_at hq_ HO_9.out); have n3_ := Aside0.mk (Kd.R_at hq_ HL160_0.out); have n4_ := Aside0.mk (Kd.R_at hq_ HL161_0.out); have n5_ := Aside0.mk (below_at hq_ HB.out); clear hq_ HO_5 HO_8 HO_9 HL160_0 HL161_0 HB; have HO_5 := n0_; have HO_8 := n1_; have HO_9 := n2_; have HL160_0 := n3_; have HL161_0 := n4_; have HB := n5_; clear n0_ n1_ n2_ n3_ n4_ n5_; (try (have HX94 := Aside0.mk (show Kd.S k55 55 wr w.heap.size (fun k_ => ((fun k_ => some k_ ≠ (.slice (some ad165) t150.length co92 : Value).ownBlock ∧ some k_ ≠ (.slice (some ad167) x9_3.length co93 : Value).ownBlock)) k_ ∧ ¬ ((fun _ => False)) k_) (.slice (some ⟨go88, 0, none⟩) x5_4.length co73) x5_4 from (by (with_reducible repeat (first | apply Kd.S_alloc | apply Kd.S_drewN | apply Kd.S_drew)); exact Kd.S_mono HO_5.out (fun k_ hk => ⟨⟨hk.1, hk.2⟩, fun e_ => e_⟩))))); (try (obtain ⟨oki94, ce94, hcl94, hM94, hcc94, hfr94, hoki94, hH94⟩ := Kd.S_elem HX94.out z55 (x12_4 : Int) (of_decide_eq_true (by first | (with_reducible assumption) | assumption)) (by have h_ : (x12_4 : Int) < ((x5_4.length : Int) : Int) := of_decide_eq_true (by first | (with_reducible assumption) | assumption); first | exact h_ | (have e_ := (Kd.S_reads' HO_5.out).1; omega) | simpa using h_))); (try (obtain ⟨ve94_0, rfl, ge94_0⟩ := k55_openM hM94)); (try (have HP94 := Kd.S_seg hH94 (of_decide_eq_true (by first | (with_reducible assumption) | assumption)) (by have h_ : (x12_4 : Int) < ((x5_4.length : Int) : Int) := of_decide_eq_true (by first | (with_reducible assumption) | assumption); first | exact h_ | (have e_ := (Kd.S_reads' HO_5.out).1; omega) | simpa using h_) (seg := [.int .i64 (rd x9_3 (rd t150 (rd ((rd_T55 x5_4 x12_4).f0) (ji76))))]) (j := 1) (show 2 ≤ 3 from by decide) (x' := (⟨(rd_T55 x5_4 x12_4).f0, rd x9_3 (rd t150 (rd ((rd_T55 x5_4 x12_4).f0) (ji76))), (rd_T55 x5_4 x12_4).f2⟩ : S55)) (k55_mkM _ _ _ (⟨(rd_T55 x5_4 x12_4).f0, rd x9_3 (rd t150 (rd ((rd_T55 x5_4 x12_4).f0) (ji76))), (rd_T55 x5_4 x12_4).f2⟩ : S55) (Kd.R_mono ge94_0 (fun _ h_ => Or.inl h_))) (fun _ hk => hk) (fun k_ hk_ => hk_.elim))); (try (have hx94_1 := hcc94 1 _ rfl)); (try (try simp only [show (k55).sz = 3 from rfl, Nat.mul_one, Nat.add_zero] at hx94_1)); (try (have hf94_1 := hfr94 1)); (try (try simp only [show (k55).sz = 3 from rfl, Nat.mul_one, Nat.add_zero] at hf94_1)); (try (clear hcl94 hcc94 hfr94 hM94 hoki94 hH94)))); refine store_event (t := 3) (p := 151) (v := ?vo_w95) (w1 := (wr.setCell ⟨go88, (x12_4 : Int).toNat * 3 + 1, none⟩ (.int .i64 (rd x9_3 (rd t150 (rd ((rd_T55 x5_4 x12_4).f0) (ji76))))))) ?hg ?ho ?hn ?hr ?_; (case ho => rfl); (case hg => rfl); (case hn => rfl); (case hr => first | (go_simp; done) | (go_simp; rfl)); intro w95 hw; have hg : wr.grownBy w95 (some go88) := (by rw [hw]; exact HP94.2); have hp_ : Kd.S k55 55 w95 w.heap.size (fun k_ => some k_ ≠ (.slice (some ad165) t150.length co92 : Value).ownBlock ∧ some k_ ≠ (.slice (some ad167) x9_3.length co93 : Value).ownBlock) (.slice (some ⟨go88, 0, none⟩) x5_4.length co73) y170 := (by rw [hw, Ny170.out]; exact HP94.1); clear HP94; have n0_ := Aside0.mk (hp_); have n1_ := Aside0.mk (Kd.R_over' (v := (.slice (some ⟨go88, 0, none⟩) x5_4.length co73)) (mvR HO_8) (Kd.S_typed HO_5.out) (by decide) hg); have n2_ := Aside0.mk (Kd.R_over' (v := (.slice (some ⟨go88, 0, none⟩) x5_4.length co73)) (mvR HO_9) (Kd.S_typed HO_5.out) (by decide) hg); have n3_ := Aside0.mk (Kd.R_after (v := (.slice (some ⟨go88, 0, none⟩) x5_4.length co73)) (v1 := (.slice (some ⟨go88, 0, none⟩) x5_4.length co73)) (ok := (fun k_ => some k_ ≠ (.slice (some ad165) t150.length co92 : Value).ownBlock ∧ some k_ ≠ (.slice (some ad167) x9_3.length co93 : Value).ownBlock)) (mvR HL160_0) hg (.inl rfl)); have n4_ := Aside0.mk (Kd.R_after (v := (.slice (some ⟨go88, 0, none⟩) x5_4.length co73)) (v1 := (.slice (some ⟨go88, 0, none⟩) x5_4.length co73)) (ok := (fun k_ => some k_ ≠ (.slice (some ad165) t150.length co92 : Value).ownBlock ∧ some k_ ≠ (.slice (some ad167) x9_3.length co93 : Value).ownBlock)) (mvR HL161_0) hg (.inl rfl)); have n5_ := Aside0.mk ((by rw [hw]; exact below_set (HB.out) GB88.out : Below w.heap.size w w95)); clear HO_5; clear HO_8; clear HO_9; clear HL160_0; clear HL161_0; clear HB; have HO_5 := n0_; have HO_8 := n1_; have HO_9 := n2_; have HL160_0 := n3_; have HL161_0 := n4_; have HB := n5_; clear n0_ n1_ n2_ n3_ n4_ n5_; clear hg hw hp_; have p91 := dT (0 ≤ ((rd x9_3 (rd t150 (rd ((rd_T55 x5_4 x12_4).f0) (ji76)))) : Int)); have q91 : ((rd x9_3 (rd t150 (rd ((rd_T55 x5_4 x12_4).f0) (ji76)))) : Int) < ((x5_4.length : Int) : Int) := of_decide_eq_true (by first | (with_reducible assumption) | assumption); obtain ⟨_, ce91, hcl91, hM91, hcc91, hfr91, _, _⟩ := Kd.S_elem HO_5.out z55 ((rd x9_3 (rd t150 (rd ((rd_T55 x5_4 x12_4).f0) (ji76)))) : Int) p91 q91; obtain ⟨ve91_0, rfl, ge91_0⟩ := k55_openM hM91; have hx91_0 : w95.cell? ⟨go88, ((rd x9_3 (rd t150 (rd ((rd_T55 x5_4 x12_4).f0) (ji76)))) : Int).toNat * 3, none⟩ = some (ve91_0) := hcc91 0 _ rfl; have hx91_1 : w95.cell? ⟨go88, ((rd x9_3 (rd t150 (rd ((rd_T55 x5_4 x12_4).f0) (ji76)))) : Int).toNat * 3 + 1, none⟩ = some (.int .i64 ((rd_T55 y170 (rd x9_3 (rd t150 (rd ((rd_T55 x5_4 x12_4).f0) (ji76))))).f1)) := hcc91 1 _ rfl; have hx91_2 : w95.cell? ⟨go88, ((rd x9_3 (rd t150 (rd ((rd_T55 x5_4 x12_4).f0) (ji76)))) : Int).toNat * 3 + 2, none⟩ = some (.int .i64 ((rd_T55 y170 (rd x9_3 (rd t150 (rd ((rd_T55 x5_4 x12_4).f0) (ji76))))).f2)) := hcc91 2 _ rfl; have hf91_0 : w95.frozen? ⟨go88, ((rd x9_3 (rd t150 (rd ((rd_T55 x5_4 x12_4).f0) (ji76)))) : Int).toNat * 3, none⟩ = false := hfr91 0; have hf91_1 : w95.frozen? ⟨go88, ((rd x9_3 (rd t150 (rd ((rd_T55 x5_4 x12_4).f0) (ji76)))) : Int).toNat * 3 + 1, none⟩ = false := hfr91 1; have hf91_2 : w95.frozen? ⟨go88, ((rd x9_3 (rd t150 (rd ((rd_T55 x5_4 x12_4).f0) (ji76)))) : Int).toNat * 3 + 2, none⟩ = false := hfr91 2; clear hcl91 hcc91 hfr91 hM91; replace p91 := eq_true p91; replace q91 := eq_true q91; have HX96 := Aside0.mk (show Kd.S k55 55 w95 w.heap.size (fun k_ => ((fun k_ => some k_ ≠ (.slice (some ad165) t150.length co92 : Value).ownBlock ∧ some k_ ≠ (.slice (some ad167) x9_3.length co93 : Value).ownBlock)) k_ ∧ ¬ ((fun _ => False)) k_) (.slice (some ⟨go88, 0, none⟩) x5_4.length co73) y170 from (by (with_reducible repeat (first | apply Kd.S_alloc | apply Kd.S_drewN | apply Kd.S_drew)); exact Kd.S_mono HO_5.out (fun k_ hk => ⟨⟨hk.1, hk.2⟩, fun e_ => e_⟩))); obtain ⟨oki96, ce96, hcl96, hM96, hcc96, hfr96, hoki96, hH96⟩ := Kd.S_elem HX96.out z55 ((rd x9_3 (rd t150 (rd ((rd_T55 x5_4 x12_4).f0) (ji76)))) : Int) (of_decide_eq_true (by first | (with_reducible assumption) | assumption)) (by have h_ : ((rd x9_3 (rd t150 (rd ((rd_T55 x5_4 x12_4).f0) (ji76)))) : Int) < ((x5_4.length : Int) : Int) := of_decide_eq_true (by first | (with_reducible assumption) | assumption); first | exact h_ | (have e_ := (Kd.S_reads' HO_5.out).1; omega) | simpa using h_); obtain ⟨ve96_0, rfl, ge96_0⟩ := k55_openM hM96; have HP96 := Kd.S_seg hH96 (of_decide_eq_true (by first | (with_reducible assumption) | assumption)) (by have h_ : ((rd x9_3 (rd t150 (rd ((rd_T55 x5_4 x12_4).f0) (ji76)))) : Int) < ((x5_4.length : Int) : Int) := of_decide_eq_true (by first | (with_reducible assumption) | assumption); first | exact h_ | (have e_ := (Kd.S_reads' HO_5.out).1; omega) | simpa using h_) (seg := [.int .i64 x12_4]) (j := 2) (show 3 ≤ 3 from by decide) (x' := (⟨(rd_T55 y170 (rd x9_3 (rd t150 (rd ((rd_T55 x5_4 x12_4).f0) (ji76))))).f0, (rd_T55 y170 (rd x9_3 (rd t150 (rd ((rd_T55 x5_4 x12_4).f0) (ji76))))).f1, x12_4⟩ : S55)) (k55_mkM _ _ _ (⟨(rd_T55 y170 (rd x9_3 (rd t150 (rd ((rd_T55 x5_4 x12_4).f0) (ji76))))).f0, (rd_T55 y170 (rd x9_3 (rd t150 (rd ((rd_T55 x5_4 x12_4).f0) (ji76))))).f1, x12_4⟩ : S55) (Kd.R_mono ge96_0 (fun _ h_ => Or.inl h_))) (fun _ hk => hk) (fun k_ hk_ => hk_.elim); have hx96_2 := hcc96 2 _ rfl; (try simp only [show (k55).sz = 3 from rfl, Nat.mul_one, Nat.add_zero] at hx96_2); have hf96_2 := hfr96 2; (try simp only [show (k55).sz = 3 from rfl, Nat.mul_one, Nat.add_zero] at hf96_2); clear hcl96 hcc96 hfr96 hM96 hoki96 hH96) | ((with_reducible refine gate_store (t := 3) (p := 156) rfl ?_); (try (rw [drewN_self w95]; generalize hq_ : World.drewN w95 _ = w95; have n0_ := Aside0.mk (Kd.S_at hq_ HO_5.out); have n1_ := Aside0.mk (Kd.R_at hq_ HO_8.out); have n2_ := Aside0.mk (Kd.R_at hq_ HO_9.out); have n3_ := Aside0.mk (Kd.R_at hq_ HL160_0.out); have n4_ := Aside0.mk (Kd.R_at hq_ HL161_0.out); have n5_ := Aside0.mk (below_at hq_ HB.out); clear hq_ HO_5 HO_8 HO_9 HL160_0 HL161_0 HB; have HO_5 := n0_; have HO_8 := n1_; have HO_9 := n2_; have HL160_0 := n3_; have HL161_0 := n4_; have HB := n5_; clear n0_ n1_ n2_ n3_ n4_ n5_; (try (have HX96 := Aside0.mk (show Kd.S k55 55 w95 w.heap.size (fun k_ => ((fun k_ => some k_ ≠ (.slice (some ad165) t150.length co92 : Value).ownBlock ∧ some k_ ≠ (.slice (some ad167) x9_3.length co93 : Value).ownBlock)) k_ ∧ ¬ ((fun _ => False)) k_) (.slice (some ⟨go88, 0, none⟩) x5_4.length co73) y170 from (by (with_reducible repeat (first | apply Kd.S_alloc | apply Kd.S_drewN | apply Kd.S_drew)); exact Kd.S_mono HO_5.out (fun k_ hk => ⟨⟨hk.1, hk.2⟩, fun e_ => e_⟩))))); (try (obtain ⟨oki96, ce96, hcl96, hM96, hcc96, hfr96, hoki96, hH96⟩ := Kd.S_elem HX96.out z55 ((rd x9_3 (rd t150 (rd ((rd_T55 x5_4 x12_4).f0) (ji76)))) : Int) (of_decide_eq_true (by first | (with_reducible assumption) | assumption)) (by have h_ : ((rd x9_3 (rd t150 (rd ((rd_T55 x5_4 x12_4).f0) (ji76)))) : Int) < ((x5_4.length : Int) : Int) := of_decide_eq_true (by first | (with_reducible assumption) | assumption); first | exact h_ | (have e_ := (Kd.S_reads' HO_5.out).1; omega) | simpa using h_))); (try (obtain ⟨ve96_0, rfl, ge96_0⟩ := k55_openM hM96)); (try (have HP96 := Kd.S_seg hH96 (of_decide_eq_true (by first | (with_reducible assumption) | assumption)) (by have h_ : ((rd x9_3 (rd t150 (rd ((rd_T55 x5_4 x12_4).f0) (ji76)))) : Int) < ((x5_4.length : Int) : Int) := of_decide_eq_true (by first | (with_reducible assumption) | assumption); first | exact h_ | (have e_ := (Kd.S_reads' HO_5.out).1; omega) | simpa using h_) (seg := [.int .i64 x12_4]) (j := 2) (show 3 ≤ 3 from by decide) (x' := (⟨(rd_T55 y170 (rd x9_3 (rd t150 (rd ((rd_T55 x5_4 x12_4).f0) (ji76))))).f0, (rd_T55 y170 (rd x9_3 (rd t150 (rd ((rd_T55 x5_4 x12_4).f0) (ji76))))).f1, x12_4⟩ : S55)) (k55_mkM _ _ _ (⟨(rd_T55 y170 (rd x9_3 (rd t150 (rd ((rd_T55 x5_4 x12_4).f0) (ji76))))).f0, (rd_T55 y170 (rd x9_3 (rd t150 (rd ((rd_T55 x5_4 x12_4).f0) (ji76))))).f1, x12_4⟩ : S55) (Kd.R_mono ge96_0 (fun _ h_ => Or.inl h_))) (fun _ hk => hk) (fun k_ hk_ => hk_.elim))); (try (have hx96_2 := hcc96 2 _ rfl)); (try (try simp only [show (k55).sz = 3 from rfl, Nat.mul_one, Nat.add_zero] at hx96_2)); (try (have hf96_2 := hfr96 2)); (try (try simp only [show (k55).sz = 3 from rfl, Nat.mul_one, Nat.add_zero] at hf96_2)); (try (clear hcl96 hcc96 hfr96 hM96 hoki96 hH96)))); refine store_event (t := 3) (p := 156) (v := ?vo_w97) (w1 := (w95.setCell ⟨go88, ((rd x9_3 (rd t150 (rd ((rd_T55 x5_4 x12_4).f0) (ji76)))) : Int).toNat * 3 + 2, none⟩ (.int .i64 x12_4))) ?hg ?ho ?hn ?hr ?_; (case ho => rfl); (case hg => rfl); (case hn => rfl); (case hr => first | (go_simp; done) | (go_simp; rfl)); intro w97 hw; have hg : w95.grownBy w97 (some go88) := (by rw [hw]; exact HP96.2); have hp_ : Kd.S k55 55 w97 w.heap.size (fun k_ => some k_ ≠ (.slice (some ad165) t150.length co92 : Value).ownBlock ∧ some k_ ≠ (.slice (some ad167) x9_3.length co93 : Value).ownBlock) (.slice (some ⟨go88, 0, none⟩) x5_4.length co73) y171 := (by rw [hw, Ny171.out]; exact HP96.1); clear HP96; have n0_ := Aside0.mk (hp_); have n1_ := Aside0.mk (Kd.R_over' (v := (.slice (some ⟨go88, 0, none⟩) x5_4.length co73)) (mvR HO_8) (Kd.S_typed HO_5.out) (by decide) hg); have n2_ := Aside0.mk (Kd.R_over' (v := (.slice (some ⟨go88, 0, none⟩) x5_4.length co73)) (mvR HO_9) (Kd.S_typed HO_5.out) (by decide) hg); have n3_ := Aside0.mk (Kd.R_after (v := (.slice (some ⟨go88, 0, none⟩) x5_4.length co73)) (v1 := (.slice (some ⟨go88, 0, none⟩) x5_4.length co73)) (ok := (fun k_ => some k_ ≠ (.slice (some ad165) t150.length co92 : Value).ownBlock ∧ some k_ ≠ (.slice (some ad167) x9_3.length co93 : Value).ownBlock)) (mvR HL160_0) hg (.inl rfl)); have n4_ := Aside0.mk (Kd.R_after (v := (.slice (some ⟨go88, 0, none⟩) x5_4.length co73)) (v1 := (.slice (some ⟨go88, 0, none⟩) x5_4.length co73)) (ok := (fun k_ => some k_ ≠ (.slice (some ad165) t150.length co92 : Value).ownBlock ∧ some k_ ≠ (.slice (some ad167) x9_3.length co93 : Value).ownBlock)) (mvR HL161_0) hg (.inl rfl)); have n5_ := Aside0.mk ((by rw [hw]; exact below_set (HB.out) GB88.out : Below w.heap.size w w97)); clear HO_5; clear HO_8; clear HO_9; clear HL160_0; clear HL161_0; clear HB; have HO_5 := n0_; have HO_8 := n1_; have HO_9 := n2_; have HL160_0 := n3_; have HL161_0 := n4_; have HB := n5_; clear n0_ n1_ n2_ n3_ n4_ n5_; clear hg hw hp_))
                            repeat (go_quiet (first | (go_at_call 19; (with_reducible refine (selvedgeref14_Initiator.calls (rd l0 (rd ((rd_T55 x5_4 x12_4).f0) (ji76))) true _ A81.out).mono ?_); rintro e w' ⟨rfl, ⟨nd, rfl⟩⟩; (try first | exact ⟨rfl, _, World.drewN_drewN _ _ _⟩ | exact ⟨rfl, _, Eq.trans (World.drewN_drewN _ _ _) (congrArg (World.drewN _) (Nat.add_assoc _ _ _))⟩); obtain ⟨Ao92, co92, eo92⟩ := Kd.R_slice HO_8.out; subst eo92; obtain ⟨ad165, e165, hx165_0, p165, q165⟩ := atI (Kd.R_reads' HO_8.out).2.2 (rd ((rd_T55 x5_4 x12_4).f0) (ji76)); cases e165; obtain ⟨ad166, e166, hx166_0, p166, q166⟩ := atI (Kd.R_reads' HO_8.out).2.2 (rd ((rd_T55 x5_4 x12_4).f0) (ji76)); obtain rfl : ad165 = ad166 := (by injection e166); obtain ⟨Ao93, co93, eo93⟩ := Kd.R_slice HO_9.out; subst eo93; obtain ⟨ad167, e167, hx167_0, p167, q167⟩ := atI (Kd.R_reads' HO_9.out).2.2 (rd t150 (rd ((rd_T55 x5_4 x12_4).f0) (ji76))); cases e167; obtain ⟨ad168, e168, hx168_0, p168, q168⟩ := atI (Kd.R_reads' HO_8.out).2.2 (rd ((rd_T55 x5_4 x12_4).f0) (ji76)); obtain rfl : ad165 = ad168 := (by injection e168); obtain ⟨ad169, e169, hx169_0, p169, q169⟩ := atI (Kd.R_reads' HO_9.out).2.2 (rd t150 (rd ((rd_T55 x5_4 x12_4).f0) (ji76))); obtain rfl : ad167 = ad169 := (by injection e169); have p88 := dT (0 ≤ (x12_4 : Int)); have q88 : (x12_4 : Int) < ((x5_4.length : Int) : Int) := of_decide_eq_true (by first | (with_reducible assumption) | assumption); obtain ⟨go88, co88, eo88, gb88, gl88, cl88, HG88⟩ := Kd.S_form HO_5.out (by omega); (first | cases eo88 | (injection eo88 with ea_ en_ ec_; (first | subst ea_ | (injection ea_ with ea_; subst ea_)); subst ec_; clear en_)); have GB88 := Aside0.mk gb88; have GG88 := Aside0.mk HG88; clear gb88 gl88 HG88; (first | simp only [add_plain] at hx160_0 | skip); (first | simp only [add_plain] at hx160_1 | skip); (first | simp only [add_plain] at hx160_2 | skip); (first | simp only [add_plain] at hx161_0 | skip); (first | simp only [add_plain] at hx161_1 | skip); (first | simp only [add_plain] at hx161_2 | skip); obtain ⟨_, ce88, hcl88, hM88, hcc88, hfr88, _, _⟩ := Kd.S_elem HO_5.out z55 (x12_4 : Int) p88 q88; obtain ⟨ve88_0, rfl, ge88_0⟩ := k55_openM hM88; have hx88_0 : wr.cell? ⟨go88, (x12_4 : Int).toNat * 3, none⟩ = some (ve88_0) := hcc88 0 _ rfl; have hx88_1 : wr.cell? ⟨go88, (x12_4 : Int).toNat * 3 + 1, none⟩ = some (.int .i64 ((rd_T55 x5_4 x12_4).f1)) := hcc88 1 _ rfl; have hx88_2 : wr.cell? ⟨go88, (x12_4 : Int).toNat * 3 + 2, none⟩ = some (.int .i64 ((rd_T55 x5_4 x12_4).f2)) := hcc88 2 _ rfl; have hf88_0 : wr.frozen? ⟨go88, (x12_4 : Int).toNat * 3, none⟩ = false := hfr88 0; have hf88_1 : wr.frozen? ⟨go88, (x12_4 : Int).toNat * 3 + 1, none⟩ = false := hfr88 1; have hf88_2 : wr.frozen? ⟨go88, (x12_4 : Int).toNat * 3 + 2, none⟩ = false := hfr88 2; clear hcl88 hcc88 hfr88 hM88; replace p88 := eq_true p88; replace q88 := eq_true q88; have HX94 := Aside0.mk (show Kd.S k55 55 wr w.heap.size (fun k_ => ((fun k_ => some k_ ≠ (.slice (some ad165) t150.length co92 : Value).ownBlock ∧ some k_ ≠ (.slice (some ad167) x9_3.length co93 : Value).ownBlock)) k_ ∧ ¬ ((fun _ => False)) k_) (.slice (some ⟨go88, 0, none⟩) x5_4.length co73) x5_4 from (by (with_reducible repeat (first | apply Kd.S_alloc | apply Kd.S_drewN | apply Kd.S_drew)); exact Kd.S_mono HO_5.out (fun k_ hk => ⟨⟨hk.1, hk.2⟩, fun e_ => e_⟩))); obtain ⟨oki94, ce94, hcl94, hM94, hcc94, hfr94, hoki94, hH94⟩ := Kd.S_elem HX94.out z55 (x12_4 : Int) (of_decide_eq_true (by first | (with_reducible assumption) | assumption)) (by have h_ : (x12_4 : Int) < ((x5_4.length : Int) : Int) := of_decide_eq_true (by first | (with_reducible assumption) | assumption); first | exact h_ | (have e_ := (Kd.S_reads' HO_5.out).1; omega) | simpa using h_); obtain ⟨ve94_0, rfl, ge94_0⟩ := k55_openM hM94; have HP94 := Kd.S_seg hH94 (of_decide_eq_true (by first | (with_reducible assumption) | assumption)) (by have h_ : (x12_4 : Int) < ((x5_4.length : Int) : Int) := of_decide_eq_true (by first | (with_reducible assumption) | assumption); first | exact h_ | (have e_ := (Kd.S_reads' HO_5.out).1; omega) | simpa using h_) (seg := [.int .i64 (rd x9_3 (rd t150 (rd ((rd_T55 x5_4 x12_4).f0) (ji76))))]) (j := 1) (show 2 ≤ 3 from by decide) (x' := (⟨(rd_T55 x5_4 x12_4).f0, rd x9_3 (rd t150 (rd ((rd_T55 x5_4 x12_4).f0) (ji76))), (rd_T55 x5_4 x12_4).f2⟩ : S55)) (k55_mkM _ _ _ (⟨(rd_T55 x5_4 x12_4).f0, rd x9_3 (rd t150 (rd ((rd_T55 x5_4 x12_4).f0) (ji76))), (rd_T55 x5_4 x12_4).f2⟩ : S55) (Kd.R_mono ge94_0 (fun _ h_ => Or.inl h_))) (fun _ hk => hk) (fun k_ hk_ => hk_.elim); have hx94_1 := hcc94 1 _ rfl; (try simp only [show (k55).sz = 3 from rfl, Nat.mul_one, Nat.add_zero] at hx94_1); have hf94_1 := hfr94 1; (try simp only [show (k55).sz = 3 from rfl, Nat.mul_one, Nat.add_zero] at hf94_1); clear hcl94 hcc94 hfr94 hM94 hoki94 hH94)); try go_wp2_with (first | (go_at_call 19; (with_reducible refine (selvedgeref14_Initiator.calls (rd l0 (rd ((rd_T55 x5_4 x12_4).f0) (ji76))) true _ A81.out).mono ?_); rintro e w' ⟨rfl, ⟨nd, rfl⟩⟩; (try first | exact ⟨rfl, _, World.drewN_drewN _ _ _⟩ | exact ⟨rfl, _, Eq.trans (World.drewN_drewN _ _ _) (congrArg (World.drewN _) (Nat.add_assoc _ _ _))⟩); obtain ⟨Ao92, co92, eo92⟩ := Kd.R_slice HO_8.out; subst eo92; obtain ⟨ad165, e165, hx165_0, p165, q165⟩ := atI (Kd.R_reads' HO_8.out).2.2 (rd ((rd_T55 x5_4 x12_4).f0) (ji76)); cases e165; obtain ⟨ad166, e166, hx166_0, p166, q166⟩ := atI (Kd.R_reads' HO_8.out).2.2 (rd ((rd_T55 x5_4 x12_4).f0) (ji76)); obtain rfl : ad165 = ad166 := (by injection e166); obtain ⟨Ao93, co93, eo93⟩ := Kd.R_slice HO_9.out; subst eo93; obtain ⟨ad167, e167, hx167_0, p167, q167⟩ := atI (Kd.R_reads' HO_9.out).2.2 (rd t150 (rd ((rd_T55 x5_4 x12_4).f0) (ji76))); cases e167; obtain ⟨ad168, e168, hx168_0, p168, q168⟩ := atI (Kd.R_reads' HO_8.out).2.2 (rd ((rd_T55 x5_4 x12_4).f0) (ji76)); obtain rfl : ad165 = ad168 := (by injection e168); obtain ⟨ad169, e169, hx169_0, p169, q169⟩ := atI (Kd.R_reads' HO_9.out).2.2 (rd t150 (rd ((rd_T55 x5_4 x12_4).f0) (ji76))); obtain rfl : ad167 = ad169 := (by injection e169); have p88 := dT (0 ≤ (x12_4 : Int)); have q88 : (x12_4 : Int) < ((x5_4.length : Int) : Int) := of_decide_eq_true (by first | (with_reducible assumption) | assumption); obtain ⟨go88, co88, eo88, gb88, gl88, cl88, HG88⟩ := Kd.S_form HO_5.out (by omega); (first | cases eo88 | (injection eo88 with ea_ en_ ec_; (first | subst ea_ | (injection ea_ with ea_; subst ea_)); subst ec_; clear en_)); have GB88 := Aside0.mk gb88; have GG88 := Aside0.mk HG88; clear gb88 gl88 HG88; (first | simp only [add_plain] at hx160_0 | skip); (first | simp only [add_plain] at hx160_1 | skip); (first | simp only [add_plain] at hx160_2 | skip); (first | simp only [add_plain] at hx161_0 | skip); (first | simp only [add_plain] at hx161_1 | skip); (first | simp only [add_plain] at hx161_2 | skip); obtain ⟨_, ce88, hcl88, hM88, hcc88, hfr88, _, _⟩ := Kd.S_elem HO_5.out z55 (x12_4 : Int) p88 q88; obtain ⟨ve88_0, rfl, ge88_0⟩ := k55_openM hM88; have hx88_0 : wr.cell? ⟨go88, (x12_4 : Int).toNat * 3, none⟩ = some (ve88_0) := hcc88 0 _ rfl; have hx88_1 : wr.cell? ⟨go88, (x12_4 : Int).toNat * 3 + 1, none⟩ = some (.int .i64 ((rd_T55 x5_4 x12_4).f1)) := hcc88 1 _ rfl; have hx88_2 : wr.cell? ⟨go88, (x12_4 : Int).toNat * 3 + 2, none⟩ = some (.int .i64 ((rd_T55 x5_4 x12_4).f2)) := hcc88 2 _ rfl; have hf88_0 : wr.frozen? ⟨go88, (x12_4 : Int).toNat * 3, none⟩ = false := hfr88 0; have hf88_1 : wr.frozen? ⟨go88, (x12_4 : Int).toNat * 3 + 1, none⟩ = false := hfr88 1; have hf88_2 : wr.frozen? ⟨go88, (x12_4 : Int).toNat * 3 + 2, none⟩ = false := hfr88 2; clear hcl88 hcc88 hfr88 hM88; replace p88 := eq_true p88; replace q88 := eq_true q88; have HX94 := Aside0.mk (show Kd.S k55 55 wr w.heap.size (fun k_ => ((fun k_ => some k_ ≠ (.slice (some ad165) t150.length co92 : Value).ownBlock ∧ some k_ ≠ (.slice (some ad167) x9_3.length co93 : Value).ownBlock)) k_ ∧ ¬ ((fun _ => False)) k_) (.slice (some ⟨go88, 0, none⟩) x5_4.length co73) x5_4 from (by (with_reducible repeat (first | apply Kd.S_alloc | apply Kd.S_drewN | apply Kd.S_drew)); exact Kd.S_mono HO_5.out (fun k_ hk => ⟨⟨hk.1, hk.2⟩, fun e_ => e_⟩))); obtain ⟨oki94, ce94, hcl94, hM94, hcc94, hfr94, hoki94, hH94⟩ := Kd.S_elem HX94.out z55 (x12_4 : Int) (of_decide_eq_true (by first | (with_reducible assumption) | assumption)) (by have h_ : (x12_4 : Int) < ((x5_4.length : Int) : Int) := of_decide_eq_true (by first | (with_reducible assumption) | assumption); first | exact h_ | (have e_ := (Kd.S_reads' HO_5.out).1; omega) | simpa using h_); obtain ⟨ve94_0, rfl, ge94_0⟩ := k55_openM hM94; have HP94 := Kd.S_seg hH94 (of_decide_eq_true (by first | (with_reducible assumption) | assumption)) (by have h_ : (x12_4 : Int) < ((x5_4.length : Int) : Int) := of_decide_eq_true (by first | (with_reducible assumption) | assumption); first | exact h_ | (have e_ := (Kd.S_reads' HO_5.out).1; omega) | simpa using h_) (seg := [.int .i64 (rd x9_3 (rd t150 (rd ((rd_T55 x5_4 x12_4).f0) (ji76))))]) (j := 1) (show 2 ≤ 3 from by decide) (x' := (⟨(rd_T55 x5_4 x12_4).f0, rd x9_3 (rd t150 (rd ((rd_T55 x5_4 x12_4).f0) (ji76))), (rd_T55 x5_4 x12_4).f2⟩ : S55)) (k55_mkM _ _ _ (⟨(rd_T55 x5_4 x12_4).f0, rd x9_3 (rd t150 (rd ((rd_T55 x5_4 x12_4).f0) (ji76))), (rd_T55 x5_4 x12_4).f2⟩ : S55) (Kd.R_mono ge94_0 (fun _ h_ => Or.inl h_))) (fun _ hk => hk) (fun k_ hk_ => hk_.elim); have hx94_1 := hcc94 1 _ rfl; (try simp only [show (k55).sz = 3 from rfl, Nat.mul_one, Nat.add_zero] at hx94_1); have hf94_1 := hfr94 1; (try simp only [show (k55).sz = 3 from rfl, Nat.mul_one, Nat.add_zero] at hf94_1); clear hcl94 hcc94 hfr94 hM94 hoki94 hH94) | ((with_reducible refine gate_store (t := 3) (p := 151) rfl ?_); (try (rw [drewN_self wr]; generalize hq_ : World.drewN wr _ = wr; have n0_ := Aside0.mk (Kd.S_at hq_ HO_5.out); have n1_ := Aside0.mk (Kd.R_at hq_ HO_8.out); have n2_ := Aside0.mk (Kd.R_at hq_ HO_9.out); have n3_ := Aside0.mk (Kd.R_at hq_ HL160_0.out); have n4_ := Aside0.mk (Kd.R_at hq_ HL161_0.out); have n5_ := Aside0.mk (below_at hq_ HB.out); clear hq_ HO_5 HO_8 HO_9 HL160_0 HL161_0 HB; have HO_5 := n0_; have HO_8 := n1_; have HO_9 := n2_; have HL160_0 := n3_; have HL161_0 := n4_; have HB := n5_; clear n0_ n1_ n2_ n3_ n4_ n5_; (try (have HX94 := Aside0.mk (show Kd.S k55 55 wr w.heap.size (fun k_ => ((fun k_ => some k_ ≠ (.slice (some ad165) t150.length co92 : Value).ownBlock ∧ some k_ ≠ (.slice (some ad167) x9_3.length co93 : Value).ownBlock)) k_ ∧ ¬ ((fun _ => False)) k_) (.slice (some ⟨go88, 0, none⟩) x5_4.length co73) x5_4 from (by (with_reducible repeat (first | apply Kd.S_alloc | apply Kd.S_drewN | apply Kd.S_drew)); exact Kd.S_mono HO_5.out (fun k_ hk => ⟨⟨hk.1, hk.2⟩, fun e_ => e_⟩))))); (try (obtain ⟨oki94, ce94, hcl94, hM94, hcc94, hfr94, hoki94, hH94⟩ := Kd.S_elem HX94.out z55 (x12_4 : Int) (of_decide_eq_true (by first | (with_reducible assumption) | assumption)) (by have h_ : (x12_4 : Int) < ((x5_4.length : Int) : Int) := of_decide_eq_true (by first | (with_reducible assumption) | assumption); first | exact h_ | (have e_ := (Kd.S_reads' HO_5.out).1; omega) | simpa using h_))); (try (obtain ⟨ve94_0, rfl, ge94_0⟩ := k55_openM hM94)); (try (have HP94 := Kd.S_seg hH94 (of_decide_eq_true (by first | (with_reducible assumption) | assumption)) (by have h_ : (x12_4 : Int) < ((x5_4.length : Int) : Int) := of_decide_eq_true (by first | (with_reducible assumption) | assumption); first | exact h_ | (have e_ := (Kd.S_reads' HO_5.out).1; omega) | simpa using h_) (seg := [.int .i64 (rd x9_3 (rd t150 (rd ((rd_T55 x5_4 x12_4).f0) (ji76))))]) (j := 1) (show 2 ≤ 3 from by decide) (x' := (⟨(rd_T55 x5_4 x12_4).f0, rd x9_3 (rd t150 (rd ((rd_T55 x5_4 x12_4).f0) (ji76))), (rd_T55 x5_4 x12_4).f2⟩ : S55)) (k55_mkM _ _ _ (⟨(rd_T55 x5_4 x12_4).f0, rd x9_3 (rd t150 (rd ((rd_T55 x5_4 x12_4).f0) (ji76))), (rd_T55 x5_4 x12_4).f2⟩ : S55) (Kd.R_mono ge94_0 (fun _ h_ => Or.inl h_))) (fun _ hk => hk) (fun k_ hk_ => hk_.elim))); (try (have hx94_1 := hcc94 1 _ rfl)); (try (try simp only [show (k55).sz = 3 from rfl, Nat.mul_one, Nat.add_zero] at hx94_1)); (try (have hf94_1 := hfr94 1)); (try (try simp only [show (k55).sz = 3 from rfl, Nat.mul_one, Nat.add_zero] at hf94_1)); (try (clear hcl94 hcc94 hfr94 hM94 hoki94 hH94)))); refine store_event (t := 3) (p := 151) (v := ?vo_w95) (w1 := (wr.setCell ⟨go88, (x12_4 : Int).toNat * 3 + 1, none⟩ (.int .i64 (rd x9_3 (rd t150 (rd ((rd_T55 x5_4 x12_4).f0) (ji76))))))) ?hg ?ho ?hn ?hr ?_; (case ho => rfl); (case hg => rfl); (case hn => rfl); (case hr => first | (go_simp; done) | (go_simp; rfl)); intro w95 hw; have hg : wr.grownBy w95 (some go88) := (by rw [hw]; exact HP94.2); have hp_ : Kd.S k55 55 w95 w.heap.size (fun k_ => some k_ ≠ (.slice (some ad165) t150.length co92 : Value).ownBlock ∧ some k_ ≠ (.slice (some ad167) x9_3.length co93 : Value).ownBlock) (.slice (some ⟨go88, 0, none⟩) x5_4.length co73) y170 := (by rw [hw, Ny170.out]; exact HP94.1); clear HP94; have n0_ := Aside0.mk (hp_); have n1_ := Aside0.mk (Kd.R_over' (v := (.slice (some ⟨go88, 0, none⟩) x5_4.length co73)) (mvR HO_8) (Kd.S_typed HO_5.out) (by decide) hg); have n2_ := Aside0.mk (Kd.R_over' (v := (.slice (some ⟨go88, 0, none⟩) x5_4.length co73)) (mvR HO_9) (Kd.S_typed HO_5.out) (by decide) hg); have n3_ := Aside0.mk (Kd.R_after (v := (.slice (some ⟨go88, 0, none⟩) x5_4.length co73)) (v1 := (.slice (some ⟨go88, 0, none⟩) x5_4.length co73)) (ok := (fun k_ => some k_ ≠ (.slice (some ad165) t150.length co92 : Value).ownBlock ∧ some k_ ≠ (.slice (some ad167) x9_3.length co93 : Value).ownBlock)) (mvR HL160_0) hg (.inl rfl)); have n4_ := Aside0.mk (Kd.R_after (v := (.slice (some ⟨go88, 0, none⟩) x5_4.length co73)) (v1 := (.slice (some ⟨go88, 0, none⟩) x5_4.length co73)) (ok := (fun k_ => some k_ ≠ (.slice (some ad165) t150.length co92 : Value).ownBlock ∧ some k_ ≠ (.slice (some ad167) x9_3.length co93 : Value).ownBlock)) (mvR HL161_0) hg (.inl rfl)); have n5_ := Aside0.mk ((by rw [hw]; exact below_set (HB.out) GB88.out : Below w.heap.size w w95)); clear HO_5; clear HO_8; clear HO_9; clear HL160_0; clear HL161_0; clear HB; have HO_5 := n0_; have HO_8 := n1_; have HO_9 := n2_; have HL160_0 := n3_; have HL161_0 := n4_; have HB := n5_; clear n0_ n1_ n2_ n3_ n4_ n5_; clear hg hw hp_; have p91 := dT (0 ≤ ((rd x9_3 (rd t150 (rd ((rd_T55 x5_4 x12_4).f0) (ji76)))) : Int)); have q91 : ((rd x9_3 (rd t150 (rd ((rd_T55 x5_4 x12_4).f0) (ji76)))) : Int) < ((x5_4.length : Int) : Int) := of_decide_eq_true (by first | (with_reducible assumption) | assumption); obtain ⟨_, ce91, hcl91, hM91, hcc91, hfr91, _, _⟩ := Kd.S_elem HO_5.out z55 ((rd x9_3 (rd t150 (rd ((rd_T55 x5_4 x12_4).f0) (ji76)))) : Int) p91 q91; obtain ⟨ve91_0, rfl, ge91_0⟩ := k55_openM hM91; have hx91_0 : w95.cell? ⟨go88, ((rd x9_3 (rd t150 (rd ((rd_T55 x5_4 x12_4).f0) (ji76)))) : Int).toNat * 3, none⟩ = some (ve91_0) := hcc91 0 _ rfl; have hx91_1 : w95.cell? ⟨go88, ((rd x9_3 (rd t150 (rd ((rd_T55 x5_4 x12_4).f0) (ji76)))) : Int).toNat * 3 + 1, none⟩ = some (.int .i64 ((rd_T55 y170 (rd x9_3 (rd t150 (rd ((rd_T55 x5_4 x12_4).f0) (ji76))))).f1)) := hcc91 1 _ rfl; have hx91_2 : w95.cell? ⟨go88, ((rd x9_3 (rd t150 (rd ((rd_T55 x5_4 x12_4).f0) (ji76)))) : Int).toNat * 3 + 2, none⟩ = some (.int .i64 ((rd_T55 y170 (rd x9_3 (rd t150 (rd ((rd_T55 x5_4 x12_4).f0) (ji76))))).f2)) := hcc91 2 _ rfl; have hf91_0 : w95.frozen? ⟨go88, ((rd x9_3 (rd t150 (rd ((rd_T55 x5_4 x12_4).f0) (ji76)))) : Int).toNat * 3, none⟩ = false := hfr91 0; have hf91_1 : w95.frozen? ⟨go88, ((rd x9_3 (rd t150 (rd ((rd_T55 x5_4 x12_4).f0) (ji76)))) : Int).toNat * 3 + 1, none⟩ = false := hfr91 1; have hf91_2 : w95.frozen? ⟨go88, ((rd x9_3 (rd t150 (rd ((rd_T55 x5_4 x12_4).f0) (ji76)))) : Int).toNat * 3 + 2, none⟩ = false := hfr91 2; clear hcl91 hcc91 hfr91 hM91; replace p91 := eq_true p91; replace q91 := eq_true q91; have HX96 := Aside0.mk (show Kd.S k55 55 w95 w.heap.size (fun k_ => ((fun k_ => some k_ ≠ (.slice (some ad165) t150.length co92 : Value).ownBlock ∧ some k_ ≠ (.slice (some ad167) x9_3.length co93 : Value).ownBlock)) k_ ∧ ¬ ((fun _ => False)) k_) (.slice (some ⟨go88, 0, none⟩) x5_4.length co73) y170 from (by (with_reducible repeat (first | apply Kd.S_alloc | apply Kd.S_drewN | apply Kd.S_drew)); exact Kd.S_mono HO_5.out (fun k_ hk => ⟨⟨hk.1, hk.2⟩, fun e_ => e_⟩))); obtain ⟨oki96, ce96, hcl96, hM96, hcc96, hfr96, hoki96, hH96⟩ := Kd.S_elem HX96.out z55 ((rd x9_3 (rd t150 (rd ((rd_T55 x5_4 x12_4).f0) (ji76)))) : Int) (of_decide_eq_true (by first | (with_reducible assumption) | assumption)) (by have h_ : ((rd x9_3 (rd t150 (rd ((rd_T55 x5_4 x12_4).f0) (ji76)))) : Int) < ((x5_4.length : Int) : Int) := of_decide_eq_true (by first | (with_reducible assumption) | assumption); first | exact h_ | (have e_ := (Kd.S_reads' HO_5.out).1; omega) | simpa using h_); obtain ⟨ve96_0, rfl, ge96_0⟩ := k55_openM hM96; have HP96 := Kd.S_seg hH96 (of_decide_eq_true (by first | (with_reducible assumption) | assumption)) (by have h_ : ((rd x9_3 (rd t150 (rd ((rd_T55 x5_4 x12_4).f0) (ji76)))) : Int) < ((x5_4.length : Int) : Int) := of_decide_eq_true (by first | (with_reducible assumption) | assumption); first | exact h_ | (have e_ := (Kd.S_reads' HO_5.out).1; omega) | simpa using h_) (seg := [.int .i64 x12_4]) (j := 2) (show 3 ≤ 3 from by decide) (x' := (⟨(rd_T55 y170 (rd x9_3 (rd t150 (rd ((rd_T55 x5_4 x12_4).f0) (ji76))))).f0, (rd_T55 y170 (rd x9_3 (rd t150 (rd ((rd_T55 x5_4 x12_4).f0) (ji76))))).f1, x12_4⟩ : S55)) (k55_mkM _ _ _ (⟨(rd_T55 y170 (rd x9_3 (rd t150 (rd ((rd_T55 x5_4 x12_4).f0) (ji76))))).f0, (rd_T55 y170 (rd x9_3 (rd t150 (rd ((rd_T55 x5_4 x12_4).f0) (ji76))))).f1, x12_4⟩ : S55) (Kd.R_mono ge96_0 (fun _ h_ => Or.inl h_))) (fun _ hk => hk) (fun k_ hk_ => hk_.elim); have hx96_2 := hcc96 2 _ rfl; (try simp only [show (k55).sz = 3 from rfl, Nat.mul_one, Nat.add_zero] at hx96_2); have hf96_2 := hfr96 2; (try simp only [show (k55).sz = 3 from rfl, Nat.mul_one, Nat.add_zero] at hf96_2); clear hcl96 hcc96 hfr96 hM96 hoki96 hH96) | ((with_reducible refine gate_store (t := 3) (p := 156) rfl ?_); (try (rw [drewN_self w95]; generalize hq_ : World.drewN w95 _ = w95; have n0_ := Aside0.mk (Kd.S_at hq_ HO_5.out); have n1_ := Aside0.mk (Kd.R_at hq_ HO_8.out); have n2_ := Aside0.mk (Kd.R_at hq_ HO_9.out); have n3_ := Aside0.mk (Kd.R_at hq_ HL160_0.out); have n4_ := Aside0.mk (Kd.R_at hq_ HL161_0.out); have n5_ := Aside0.mk (below_at hq_ HB.out); clear hq_ HO_5 HO_8 HO_9 HL160_0 HL161_0 HB; have HO_5 := n0_; have HO_8 := n1_; have HO_9 := n2_; have HL160_0 := n3_; have HL161_0 := n4_; have HB := n5_; clear n0_ n1_ n2_ n3_ n4_ n5_; (try (have HX96 := Aside0.mk (show Kd.S k55 55 w95 w.heap.size (fun k_ => ((fun k_ => some k_ ≠ (.slice (some ad165) t150.length co92 : Value).ownBlock ∧ some k_ ≠ (.slice (some ad167) x9_3.length co93 : Value).ownBlock)) k_ ∧ ¬ ((fun _ => False)) k_) (.slice (some ⟨go88, 0, none⟩) x5_4.length co73) y170 from (by (with_reducible repeat (first | apply Kd.S_alloc | apply Kd.S_drewN | apply Kd.S_drew)); exact Kd.S_mono HO_5.out (fun k_ hk => ⟨⟨hk.1, hk.2⟩, fun e_ => e_⟩))))); (try (obtain ⟨oki96, ce96, hcl96, hM96, hcc96, hfr96, hoki96, hH96⟩ := Kd.S_elem HX96.out z55 ((rd x9_3 (rd t150 (rd ((rd_T55 x5_4 x12_4).f0) (ji76)))) : Int) (of_decide_eq_true (by first | (with_reducible assumption) | assumption)) (by have h_ : ((rd x9_3 (rd t150 (rd ((rd_T55 x5_4 x12_4).f0) (ji76)))) : Int) < ((x5_4.length : Int) : Int) := of_decide_eq_true (by first | (with_reducible assumption) | assumption); first | exact h_ | (have e_ := (Kd.S_reads' HO_5.out).1; omega) | simpa using h_))); (try (obtain ⟨ve96_0, rfl, ge96_0⟩ := k55_openM hM96)); (try (have HP96 := Kd.S_seg hH96 (of_decide_eq_true (by first | (with_reducible assumption) | assumption)) (by have h_ : ((rd x9_3 (rd t150 (rd ((rd_T55 x5_4 x12_4).f0) (ji76)))) : Int) < ((x5_4.length : Int) : Int) := of_decide_eq_true (by first | (with_reducible assumption) | assumption); first | exact h_ | (have e_ := (Kd.S_reads' HO_5.out).1; omega) | simpa using h_) (seg := [.int .i64 x12_4]) (j := 2) (show 3 ≤ 3 from by decide) (x' := (⟨(rd_T55 y170 (rd x9_3 (rd t150 (rd ((rd_T55 x5_4 x12_4).f0) (ji76))))).f0, (rd_T55 y170 (rd x9_3 (rd t150 (rd ((rd_T55 x5_4 x12_4).f0) (ji76))))).f1, x12_4⟩ : S55)) (k55_mkM _ _ _ (⟨(rd_T55 y170 (rd x9_3 (rd t150 (rd ((rd_T55 x5_4 x12_4).f0) (ji76))))).f0, (rd_T55 y170 (rd x9_3 (rd t150 (rd ((rd_T55 x5_4 x12_4).f0) (ji76))))).f1, x12_4⟩ : S55) (Kd.R_mono ge96_0 (fun _ h_ => Or.inl h_))) (fun _ hk => hk) (fun k_ hk_ => hk_.elim))); (try (have hx96_2 := hcc96 2 _ rfl)); (try (try simp only [show (k55).sz = 3 from rfl, Nat.mul_one, Nat.add_zero] at hx96_2)); (try (have hf96_2 := hfr96 2)); (try (try simp only [show (k55).sz = 3 from rfl, Nat.mul_one, Nat.add_zero] at hf96_2)); (try (clear hcl96 hcc96 hfr96 hM96 hoki96 hH96)))); refine store_event (t := 3) (p := 156) (v := ?vo_w97) (w1 := (w95.setCell ⟨go88, ((rd x9_3 (rd t150 (rd ((rd_T55 x5_4 x12_4).f0) (ji76)))) : Int).toNat * 3 + 2, none⟩ (.int .i64 x12_4))) ?hg ?ho ?hn ?hr ?_; (case ho => rfl); (case hg => rfl); (case hn => rfl); (case hr => first | (go_simp; done) | (go_simp; rfl)); intro w97 hw; have hg : w95.grownBy w97 (some go88) := (by rw [hw]; exact HP96.2); have hp_ : Kd.S k55 55 w97 w.heap.size (fun k_ => some k_ ≠ (.slice (some ad165) t150.length co92 : Value).ownBlock ∧ some k_ ≠ (.slice (some ad167) x9_3.length co93 : Value).ownBlock) (.slice (some ⟨go88, 0, none⟩) x5_4.length co73) y171 := (by rw [hw, Ny171.out]; exact HP96.1); clear HP96; have n0_ := Aside0.mk (hp_); have n1_ := Aside0.mk (Kd.R_over' (v := (.slice (some ⟨go88, 0, none⟩) x5_4.length co73)) (mvR HO_8) (Kd.S_typed HO_5.out) (by decide) hg); have n2_ := Aside0.mk (Kd.R_over' (v := (.slice (some ⟨go88, 0, none⟩) x5_4.length co73)) (mvR HO_9) (Kd.S_typed HO_5.out) (by decide) hg); have n3_ := Aside0.mk (Kd.R_after (v := (.slice (some ⟨go88, 0, none⟩) x5_4.length co73)) (v1 := (.slice (some ⟨go88, 0, none⟩) x5_4.length co73)) (ok := (fun k_ => some k_ ≠ (.slice (some ad165) t150.length co92 : Value).ownBlock ∧ some k_ ≠ (.slice (some ad167) x9_3.length co93 : Value).ownBlock)) (mvR HL160_0) hg (.inl rfl)); have n4_ := Aside0.mk (Kd.R_after (v := (.slice (some ⟨go88, 0, none⟩) x5_4.length co73)) (v1 := (.slice (some ⟨go88, 0, none⟩) x5_4.length co73)) (ok := (fun k_ => some k_ ≠ (.slice (some ad165) t150.length co92 : Value).ownBlock ∧ some k_ ≠ (.slice (some ad167) x9_3.length co93 : Value).ownBlock)) (mvR HL161_0) hg (.inl rfl)); have n5_ := Aside0.mk ((by rw [hw]; exact below_set (HB.out) GB88.out : Below w.heap.size w w97)); clear HO_5; clear HO_8; clear HO_9; clear HL160_0; clear HL161_0; clear HB; have HO_5 := n0_; have HO_8 := n1_; have HO_9 := n2_; have HL160_0 := n3_; have HL161_0 := n4_; have HB := n5_; clear n0_ n1_ n2_ n3_ n4_ n5_; clear hg hw hp_)))
                            (try simp only [← hl5_4])
                            go_roundg k4
                            case measure => have := HK1.out; have := HK2.out; have := HK3.out; have := HK4.out; omega
                            case rel => exact ⟨(y171), (wrap64 (x12_4 + 1)), (by first | rfl | (simp; done) | (simp [*]; done)), H', ⟨by have := HK1.out; have := HK2.out; have := HK3.out; have := HK4.out; omega⟩, ⟨by (try simp only [hl5_4]); (with_reducible repeat (first | apply Kd.S_alloc | apply Kd.S_drewN | apply Kd.S_drew)); exact HO_5.out⟩, ⟨by (try simp only [hl5_4]); (with_reducible repeat (first | apply Kd.R_alloc | apply Kd.R_drewN | apply Kd.R_drew)); exact HO_8.out⟩, ⟨by (try simp only [hl5_4]); (with_reducible repeat (first | apply Kd.R_alloc | apply Kd.R_drewN | apply Kd.R_drew)); exact HO_9.out⟩, ⟨mvB HB⟩⟩
                           ·rw [if_neg c90] at H
                            exact absurd H (by simp)
                          ·rw [if_neg c89] at H
                           exact absurd H (by simp)
                         ·rw [if_neg c87] at H
                          have c87b0 : decide (0 ≤ (rd x9_3 (rd t150 (rd ((rd_T55 x5_4 x12_4).f0) (ji76))))) = false := decide_eq_false c87
                          clear c87
                          have H' := Aside0.mk H
                          clear H
                          have p160 := dT (0 ≤ (x12_4 : Int))
                          have q160 := dT (x12_4 < (x5_4.length : Int))
                          obtain ⟨ad160, A160_0, c160_0, e160, hx160_0, hx160_1, hx160_2, hl160_0, hi160_0⟩ := at_T55 (Kd.S_reads' HO_5.out).2.2 x12_4 p160 q160
                          cases e160
                          obtain ⟨ce160, hce160, hMe160, hcc160⟩ := Kd.S_get HO_5.out z55 x12_4 p160 (by first | exact q160 | exact of_decide_eq_true (by first | (with_reducible assumption) | assumption) | (have e_ := (Kd.S_reads' HO_5.out).1; omega))
                          obtain ⟨ve160_0, rfl, ge160_0⟩ := k55_openM hMe160
                          have hv160_0 := hcc160 0 _ rfl
                          rw [Nat.add_zero] at hv160_0
                          replace hv160_0 := Option.some.inj (hv160_0.symm.trans hx160_0)
                          rw [hv160_0] at ge160_0
                          have HL160_0 := Aside0.mk (show Kd.R (Kd.int .i64) 3 _ _ _ _ ((rd_T55 x5_4 x12_4).f0) from ge160_0)
                          clear hv160_0 ge160_0
                          have HX160_0 := Aside0.mk hx160_0
                          clear hcc160 hce160
                          have HR160_0 := Aside0.mk hi160_0
                          have HC160_0 := Aside0.mk hl160_0
                          clear hi160_0 hl160_0
                          replace p160 := eq_true p160
                          replace q160 := eq_true q160
                          have p161 := dT (0 ≤ (x12_4 : Int))
                          have q161 := dT (x12_4 < (x5_4.length : Int))
                          obtain ⟨ad161, A161_0, c161_0, e161, hx161_0, hx161_1, hx161_2, hl161_0, hi161_0⟩ := at_T55 (Kd.S_reads' HO_5.out).2.2 x12_4 p161 q161
                          obtain rfl : ad160 = ad161 := (by injection e161)
                          obtain ⟨ce161, hce161, hMe161, hcc161⟩ := Kd.S_get HO_5.out z55 x12_4 p161 (by first | exact q161 | exact of_decide_eq_true (by first | (with_reducible assumption) | assumption) | (have e_ := (Kd.S_reads' HO_5.out).1; omega))
                          obtain ⟨ve161_0, rfl, ge161_0⟩ := k55_openM hMe161
                          have hv161_0 := hcc161 0 _ rfl
                          rw [Nat.add_zero] at hv161_0
                          replace hv161_0 := Option.some.inj (hv161_0.symm.trans hx161_0)
                          rw [hv161_0] at ge161_0
                          have HL161_0 := Aside0.mk (show Kd.R (Kd.int .i64) 3 _ _ _ _ ((rd_T55 x5_4 x12_4).f0) from ge161_0)
                          clear hv161_0 ge161_0
                          have HX161_0 := Aside0.mk hx161_0
                          clear hcc161 hce161
                          have HR161_0 := Aside0.mk hi161_0
                          have HC161_0 := Aside0.mk hl161_0
                          clear hi161_0 hl161_0
                          replace p161 := eq_true p161
                          replace q161 := eq_true q161
                          have ea_ := Option.some.inj (hx160_0.symm.trans hx161_0)
                          injection ea_ with ea_ en_ ec_
                          subst ea_
                          subst ec_
                          clear en_
                          obtain ⟨ad162, e162, hx162_0, p162, q162⟩ := atI (by repeat (first | (with_reducible exact HR160_0.out) | (with_reducible refine Kd.C_alloc ?_ _) | (with_reducible refine Kd.C_drewN ?_ _) | (with_reducible refine Kd.C_drew ?_) | exact HR160_0.out)) (ji76)
                          cases e162
                          obtain ⟨ad163, e163, hx163_0, p163, q163⟩ := atI HR0.out (rd ((rd_T55 x5_4 x12_4).f0) (ji76))
                          cases e163
                          replace hx163_0 := (HB.out.cell (World.block_lt_of_cell? w _ hx163_0)).trans hx163_0
                          go_wp2_with (first | (go_at_call 19; (with_reducible refine (selvedgeref14_Initiator.calls (rd l0 (rd ((rd_T55 x5_4 x12_4).f0) (ji76))) true _ A81.out).mono ?_); rintro e w' ⟨rfl, ⟨nd, rfl⟩⟩; (try first | exact ⟨rfl, _, World.drewN_drewN _ _ _⟩ | exact ⟨rfl, _, Eq.trans (World.drewN_drewN _ _ _) (congrArg (World.drewN _) (Nat.add_assoc _ _ _))⟩); obtain ⟨Ao98, co98, eo98⟩ := Kd.R_slice HO_8.out; subst eo98; obtain ⟨ad165, e165, hx165_0, p165, q165⟩ := atI (Kd.R_reads' HO_8.out).2.2 (rd ((rd_T55 x5_4 x12_4).f0) (ji76)); cases e165; obtain ⟨ad166, e166, hx166_0, p166, q166⟩ := atI (Kd.R_reads' HO_8.out).2.2 (rd ((rd_T55 x5_4 x12_4).f0) (ji76)); obtain rfl : ad165 = ad166 := (by injection e166); obtain ⟨Ao99, co99, eo99⟩ := Kd.R_slice HO_9.out; subst eo99; obtain ⟨ad167, e167, hx167_0, p167, q167⟩ := atI (Kd.R_reads' HO_9.out).2.2 (rd t150 (rd ((rd_T55 x5_4 x12_4).f0) (ji76))); cases e167))
                          repeat (go_quiet (first | (go_at_call 19; (with_reducible refine (selvedgeref14_Initiator.calls (rd l0 (rd ((rd_T55 x5_4 x12_4).f0) (ji76))) true _ A81.out).mono ?_); rintro e w' ⟨rfl, ⟨nd, rfl⟩⟩; (try first | exact ⟨rfl, _, World.drewN_drewN _ _ _⟩ | exact ⟨rfl, _, Eq.trans (World.drewN_drewN _ _ _) (congrArg (World.drewN _) (Nat.add_assoc _ _ _))⟩); obtain ⟨Ao98, co98, eo98⟩ := Kd.R_slice HO_8.out; subst eo98; obtain ⟨ad165, e165, hx165_0, p165, q165⟩ := atI (Kd.R_reads' HO_8.out).2.2 (rd ((rd_T55 x5_4 x12_4).f0) (ji76)); cases e165; obtain ⟨ad166, e166, hx166_0, p166, q166⟩ := atI (Kd.R_reads' HO_8.out).2.2 (rd ((rd_T55 x5_4 x12_4).f0) (ji76)); obtain rfl : ad165 = ad166 := (by injection e166); obtain ⟨Ao99, co99, eo99⟩ := Kd.R_slice HO_9.out; subst eo99; obtain ⟨ad167, e167, hx167_0, p167, q167⟩ := atI (Kd.R_reads' HO_9.out).2.2 (rd t150 (rd ((rd_T55 x5_4 x12_4).f0) (ji76))); cases e167)); try go_wp2_with (first | (go_at_call 19; (with_reducible refine (selvedgeref14_Initiator.calls (rd l0 (rd ((rd_T55 x5_4 x12_4).f0) (ji76))) true _ A81.out).mono ?_); rintro e w' ⟨rfl, ⟨nd, rfl⟩⟩; (try first | exact ⟨rfl, _, World.drewN_drewN _ _ _⟩ | exact ⟨rfl, _, Eq.trans (World.drewN_drewN _ _ _) (congrArg (World.drewN _) (Nat.add_assoc _ _ _))⟩); obtain ⟨Ao98, co98, eo98⟩ := Kd.R_slice HO_8.out; subst eo98; obtain ⟨ad165, e165, hx165_0, p165, q165⟩ := atI (Kd.R_reads' HO_8.out).2.2 (rd ((rd_T55 x5_4 x12_4).f0) (ji76)); cases e165; obtain ⟨ad166, e166, hx166_0, p166, q166⟩ := atI (Kd.R_reads' HO_8.out).2.2 (rd ((rd_T55 x5_4 x12_4).f0) (ji76)); obtain rfl : ad165 = ad166 := (by injection e166); obtain ⟨Ao99, co99, eo99⟩ := Kd.R_slice HO_9.out; subst eo99; obtain ⟨ad167, e167, hx167_0, p167, q167⟩ := atI (Kd.R_reads' HO_9.out).2.2 (rd t150 (rd ((rd_T55 x5_4 x12_4).f0) (ji76))); cases e167)))
                          (try simp only [← hl5_4])
                          go_roundg k4
                          case measure => have := HK1.out; have := HK2.out; have := HK3.out; have := HK4.out; omega
                          case rel => exact ⟨(x5_4), (wrap64 (x12_4 + 1)), (by first | rfl | (simp; done) | (simp [*]; done)), H', ⟨by have := HK1.out; have := HK2.out; have := HK3.out; have := HK4.out; omega⟩, ⟨by (try simp only [hl5_4]); (with_reducible repeat (first | apply Kd.S_alloc | apply Kd.S_drewN | apply Kd.S_drew)); exact HO_5.out⟩, ⟨by (try simp only [hl5_4]); (with_reducible repeat (first | apply Kd.R_alloc | apply Kd.R_drewN | apply Kd.R_drew)); exact HO_8.out⟩, ⟨by (try simp only [hl5_4]); (with_reducible repeat (first | apply Kd.R_alloc | apply Kd.R_drewN | apply Kd.R_drew)); exact HO_9.out⟩, ⟨mvB HB⟩⟩
                        ·rw [if_neg c86] at H
                         exact absurd H (by simp)
                       ·rw [if_neg c85] at H
                        exact absurd H (by simp)
                      ·rw [if_neg c84] at H
                       have c84b0 : decide (0 ≤ (rd t150 (rd ((rd_T55 x5_4 x12_4).f0) (ji76)))) = false := decide_eq_false c84
                       clear c84
                       have H' := Aside0.mk H
                       clear H
                       have p160 := dT (0 ≤ (x12_4 : Int))
                       have q160 := dT (x12_4 < (x5_4.length : Int))
                       obtain ⟨ad160, A160_0, c160_0, e160, hx160_0, hx160_1, hx160_2, hl160_0, hi160_0⟩ := at_T55 (Kd.S_reads' HO_5.out).2.2 x12_4 p160 q160
                       cases e160
                       obtain ⟨ce160, hce160, hMe160, hcc160⟩ := Kd.S_get HO_5.out z55 x12_4 p160 (by first | exact q160 | exact of_decide_eq_true (by first | (with_reducible assumption) | assumption) | (have e_ := (Kd.S_reads' HO_5.out).1; omega))
                       obtain ⟨ve160_0, rfl, ge160_0⟩ := k55_openM hMe160
                       have hv160_0 := hcc160 0 _ rfl
                       rw [Nat.add_zero] at hv160_0
                       replace hv160_0 := Option.some.inj (hv160_0.symm.trans hx160_0)
                       rw [hv160_0] at ge160_0
                       have HL160_0 := Aside0.mk (show Kd.R (Kd.int .i64) 3 _ _ _ _ ((rd_T55 x5_4 x12_4).f0) from ge160_0)
                       clear hv160_0 ge160_0
                       have HX160_0 := Aside0.mk hx160_0
                       clear hcc160 hce160
                       have HR160_0 := Aside0.mk hi160_0
                       have HC160_0 := Aside0.mk hl160_0
                       clear hi160_0 hl160_0
                       replace p160 := eq_true p160
                       replace q160 := eq_true q160
                       have p161 := dT (0 ≤ (x12_4 : Int))
                       have q161 := dT (x12_4 < (x5_4.length : Int))
                       obtain ⟨ad161, A161_0, c161_0, e161, hx161_0, hx161_1, hx161_2, hl161_0, hi161_0⟩ := at_T55 (Kd.S_reads' HO_5.out).2.2 x12_4 p161 q161
                       obtain rfl : ad160 = ad161 := (by injection e161)
                       obtain ⟨ce161, hce161, hMe161, hcc161⟩ := Kd.S_get HO_5.out z55 x12_4 p161 (by first | exact q161 | exact of_decide_eq_true (by first | (with_reducible assumption) | assumption) | (have e_ := (Kd.S_reads' HO_5.out).1; omega))
                       obtain ⟨ve161_0, rfl, ge161_0⟩ := k55_openM hMe161
                       have hv161_0 := hcc161 0 _ rfl
                       rw [Nat.add_zero] at hv161_0
                       replace hv161_0 := Option.some.inj (hv161_0.symm.trans hx161_0)
                       rw [hv161_0] at ge161_0
                       have HL161_0 := Aside0.mk (show Kd.R (Kd.int .i64) 3 _ _ _ _ ((rd_T55 x5_4 x12_4).f0) from ge161_0)
                       clear hv161_0 ge161_0
                       have HX161_0 := Aside0.mk hx161_0
                       clear hcc161 hce161
                       have HR161_0 := Aside0.mk hi161_0
                       have HC161_0 := Aside0.mk hl161_0
                       clear hi161_0 hl161_0
                       replace p161 := eq_true p161
                       replace q161 := eq_true q161
                       have ea_ := Option.some.inj (hx160_0.symm.trans hx161_0)
                       injection ea_ with ea_ en_ ec_
                       subst ea_
                       subst ec_
                       clear en_
                       obtain ⟨ad162, e162, hx162_0, p162, q162⟩ := atI (by repeat (first | (with_reducible exact HR160_0.out) | (with_reducible refine Kd.C_alloc ?_ _) | (with_reducible refine Kd.C_drewN ?_ _) | (with_reducible refine Kd.C_drew ?_) | exact HR160_0.out)) (ji76)
                       cases e162
                       obtain ⟨ad163, e163, hx163_0, p163, q163⟩ := atI HR0.out (rd ((rd_T55 x5_4 x12_4).f0) (ji76))
                       cases e163
                       replace hx163_0 := (HB.out.cell (World.block_lt_of_cell? w _ hx163_0)).trans hx163_0
                       go_wp2_with (first | (go_at_call 19; (with_reducible refine (selvedgeref14_Initiator.calls (rd l0 (rd ((rd_T55 x5_4 x12_4).f0) (ji76))) true _ A81.out).mono ?_); rintro e w' ⟨rfl, ⟨nd, rfl⟩⟩; (try first | exact ⟨rfl, _, World.drewN_drewN _ _ _⟩ | exact ⟨rfl, _, Eq.trans (World.drewN_drewN _ _ _) (congrArg (World.drewN _) (Nat.add_assoc _ _ _))⟩); obtain ⟨Ao100, co100, eo100⟩ := Kd.R_slice HO_8.out; subst eo100; obtain ⟨ad165, e165, hx165_0, p165, q165⟩ := atI (Kd.R_reads' HO_8.out).2.2 (rd ((rd_T55 x5_4 x12_4).f0) (ji76)); cases e165))
                       repeat (go_quiet (first | (go_at_call 19; (with_reducible refine (selvedgeref14_Initiator.calls (rd l0 (rd ((rd_T55 x5_4 x12_4).f0) (ji76))) true _ A81.out).mono ?_); rintro e w' ⟨rfl, ⟨nd, rfl⟩⟩; (try first | exact ⟨rfl, _, World.drewN_drewN _ _ _⟩ | exact ⟨rfl, _, Eq.trans (World.drewN_drewN _ _ _) (congrArg (World.drewN _) (Nat.add_assoc _ _ _))⟩); obtain ⟨Ao100, co100, eo100⟩ := Kd.R_slice HO_8.out; subst eo100; obtain ⟨ad165, e165, hx165_0, p165, q165⟩ := atI (Kd.R_reads' HO_8.out).2.2 (rd ((rd_T55 x5_4 x12_4).f0) (ji76)); cases e165)); try go_wp2_with (first | (go_at_call 19; (with_reducible refine (selvedgeref14_Initiator.calls (rd l0 (rd ((rd_T55 x5_4 x12_4).f0) (ji76))) true _ A81.out).mono ?_); rintro e w' ⟨rfl, ⟨nd, rfl⟩⟩; (try first | exact ⟨rfl, _, World.drewN_drewN _ _ _⟩ | exact ⟨rfl, _, Eq.trans (World.drewN_drewN _ _ _) (congrArg (World.drewN _) (Nat.add_assoc _ _ _))⟩); obtain ⟨Ao100, co100, eo100⟩ := Kd.R_slice HO_8.out; subst eo100; obtain ⟨ad165, e165, hx165_0, p165, q165⟩ := atI (Kd.R_reads' HO_8.out).2.2 (rd ((rd_T55 x5_4 x12_4).f0) (ji76)); cases e165)))
                       (try simp only [← hl5_4])
                       go_roundg k4
                       case measure => have := HK1.out; have := HK2.out; have := HK3.out; have := HK4.out; omega
                       case rel => exact ⟨(x5_4), (wrap64 (x12_4 + 1)), (by first | rfl | (simp; done) | (simp [*]; done)), H', ⟨by have := HK1.out; have := HK2.out; have := HK3.out; have := HK4.out; omega⟩, ⟨by (try simp only [hl5_4]); (with_reducible repeat (first | apply Kd.S_alloc | apply Kd.S_drewN | apply Kd.S_drew)); exact HO_5.out⟩, ⟨by (try simp only [hl5_4]); (with_reducible repeat (first | apply Kd.R_alloc | apply Kd.R_drewN | apply Kd.R_drew)); exact HO_8.out⟩, ⟨by (try simp only [hl5_4]); (with_reducible repeat (first | apply Kd.R_alloc | apply Kd.R_drewN | apply Kd.R_drew)); exact HO_9.out⟩, ⟨mvB HB⟩⟩
                     ·rw [if_neg c83] at H
                      exact absurd H (by simp)
                    ·replace c82 := Bool.eq_false_iff.mpr c82
                     subst c82
                     have H1 : (selvedgeref15_runs.l3 k4 l0 x5_4 t150 x9_3 (wrap64 (x12_4 + 1))) = some r := by rw [if_neg (show ¬ (false = true) by decide)] at H; exact H
                     clear H
                     have H := H1
                     clear H1
                     have H' := Aside0.mk H
                     clear H
                     have p160 := dT (0 ≤ (x12_4 : Int))
                     have q160 := dT (x12_4 < (x5_4.length : Int))
                     obtain ⟨ad160, A160_0, c160_0, e160, hx160_0, hx160_1, hx160_2, hl160_0, hi160_0⟩ := at_T55 (Kd.S_reads' HO_5.out).2.2 x12_4 p160 q160
                     cases e160
                     obtain ⟨ce160, hce160, hMe160, hcc160⟩ := Kd.S_get HO_5.out z55 x12_4 p160 (by first | exact q160 | exact of_decide_eq_true (by first | (with_reducible assumption) | assumption) | (have e_ := (Kd.S_reads' HO_5.out).1; omega))
                     obtain ⟨ve160_0, rfl, ge160_0⟩ := k55_openM hMe160
                     have hv160_0 := hcc160 0 _ rfl
                     rw [Nat.add_zero] at hv160_0
                     replace hv160_0 := Option.some.inj (hv160_0.symm.trans hx160_0)
                     rw [hv160_0] at ge160_0
                     have HL160_0 := Aside0.mk (show Kd.R (Kd.int .i64) 3 _ _ _ _ ((rd_T55 x5_4 x12_4).f0) from ge160_0)
                     clear hv160_0 ge160_0
                     have HX160_0 := Aside0.mk hx160_0
                     clear hcc160 hce160
                     have HR160_0 := Aside0.mk hi160_0
                     have HC160_0 := Aside0.mk hl160_0
                     clear hi160_0 hl160_0
                     replace p160 := eq_true p160
                     replace q160 := eq_true q160
                     have p161 := dT (0 ≤ (x12_4 : Int))
                     have q161 := dT (x12_4 < (x5_4.length : Int))
                     obtain ⟨ad161, A161_0, c161_0, e161, hx161_0, hx161_1, hx161_2, hl161_0, hi161_0⟩ := at_T55 (Kd.S_reads' HO_5.out).2.2 x12_4 p161 q161
                     obtain rfl : ad160 = ad161 := (by injection e161)
                     obtain ⟨ce161, hce161, hMe161, hcc161⟩ := Kd.S_get HO_5.out z55 x12_4 p161 (by first | exact q161 | exact of_decide_eq_true (by first | (with_reducible assumption) | assumption) | (have e_ := (Kd.S_reads' HO_5.out).1; omega))
                     obtain ⟨ve161_0, rfl, ge161_0⟩ := k55_openM hMe161
                     have hv161_0 := hcc161 0 _ rfl
                     rw [Nat.add_zero] at hv161_0
                     replace hv161_0 := Option.some.inj (hv161_0.symm.trans hx161_0)
                     rw [hv161_0] at ge161_0
                     have HL161_0 := Aside0.mk (show Kd.R (Kd.int .i64) 3 _ _ _ _ ((rd_T55 x5_4 x12_4).f0) from ge161_0)
                     clear hv161_0 ge161_0
                     have HX161_0 := Aside0.mk hx161_0
                     clear hcc161 hce161
                     have HR161_0 := Aside0.mk hi161_0
                     have HC161_0 := Aside0.mk hl161_0
                     clear hi161_0 hl161_0
                     replace p161 := eq_true p161
                     replace q161 := eq_true q161
                     have ea_ := Option.some.inj (hx160_0.symm.trans hx161_0)
                     injection ea_ with ea_ en_ ec_
                     subst ea_
                     subst ec_
                     clear en_
                     obtain ⟨ad162, e162, hx162_0, p162, q162⟩ := atI (by repeat (first | (with_reducible exact HR160_0.out) | (with_reducible refine Kd.C_alloc ?_ _) | (with_reducible refine Kd.C_drewN ?_ _) | (with_reducible refine Kd.C_drew ?_) | exact HR160_0.out)) (ji76)
                     cases e162
                     obtain ⟨ad163, e163, hx163_0, p163, q163⟩ := atI HR0.out (rd ((rd_T55 x5_4 x12_4).f0) (ji76))
                     cases e163
                     replace hx163_0 := (HB.out.cell (World.block_lt_of_cell? w _ hx163_0)).trans hx163_0
                     go_wp2_with (first | (go_at_call 19; (with_reducible refine (selvedgeref14_Initiator.calls (rd l0 (rd ((rd_T55 x5_4 x12_4).f0) (ji76))) false _ A81.out).mono ?_); rintro e w' ⟨rfl, ⟨nd, rfl⟩⟩; (try first | exact ⟨rfl, _, World.drewN_drewN _ _ _⟩ | exact ⟨rfl, _, Eq.trans (World.drewN_drewN _ _ _) (congrArg (World.drewN _) (Nat.add_assoc _ _ _))⟩)))
                     repeat (go_quiet (first | (go_at_call 19; (with_reducible refine (selvedgeref14_Initiator.calls (rd l0 (rd ((rd_T55 x5_4 x12_4).f0) (ji76))) false _ A81.out).mono ?_); rintro e w' ⟨rfl, ⟨nd, rfl⟩⟩; (try first | exact ⟨rfl, _, World.drewN_drewN _ _ _⟩ | exact ⟨rfl, _, Eq.trans (World.drewN_drewN _ _ _) (congrArg (World.drewN _) (Nat.add_assoc _ _ _))⟩))); try go_wp2_with (first | (go_at_call 19; (with_reducible refine (selvedgeref14_Initiator.calls (rd l0 (rd ((rd_T55 x5_4 x12_4).f0) (ji76))) false _ A81.out).mono ?_); rintro e w' ⟨rfl, ⟨nd, rfl⟩⟩; (try first | exact ⟨rfl, _, World.drewN_drewN _ _ _⟩ | exact ⟨rfl, _, Eq.trans (World.drewN_drewN _ _ _) (congrArg (World.drewN _) (Nat.add_assoc _ _ _))⟩))))
                     (try simp only [← hl5_4])
                     go_roundg k4
                     case measure => have := HK1.out; have := HK2.out; have := HK3.out; have := HK4.out; omega
                     case rel => exact ⟨(x5_4), (wrap64 (x12_4 + 1)), (by first | rfl | (simp; done) | (simp [*]; done)), H', ⟨by have := HK1.out; have := HK2.out; have := HK3.out; have := HK4.out; omega⟩, ⟨by (try simp only [hl5_4]); (with_reducible repeat (first | apply Kd.S_alloc | apply Kd.S_drewN | apply Kd.S_drew)); exact HO_5.out⟩, ⟨by (try simp only [hl5_4]); (with_reducible repeat (first | apply Kd.R_alloc | apply Kd.R_drewN | apply Kd.R_drew)); exact HO_8.out⟩, ⟨by (try simp only [hl5_4]); (with_reducible repeat (first | apply Kd.R_alloc | apply Kd.R_drewN | apply Kd.R_drew)); exact HO_9.out⟩, ⟨mvB HB⟩⟩
                   ·rw [if_neg c80] at H
                    exact absurd H (by simp)
                  ·rw [if_neg c79] at H
                   exact absurd H (by simp)
                 ·rw [if_neg c78] at H
                  exact absurd H (by simp)
                ·rw [if_neg c77] at H
                 exact absurd H (by simp)
               ·rw [if_neg c75] at H
                exact absurd H (by simp)
              ·rw [if_neg c74] at H
               have c74b0 : decide (x12_4 < (x5_4.length : Int)) = false := decide_eq_false c74
               clear c74
               obtain rfl := Option.some.inj H
               go_wp2
               repeat (go_quiet (fail); try go_wp2)
               go_ret
               exact ⟨_, by first | rfl | (simp [errW_none, errW_some] <;> rfl) | (simp [*, errW_none, errW_some] <;> rfl), by (with_reducible repeat (first | apply Kd.S_alloc | apply Kd.S_drewN | apply Kd.S_drew)); exact Kd.S_mono HO_5.out (fun _ hk => trivial), mvB HB⟩
     ·rw [if_neg c54] at H
      exact absurd H (by simp)
    ·rw [if_neg c53] at H
     exact absurd H (by simp)

end Go.Proofs.Ytofiflhjlohakaa.X
