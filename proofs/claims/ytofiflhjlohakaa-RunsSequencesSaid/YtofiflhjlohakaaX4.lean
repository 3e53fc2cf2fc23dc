-- by xprint.py: the kit's printer over texts of this session
import Derived.Test.YtofiflhjlohakaaX0
import Derived.Test.YtofiflhjlohakaaX2
import Derived.Test.YtofiflhjlohakaaX3
import Derived.Test.YtofiflhjlohakaaU2
namespace Go.Proofs.Ytofiflhjlohakaa.X
open Go.RowKit Go.Proofs.YtofiflhjlohakaaW.PrintWords Go.Proofs.YtofiflhjlohakaaW.PrintLast Go.Proofs.YtofiflhjlohakaaW.PrintMore
attribute [local go_sem] max2_int min2_int max_two min_two max_three min_three max_four min_four   -- for this text's walks alone
set_option linter.unusedVariables false
set_option linter.unusedSimpArgs false

theorem selvedgeref15_side.same (a0 : Int) (r : Int) (w : World) (h : selvedgeref15_side.f a0 = some r) :
  Calls Try.prog 18 #[.int .u8 a0] w fun e w' => e = .returned (.int .u8 r) ∧ w' = w := by
 have H : (if (Int.tmod a0 2) = 1 then (some 2) else (some 1)) = some r := h
 clear h
 by_cases c2 : (Int.tmod a0 2) = 1
 ·rw [if_pos c2] at H
  have c2b0 : ((Int.tmod a0 2) == 1) = true := beq_iff_eq.mpr c2
  clear c2
  obtain rfl := Option.some.inj H
  go_enter Try.func18, Try.ntmps18
  go_wp2
  go_ret
  exact ⟨rfl, rfl⟩
 ·rw [if_neg c2] at H
  have c2b0 : ((Int.tmod a0 2) == 1) = false := beq_eq_false_iff_ne.mpr c2
  obtain rfl := Option.some.inj H
  go_enter Try.func18, Try.ntmps18
  go_wp2
  go_ret
  exact ⟨rfl, rfl⟩

/-! ### selvedgeref15_Sequences: function 9 -/
mutual
def selvedgeref15_Sequences.l0 : Nat → List Int → List Int → Int → List (S55) → List Int → List Int → List Int → List (S56) → Int → Option ((List (S56)) × Int)
 | 0, _, _, _, _, _, _, _, _, _ => none
 | k + 1, x0, x1, x2, x8, x9, x10, x11, x12, x13 => if x13 < (x8.length : Int) then (if 0 ≤ x13 then (if ((rd_T55 x8 x13).f2) ≥ 0 then (selvedgeref15_Sequences.l0 k x0 x1 x2 x8 x9 x10 x11 x12 (wrap64 (x13 + 1))) else (selvedgeref15_Sequences.l1 k x0 x1 x2 x8 x9 x10 x11 x12 x13 x13 ([] : List Int) 0 0 0)) else (none)) else (some (x12, 0))
def selvedgeref15_Sequences.l1 : Nat → List Int → List Int → Int → List (S55) → List Int → List Int → List Int → List (S56) → Int → Int → List Int → Int → Int → Int → Option ((List (S56)) × Int)
 | 0, _, _, _, _, _, _, _, _, _, _, _, _, _, _ => none
 | k + 1, x0, x1, x2, x8, x9, x10, x11, x12, x13, x15, x200000, x200001, x200002, x200003 => if x15 ≥ 0 then (if 0 ≤ x15 then (if x15 < (x8.length : Int) then (if x200000.length + ((rd_T55 x8 x15).f0).length < 17592186044416 then (selvedgeref15_Sequences.l1 k x0 x1 x2 x8 x9 x10 x11 x12 x13 ((rd_T55 x8 x15).f1) (x200000 ++ ((rd_T55 x8 x15).f0)) x200001 x200002 x200003) else (none)) else (none)) else (none)) else (if 0 < (x200000.length : Int) then (if 0 ≤ (wrap64 ((x200000.length : Int) - 1)) then (if (wrap64 ((x200000.length : Int) - 1)) < (x200000.length : Int) then (if 0 ≤ (rd x200000 0) then (if (rd x200000 0) < (x1.length : Int) then (if (rd x200000 0) < (x10.length : Int) then ((selvedgeref15_side.f (mx (rd x1 (rd x200000 0)) (rd x10 (rd x200000 0)))).bind fun t209 => (if 0 ≤ (rd x200000 (wrap64 ((x200000.length : Int) - 1))) then (if (rd x200000 (wrap64 ((x200000.length : Int) - 1))) < (x11.length : Int) then (if (rd x200000 (wrap64 ((x200000.length : Int) - 1))) < (x0.length : Int) then ((selvedgeref14_Initiator.f (rd x0 (rd x200000 (wrap64 ((x200000.length : Int) - 1))))).bind fun t212 => (if t212 = true then (if (rd x200000 (wrap64 ((x200000.length : Int) - 1))) < (x9.length : Int) then (if (rd x9 (rd x200000 (wrap64 ((x200000.length : Int) - 1)))) < 0 then (if (rd x200000 (wrap64 ((x200000.length : Int) - 1))) < (x1.length : Int) then ((selvedgeref15_side.f (mx (rd x1 (rd x200000 (wrap64 ((x200000.length : Int) - 1)))) x2)).bind fun t215 => (if x12.length < 4398046511104 then (selvedgeref15_Sequences.l0 k x0 x1 x2 x8 x9 x10 x11 (x12 ++ [(⟨x200000, rd x1 (rd x200000 0), t209, t215⟩ : S56)]) (wrap64 (x13 + 1))) else (none))) else (none)) else (if (rd x200000 (wrap64 ((x200000.length : Int) - 1))) < (x1.length : Int) then ((selvedgeref15_side.f (mx (rd x1 (rd x200000 (wrap64 ((x200000.length : Int) - 1)))) (rd x11 (rd x200000 (wrap64 ((x200000.length : Int) - 1)))))).bind fun t220 => (if x12.length < 4398046511104 then (selvedgeref15_Sequences.l0 k x0 x1 x2 x8 x9 x10 x11 (x12 ++ [(⟨x200000, rd x1 (rd x200000 0), t209, t220⟩ : S56)]) (wrap64 (x13 + 1))) else (none))) else (none))) else (none)) else (if (rd x200000 (wrap64 ((x200000.length : Int) - 1))) < (x1.length : Int) then ((selvedgeref15_side.f (mx (rd x1 (rd x200000 (wrap64 ((x200000.length : Int) - 1)))) (rd x11 (rd x200000 (wrap64 ((x200000.length : Int) - 1)))))).bind fun t225 => (if x12.length < 4398046511104 then (selvedgeref15_Sequences.l0 k x0 x1 x2 x8 x9 x10 x11 (x12 ++ [(⟨x200000, rd x1 (rd x200000 0), t209, t225⟩ : S56)]) (wrap64 (x13 + 1))) else (none))) else (none)))) else (none)) else (none)) else (none))) else (none)) else (none)) else (none)) else (none)) else (none)) else (none))
end
def selvedgeref15_Sequences.f (k : Nat) (l0 : List Int) (l1 : List Int) (a2 : Int) : Option ((List (S56)) × Int) := if (l0.length : Int) > 65536 then (some (([] : List (S56)), 3)) else (if (l0.length : Int) = (l1.length : Int) then ((selvedgeref15_runs.f k l0 l1).bind fun t186 => ((selvedgeref14_Match.f k l0).bind fun t189 => ((selvedgeref15_around.f k l0 l1 a2).bind fun bt192 => (selvedgeref15_Sequences.l0 k l0 l1 a2 t186 t189 bt192.1 bt192.2 ([] : List (S56)) 0)))) else (some (([] : List (S56)), 2)))
theorem selvedgeref15_Sequences.mono_l : ∀ k, (∀ y0 y1 y2 y3 y4 y5 y6 y7 y8, LeO (selvedgeref15_Sequences.l0 k y0 y1 y2 y3 y4 y5 y6 y7 y8) (selvedgeref15_Sequences.l0 (k + 1) y0 y1 y2 y3 y4 y5 y6 y7 y8)) ∧ (∀ y0 y1 y2 y3 y4 y5 y6 y7 y8 y9 y10 y11 y12 y13, LeO (selvedgeref15_Sequences.l1 k y0 y1 y2 y3 y4 y5 y6 y7 y8 y9 y10 y11 y12 y13) (selvedgeref15_Sequences.l1 (k + 1) y0 y1 y2 y3 y4 y5 y6 y7 y8 y9 y10 y11 y12 y13))
 | 0 => ⟨fun _ _ _ _ _ _ _ _ _ r h => by simp [selvedgeref15_Sequences.l0] at h, fun _ _ _ _ _ _ _ _ _ _ _ _ _ _ r h => by simp [selvedgeref15_Sequences.l1] at h⟩
 | k + 1 => by
  obtain ⟨ih0, ih1⟩ := selvedgeref15_Sequences.mono_l k
  refine ⟨?_, ?_⟩
  ·intro y0 y1 y2 y3 y4 y5 y6 y7 y8
   unfold selvedgeref15_Sequences.l0
   repeat' first
   | (with_reducible exact ih0 _ _ _ _ _ _ _ _ _)
   | (with_reducible exact ih1 _ _ _ _ _ _ _ _ _ _ _ _ _ _)
   | (with_reducible exact selvedgeref14_Match.mono _ _)
   | (with_reducible exact selvedgeref15_around.mono _ _ _ _)
   | (with_reducible exact selvedgeref15_runs.mono _ _ _)
   | (with_reducible exact LeO.refl _)
   | (with_reducible exact LeO.none _)
   | (with_reducible refine LeO.ite ?_ ?_)
   | (with_reducible refine LeO.bind ?_ (fun _ => ?_))
   | exact ih0 _ _ _ _ _ _ _ _ _
   | exact ih1 _ _ _ _ _ _ _ _ _ _ _ _ _ _
   | exact selvedgeref14_Match.mono _ _
   | exact selvedgeref15_around.mono _ _ _ _
   | exact selvedgeref15_runs.mono _ _ _
   | exact LeO.none _
   | refine LeO.ite ?_ ?_
   | refine LeO.bind ?_ (fun _ => ?_)
  ·intro y0 y1 y2 y3 y4 y5 y6 y7 y8 y9 y10 y11 y12 y13
   unfold selvedgeref15_Sequences.l1
   repeat' first
   | (with_reducible exact ih0 _ _ _ _ _ _ _ _ _)
   | (with_reducible exact ih1 _ _ _ _ _ _ _ _ _ _ _ _ _ _)
   | (with_reducible exact selvedgeref14_Match.mono _ _)
   | (with_reducible exact selvedgeref15_around.mono _ _ _ _)
   | (with_reducible exact selvedgeref15_runs.mono _ _ _)
   | (with_reducible exact LeO.refl _)
   | (with_reducible exact LeO.none _)
   | (with_reducible refine LeO.ite ?_ ?_)
   | (with_reducible refine LeO.bind ?_ (fun _ => ?_))
   | exact ih0 _ _ _ _ _ _ _ _ _
   | exact ih1 _ _ _ _ _ _ _ _ _ _ _ _ _ _
   | exact selvedgeref14_Match.mono _ _
   | exact selvedgeref15_around.mono _ _ _ _
   | exact selvedgeref15_runs.mono _ _ _
   | exact LeO.none _
   | refine LeO.ite ?_ ?_
   | refine LeO.bind ?_ (fun _ => ?_)
theorem selvedgeref15_Sequences.mono : ∀ a0 a1 a2 k, LeO (selvedgeref15_Sequences.f k a0 a1 a2) (selvedgeref15_Sequences.f (k + 1) a0 a1 a2) := by
 intro a0 a1 a2 k
 obtain ⟨ih0, ih1⟩ := selvedgeref15_Sequences.mono_l k
 unfold selvedgeref15_Sequences.f
 repeat' first
   | (with_reducible exact ih0 _ _ _ _ _ _ _ _ _)
   | (with_reducible exact ih1 _ _ _ _ _ _ _ _ _ _ _ _ _ _)
   | (with_reducible exact selvedgeref14_Match.mono _ _)
   | (with_reducible exact selvedgeref15_around.mono _ _ _ _)
   | (with_reducible exact selvedgeref15_runs.mono _ _ _)
   | (with_reducible exact LeO.refl _)
   | (with_reducible exact LeO.none _)
   | (with_reducible refine LeO.ite ?_ ?_)
   | (with_reducible refine LeO.bind ?_ (fun _ => ?_))
   | exact ih0 _ _ _ _ _ _ _ _ _
   | exact ih1 _ _ _ _ _ _ _ _ _ _ _ _ _ _
   | exact selvedgeref14_Match.mono _ _
   | exact selvedgeref15_around.mono _ _ _ _
   | exact selvedgeref15_runs.mono _ _ _
   | exact LeO.none _
   | refine LeO.ite ?_ ?_
   | refine LeO.bind ?_ (fun _ => ?_)
def selvedgeref15_Sequences.T17 : Bool × List (List Nat × List Nat) := (true, [([], []), ([0], [0]), ([], []), ([], []), ([2, 3], [2, 3]), ([4], [4]), ([5], [5]), ([1, 6], [1, 6]), ([0, 1, 2, 3, 4, 5, 6, 7], []), ([8, 7, 7, 0, 1, 2, 3, 4, 5, 6, 7], [7, 8])])
def selvedgeref15_Sequences.B17 : List Nat := [0, 1, 0, 0, 12, 28, 60, 127, 255, 511]
theorem selvedgeref15_Sequences.tab17 : rtab .any (opsOf Try.f9 17) = selvedgeref15_Sequences.T17 := by kernel_rfl
theorem selvedgeref15_Sequences.bits17 : waitsOk selvedgeref15_Sequences.T17.2 selvedgeref15_Sequences.B17 = true := by kernel_rfl
def selvedgeref15_Sequences.T18 : Bool × List (List Nat × List Nat) := (true, [([], []), ([0], [0]), ([1], [1]), ([2], [2]), ([], []), ([4], [4]), ([], []), ([6], [6]), ([7], [7]), ([8], [8]), ([5, 9], [5, 9]), ([10], [10]), ([3, 0, 1, 2, 3], [3]), ([11, 12, 0, 1, 2, 3, 4, 5, 6, 7, 8, 9, 10, 11, 12], [11])])
def selvedgeref15_Sequences.B18 : List Nat := [0, 1, 3, 7, 0, 16, 0, 64, 192, 448, 1008, 2032, 15, 8191]
theorem selvedgeref15_Sequences.tab18 : rtab .any (opsOf Try.f9 18) = selvedgeref15_Sequences.T18 := by kernel_rfl
theorem selvedgeref15_Sequences.bits18 : waitsOk selvedgeref15_Sequences.T18.2 selvedgeref15_Sequences.B18 = true := by kernel_rfl
def selvedgeref15_Sequences.T20 : Bool × List (List Nat × List Nat) := (true, [([], []), ([0], [0]), ([], []), ([], []), ([2, 3], [2, 3]), ([4], [4]), ([1, 5], [1, 5]), ([6], [6]), ([0, 1, 2, 3, 4, 5, 6, 7], []), ([8, 7, 7, 0, 1, 2, 3, 4, 5, 6, 7], [7, 8])])
def selvedgeref15_Sequences.B20 : List Nat := [0, 1, 0, 0, 12, 28, 63, 127, 255, 511]
theorem selvedgeref15_Sequences.tab20 : rtab .any (opsOf Try.f9 20) = selvedgeref15_Sequences.T20 := by kernel_rfl
theorem selvedgeref15_Sequences.bits20 : waitsOk selvedgeref15_Sequences.T20.2 selvedgeref15_Sequences.B20 = true := by kernel_rfl
set_option maxHeartbeats 8000000 in
set_option maxRecDepth 100000 in
theorem selvedgeref15_Sequences.calls (k : Nat) (A0 : Option Addr) (c0 : Nat) (l0 : List Int) (A1 : Option Addr) (c1 : Nat) (l1 : List Int) (a2 : Int) (r1 : List (S56)) (r2 : Int) (w : World) (hr0 : Kd.C (Kd.int .u8) w A0 l0.length l0) (hc0 : l0.length ≤ c0) (hr1 : Kd.C (Kd.int .u8) w A1 l1.length l1) (hc1 : l1.length ≤ c1) (h : selvedgeref15_Sequences.f k l0 l1 a2 = some (r1, r2)) :
  Calls Try.prog 9 #[.slice A0 l0.length c0, .slice A1 l1.length c1, .int .u8 a2] w fun e w' => ∃ v0_ : Value, e = .returned (.tuple #[v0_, .int .i64 r2]) ∧ Kd.S k56 56 w' w.heap.size (fun _ => True) v0_ r1 ∧ Below w.heap.size w w' := by
 have hu56 := Try.underlying56
 have HR0 := Aside0.mk hr0
 have HC0 := Aside0.mk hc0
 clear hr0 hc0
 have HR1 := Aside0.mk hr1
 have HC1 := Aside0.mk hc1
 clear hr1 hc1
 have HB := Aside0.mk (Below.refl w.heap.size w)
 have H : (if (l0.length : Int) > 65536 then (some (([] : List (S56)), 3)) else (if (l0.length : Int) = (l1.length : Int) then ((selvedgeref15_runs.f k l0 l1).bind fun t186 => ((selvedgeref14_Match.f k l0).bind fun t189 => ((selvedgeref15_around.f k l0 l1 a2).bind fun bt192 => (selvedgeref15_Sequences.l0 k l0 l1 a2 t186 t189 bt192.1 bt192.2 ([] : List (S56)) 0)))) else (some (([] : List (S56)), 2)))) = some (r1, r2) := h
 clear h
 by_cases c4 : (l0.length : Int) > 65536
 ·rw [if_pos c4] at H
  have c4b0 : decide (65536 < (l0.length : Int)) = true := decide_eq_true c4
  have c4b1 : decide (65536 < l0.length) = true := decide_eq_true (by omega)
  clear c4
  simp only [Option.some.injEq, Prod.mk.injEq] at H
  obtain ⟨rfl, rfl⟩ := H
  go_enter Try.func9, Try.ntmps9
  go_wp2
  go_ret2
  exact ⟨_, by first | rfl | (simp [errW_none, errW_some] <;> rfl) | (simp [*, errW_none, errW_some] <;> rfl), by first | exact Kd.S_nil _ _ _ _ _ | exact Kd.N_nil _ _ _ _ _ | exact Kd.V_nil _ _ _ _ _ | exact Kd.Q_nil _ _ _ _ _ | exact Kd.R_nil _ _ _ _ _, mvB HB⟩
 ·rw [if_neg c4] at H
  have c4b0 : decide (65536 < (l0.length : Int)) = false := decide_eq_false c4
  have c4b1 : decide (65536 < l0.length) = false := decide_eq_false (by omega)
  clear c4
  by_cases c5 : (l0.length : Int) = (l1.length : Int)
  ·rw [if_pos c5] at H
   have c5b0 : ((l0.length : Int) == (l1.length : Int)) = true := beq_iff_eq.mpr c5
   have c5b1 : ((l0.length : Int) != (l1.length : Int)) = false := bne_eq_false_iff_eq.mpr c5
   have c5b2 : (l0.length == l1.length) = true := by first | simpa using c5 | (simp at c5 ⊢; omega)
   clear c5
   replace H := Option.bind_eq_some_iff.mp H
   obtain ⟨t186, A60, H⟩ := H
   replace H : ((selvedgeref14_Match.f k l0).bind fun t189 => ((selvedgeref15_around.f k l0 l1 a2).bind fun bt192 => (selvedgeref15_Sequences.l0 k l0 l1 a2 t186 t189 bt192.1 bt192.2 ([] : List (S56)) 0))) = some (r1, r2) := H
   have A6 := Aside0.mk A60
   clear A60
   replace H := Option.bind_eq_some_iff.mp H
   obtain ⟨t189, A70, H⟩ := H
   replace H : ((selvedgeref15_around.f k l0 l1 a2).bind fun bt192 => (selvedgeref15_Sequences.l0 k l0 l1 a2 t186 t189 bt192.1 bt192.2 ([] : List (S56)) 0)) = some (r1, r2) := H
   have A7 := Aside0.mk A70
   clear A70
   replace H := Option.bind_eq_some_iff.mp H
   obtain ⟨⟨t192, t193⟩, A80, H⟩ := H
   replace H : (selvedgeref15_Sequences.l0 k l0 l1 a2 t186 t189 t192 t193 ([] : List (S56)) 0) = some (r1, r2) := H
   have A8 := Aside0.mk A80
   clear A80
   have H' := Aside0.mk H
   clear H
   go_enter Try.func9, Try.ntmps9
   go_wp2_with (first | ((with_reducible refine gate_callee (f := 16) rfl ?_); refine goesL_ (some 29) rfl rfl Try.func16 (by kernel_rfl) rfl #[.slice A0 l0.length c0, .slice A1 l1.length c1] rfl (by (try simp only [List.map_toArray, List.map_cons, List.map_nil]); first | done | rfl | (simp only [List.length_drop, List.length_take]; rfl)) ?_; (with_reducible refine (selvedgeref15_runs.calls k _ _ l0 _ _ l1 t186 _ ?side1 ?side2 ?side3 ?side4 A6.out).mono ?_); (case side1 => repeat (first | exact HR0.out | (with_reducible refine Kd.C_alloc ?_ _) | (with_reducible refine Kd.C_drewN ?_ _) | (with_reducible refine Kd.C_drew ?_))); (case side2 => exact HC0.out); (case side3 => repeat (first | exact HR1.out | (with_reducible refine Kd.C_alloc ?_ _) | (with_reducible refine Kd.C_drewN ?_ _) | (with_reducible refine Kd.C_drew ?_))); (case side4 => exact HC1.out); rintro e w9 ⟨v187, rfl, ho0, hb⟩; refine ⟨_, rfl, ?_⟩; have n0_ := Aside0.mk (Kd.S_lower ho0 (below_size (mvB HB))); have n1_ := Aside0.mk (below_step (mvB HB) hb); clear HB; have HO188 := n0_; have HB := n1_; clear n0_ n1_; (try clear hb); (try clear hb2); (try clear hk); (try clear hi); (try clear ho0)) | ((with_reducible refine gate_callee (f := 13) rfl ?_); refine goesL_ (some 31) rfl rfl Try.func13 (by kernel_rfl) rfl #[.slice A0 l0.length c0] rfl (by (try simp only [List.map_toArray, List.map_cons, List.map_nil]); first | done | rfl | (simp only [List.length_drop, List.length_take]; rfl)) ?_; (with_reducible refine (selvedgeref14_Match.calls k _ _ l0 t189 _ ?side1 ?side2 A7.out).mono ?_); (case side1 => repeat (first | exact (Kd.C_below HR0.out HB.out) | (with_reducible refine Kd.C_alloc ?_ _) | (with_reducible refine Kd.C_drewN ?_ _) | (with_reducible refine Kd.C_drew ?_))); (case side2 => exact HC0.out); rintro e w10 ⟨v190, rfl, ho0, hb⟩; refine ⟨_, rfl, ?_⟩; have n0_ := Aside0.mk (Kd.S_elder' (by (with_reducible repeat (first | apply Kd.S_alloc | apply Kd.S_drewN | apply Kd.S_drew)); exact HO188.out) (Kd.R_base ho0) hb); have n1_ := Aside0.mk (Kd.R_lower ho0 (below_size (mvB HB))); have n2_ := Aside0.mk (below_step (mvB HB) hb); clear HO188; clear HB; have HO188 := n0_; have HO191 := n1_; have HB := n2_; clear n0_ n1_ n2_; (try clear hb); (try clear hb2); (try clear hk); (try clear hi); (try clear ho0)) | ((with_reducible refine gate_callee (f := 17) rfl ?_); refine goesL_ (some 36) rfl rfl Try.func17 (by kernel_rfl) rfl #[.slice A0 l0.length c0, .slice A1 l1.length c1, .int .u8 a2] rfl (by (try simp only [List.map_toArray, List.map_cons, List.map_nil]); first | done | rfl | (simp only [List.length_drop, List.length_take]; rfl)) ?_; (with_reducible refine (selvedgeref15_around.calls k _ _ l0 _ _ l1 a2 t192 t193 _ ?side1 ?side2 ?side3 ?side4 A8.out).mono ?_); (case side1 => repeat (first | exact (Kd.C_below HR0.out HB.out) | (with_reducible refine Kd.C_alloc ?_ _) | (with_reducible refine Kd.C_drewN ?_ _) | (with_reducible refine Kd.C_drew ?_))); (case side2 => exact HC0.out); (case side3 => repeat (first | exact (Kd.C_below HR1.out HB.out) | (with_reducible refine Kd.C_alloc ?_ _) | (with_reducible refine Kd.C_drewN ?_ _) | (with_reducible refine Kd.C_drew ?_))); (case side4 => exact HC1.out); rintro e w11 ⟨v194, v196, rfl, ho0, ho1, hb⟩; refine ⟨_, rfl, ?_⟩; have n0_ := Aside0.mk (Kd.S_below (by (with_reducible repeat (first | apply Kd.S_alloc | apply Kd.S_drewN | apply Kd.S_drew)); exact HO188.out) hb); have n1_ := Aside0.mk (Kd.R_below (mvR HO191) hb); have n2_ := Aside0.mk (Kd.R_lower ho0 (below_size (mvB HB))); have n3_ := Aside0.mk (Kd.R_lower ho1 (below_size (mvB HB))); have n4_ := Aside0.mk (below_step (mvB HB) hb); clear HO188; clear HO191; clear HB; have HO188 := n0_; have HO191 := n1_; have HO195 := n2_; have HO197 := n3_; have HB := n4_; clear n0_ n1_ n2_ n3_ n4_; (try clear hb); (try clear hb2); (try clear hk); (try clear hi); (try clear ho0); (try clear ho1)))
   go_loopg [12, 13] k (fun kq v12 v13 w' => ∃ (x12_1 : List (S56)) (x13_1 : Int), v13 = .int .i64 x13_1 ∧ Aside0 (selvedgeref15_Sequences.l0 kq l0 l1 a2 t186 t189 t192 t193 x12_1 x13_1 = some (r1, r2)) ∧ Aside0 (kq ≤ k) ∧ Aside0 (Kd.S k55 55 w' w.heap.size (fun k_ => some k_ ≠ (v190 : Value).ownBlock) v187 t186) ∧ Aside0 (Kd.R (Kd.int .i64) 3 w' w.heap.size (fun _ => True) v190 t189) ∧ Aside0 (Kd.R (Kd.int .u8) 5 w' w.heap.size (fun k_ => some k_ ≠ (v196 : Value).ownBlock) v194 t192) ∧ Aside0 (Kd.R (Kd.int .u8) 5 w' w.heap.size (fun k_ => some k_ ≠ (v194 : Value).ownBlock) v196 t193) ∧ Aside0 (Kd.S k56 56 w' w.heap.size (fun k_ => some k_ ≠ (v190 : Value).ownBlock) v12 x12_1) ∧ Aside0 (Below w.heap.size w w'))
   case atStart => exact ⟨(([] : List (S56))), (0), (by first | rfl | (simp; done) | (simp [*]; done)), H', ⟨Nat.le_refl _⟩, ⟨by (with_reducible repeat (first | apply Kd.S_alloc | apply Kd.S_drewN | apply Kd.S_drew)); exact Kd.S_mono HO188.out (fun _ hk => hk.2)⟩, ⟨mvR HO191⟩, ⟨mvR HO195⟩, ⟨mvR HO197⟩, ⟨by first | exact Kd.S_nil _ _ _ _ _ | exact Kd.N_nil _ _ _ _ _ | exact Kd.V_nil _ _ _ _ _ | exact Kd.Q_nil _ _ _ _ _ | exact Kd.R_nil _ _ _ _ _⟩, ⟨mvB HB⟩⟩
   case round =>
    clear H'
    try clear c1
    try clear p2
    try clear c4
    try clear c4b0
    try clear c4b1
    try clear c5
    try clear c5b0
    try clear c5b1
    try clear c5b2
    try clear c9
    obtain ⟨x12_1, x13_1, rfl, HA, HK1, HO_8, HO_9, HO_10, HO_11, HO_12, HB⟩ := hrel
    cases gk with
    | zero => exact absurd HA.out (by simp [selvedgeref15_Sequences.l0])
    | succ k1 =>
     have H := HA.out
     clear HA
     simp only [selvedgeref15_Sequences.l0] at H
     by_cases c12 : x13_1 < (t186.length : Int)
     ·rw [if_pos c12] at H
      have c12b0 : decide (x13_1 < (t186.length : Int)) = true := decide_eq_true c12
      clear c12
      by_cases c13 : 0 ≤ x13_1
      ·rw [if_pos c13] at H
       have c13b0 : decide (0 ≤ x13_1) = true := decide_eq_true c13
       clear c13
       by_cases c14 : ((rd_T55 t186 x13_1).f2) ≥ 0
       ·rw [if_pos c14] at H
        have c14b0 : decide (0 ≤ ((rd_T55 t186 x13_1).f2)) = true := decide_eq_true c14
        clear c14
        have H' := Aside0.mk H
        clear H
        obtain ⟨Ao15, co15, eo15⟩ := Kd.S_slice HO_8.out
        subst eo15
        have p198 := dT (0 ≤ (x13_1 : Int))
        have q198 := dT (x13_1 < (t186.length : Int))
        obtain ⟨ad198, A198_0, c198_0, e198, hx198_0, hx198_1, hx198_2, hl198_0, hi198_0⟩ := at_T55 (Kd.S_reads' HO_8.out).2.2 x13_1 p198 q198
        cases e198
        obtain ⟨ce198, hce198, hMe198, hcc198⟩ := Kd.S_get HO_8.out z55 x13_1 p198 (by first | exact q198 | exact of_decide_eq_true (by first | (with_reducible assumption) | assumption) | (have e_ := (Kd.S_reads' HO_8.out).1; omega))
        obtain ⟨ve198_0, rfl, ge198_0⟩ := k55_openM hMe198
        have hv198_0 := hcc198 0 _ rfl
        rw [Nat.add_zero] at hv198_0
        replace hv198_0 := Option.some.inj (hv198_0.symm.trans hx198_0)
        rw [hv198_0] at ge198_0
        have HL198_0 := Aside0.mk (show Kd.R (Kd.int .i64) 3 _ _ _ _ ((rd_T55 t186 x13_1).f0) from ge198_0)
        clear hv198_0 ge198_0
        clear hcc198 hce198
        have HR198_0 := Aside0.mk hi198_0
        have HC198_0 := Aside0.mk hl198_0
        clear hi198_0 hl198_0
        replace p198 := eq_true p198
        replace q198 := eq_true q198
        go_wp2
        go_roundg k1
        case measure => have := HK1.out; omega
        case rel => exact ⟨(x12_1), (wrap64 (x13_1 + 1)), (by first | rfl | (simp; done) | (simp [*]; done)), H', ⟨by have := HK1.out; omega⟩, ⟨by (with_reducible repeat (first | apply Kd.S_alloc | apply Kd.S_drewN | apply Kd.S_drew)); exact HO_8.out⟩, ⟨mvR HO_9⟩, ⟨mvR HO_10⟩, ⟨mvR HO_11⟩, ⟨by (with_reducible repeat (first | apply Kd.S_alloc | apply Kd.S_drewN | apply Kd.S_drew)); exact HO_12.out⟩, ⟨mvB HB⟩⟩
       ·rw [if_neg c14] at H
        have c14b0 : decide (0 ≤ ((rd_T55 t186 x13_1).f2)) = false := decide_eq_false c14
        clear c14
        have H' := Aside0.mk H
        clear H
        obtain ⟨Ao16, co16, eo16⟩ := Kd.S_slice HO_8.out
        subst eo16
        have p198 := dT (0 ≤ (x13_1 : Int))
        have q198 := dT (x13_1 < (t186.length : Int))
        obtain ⟨ad198, A198_0, c198_0, e198, hx198_0, hx198_1, hx198_2, hl198_0, hi198_0⟩ := at_T55 (Kd.S_reads' HO_8.out).2.2 x13_1 p198 q198
        cases e198
        obtain ⟨ce198, hce198, hMe198, hcc198⟩ := Kd.S_get HO_8.out z55 x13_1 p198 (by first | exact q198 | exact of_decide_eq_true (by first | (with_reducible assumption) | assumption) | (have e_ := (Kd.S_reads' HO_8.out).1; omega))
        obtain ⟨ve198_0, rfl, ge198_0⟩ := k55_openM hMe198
        have hv198_0 := hcc198 0 _ rfl
        rw [Nat.add_zero] at hv198_0
        replace hv198_0 := Option.some.inj (hv198_0.symm.trans hx198_0)
        rw [hv198_0] at ge198_0
        have HL198_0 := Aside0.mk (show Kd.R (Kd.int .i64) 3 _ _ _ _ ((rd_T55 t186 x13_1).f0) from ge198_0)
        clear hv198_0 ge198_0
        clear hcc198 hce198
        have HR198_0 := Aside0.mk hi198_0
        have HC198_0 := Aside0.mk hl198_0
        clear hi198_0 hl198_0
        replace p198 := eq_true p198
        replace q198 := eq_true q198
        go_wp2_with (first | ((with_reducible refine gate_dst (N := 14) rfl ?_); refine box_event ?hg (N := 14) ?hd (cs := #[.slice none 0 0, .int .u8 0, .int .u8 0, .int .u8 0]) (t := 56) ?hr ?_; (case hd => rfl); (case hg => rfl); (case hr => first | (go_simp; done) | (go_simp; rfl)); intro gb199 hg w17 hbox hb; have n0_ := Aside0.mk (Kd.S_below (by (with_reducible repeat (first | apply Kd.S_alloc | apply Kd.S_drewN | apply Kd.S_drew)); exact HO_8.out) hb); have n1_ := Aside0.mk (Kd.R_below (mvR HO_9) hb); have n2_ := Aside0.mk (Kd.R_below (mvR HO_10) hb); have n3_ := Aside0.mk (Kd.R_below (mvR HO_11) hb); have n4_ := Aside0.mk (Kd.S_below (Kd.S_elderB (by (with_reducible repeat (first | apply Kd.S_alloc | apply Kd.S_drewN | apply Kd.S_drew)); exact HO_12.out) gb199 (Nat.le_of_eq hg.symm)) hb); have n5_ := Aside0.mk (Kd.R_below (mvR HL198_0) hb); have n6_ := Aside0.mk (Kd.C_below (by repeat (first | (with_reducible exact HR198_0.out) | (with_reducible refine Kd.C_alloc ?_ _) | (with_reducible refine Kd.C_drewN ?_ _) | (with_reducible refine Kd.C_drew ?_) | exact HR198_0.out)) hb); have n7_ := Aside0.mk (below_step (mvB HB) hb); have n8_ := Aside0.mk (hbox); have n9_ := Aside0.mk ((by rw [hg]; exact (below_size (mvB HB)) : w.heap.size ≤ gb199)); have n10_ := Aside0.mk ((by rw [hg]; exact (below_size (mvB HB)) : w.heap.size ≤ gb199)); clear HO_8; clear HO_9; clear HO_10; clear HO_11; clear HO_12; clear HL198_0; clear HR198_0; clear HB; have HO_8 := n0_; have HO_9 := n1_; have HO_10 := n2_; have HO_11 := n3_; have HO_12 := n4_; have HL198_0 := n5_; have HR198_0 := n6_; have HB := n7_; have BK199 := n8_; have GW199 := n9_; have GE199 := n10_; clear n0_ n1_ n2_ n3_ n4_ n5_ n6_ n7_ n8_ n9_ n10_; clear hb hbox hg))
        go_loopg [15] k1 (fun kq v15 w' => ∃ (x15_2 : Int) (x200000_2 : List Int) (u200000 : Value), v15 = .int .i64 x15_2 ∧ Aside0 (selvedgeref15_Sequences.l1 kq l0 l1 a2 t186 t189 t192 t193 x12_1 x13_1 x15_2 x200000_2 0 0 0 = some (r1, r2)) ∧ Aside0 (kq ≤ k1) ∧ Aside0 (Kd.S k55 55 w' w.heap.size (fun k_ => some k_ ≠ (v190 : Value).ownBlock ∧ some k_ ≠ (u200000 : Value).ownBlock) (.slice (some ad198) t186.length co16) t186) ∧ Aside0 (Kd.R (Kd.int .i64) 3 w' w.heap.size (fun k_ => some k_ ≠ (u200000 : Value).ownBlock) v190 t189) ∧ Aside0 (Kd.R (Kd.int .u8) 5 w' w.heap.size (fun k_ => some k_ ≠ (v196 : Value).ownBlock) v194 t192) ∧ Aside0 (Kd.R (Kd.int .u8) 5 w' w.heap.size (fun k_ => some k_ ≠ (v194 : Value).ownBlock) v196 t193) ∧ Aside0 (Kd.S k56 56 w' w.heap.size (fun k_ => some k_ ≠ (v190 : Value).ownBlock ∧ some k_ ≠ (u200000 : Value).ownBlock ∧ k_ ≠ gb199) u12 x12_1) ∧ Aside0 (Kd.R (Kd.int .i64) 3 w' w.heap.size (fun k_ => some k_ ≠ (v190 : Value).ownBlock) u200000 x200000_2) ∧ Aside0 (w'.heap[gb199]? = some (.cells #[u200000, .int .u8 0, .int .u8 0, .int .u8 0] 56 (0, 0))) ∧ Aside0 (Below w.heap.size w w'))
        case atStart => exact ⟨(x13_1), (([] : List Int)), (.slice none 0 0), (by first | rfl | (simp; done) | (simp [*]; done)), H', ⟨Nat.le_refl _⟩, ⟨by (with_reducible repeat (first | apply Kd.S_alloc | apply Kd.S_drewN | apply Kd.S_drew)); exact Kd.S_mono HO_8.out (fun _ hk => ⟨hk, (by simp [Value.ownBlock])⟩)⟩, ⟨by (with_reducible repeat (first | apply Kd.R_alloc | apply Kd.R_drewN | apply Kd.R_drew)); exact Kd.R_mono HO_9.out (fun _ hk => (by simp [Value.ownBlock]))⟩, ⟨mvR HO_10⟩, ⟨mvR HO_11⟩, ⟨by (with_reducible repeat (first | apply Kd.S_alloc | apply Kd.S_drewN | apply Kd.S_drew)); exact Kd.S_mono HO_12.out (fun _ hk => ⟨hk.1, ⟨(by simp [Value.ownBlock]), hk.2⟩⟩)⟩, ⟨by first | exact Kd.R_nil _ _ _ _ _ | exact Kd.N_nil _ _ _ _ _ | exact Kd.V_nil _ _ _ _ _ | exact Kd.Q_nil _ _ _ _ _ | exact Kd.S_nil _ _ _ _ _⟩, ⟨by (with_reducible repeat (first | refine blk_drewN ?_ _ | refine blk_drew ?_ | refine blk_alloc ?_ _)); exact BK199.out⟩, ⟨by repeat (first | (with_reducible first | exact HB.out | apply below_alloc | apply pw_below_drewN | apply below_drew1 | refine below_set ?_ GE199.out) | exact HB.out)⟩⟩
        case round =>
         clear H'
         try clear c1
         try clear p1
         try clear q1
         try clear hx1
         try clear p2
         try clear c4
         try clear c4b0
         try clear c4b1
         try clear c5
         try clear c5b0
         try clear c5b1
         try clear c5b2
         try clear p6
         try clear c9
         try clear c12
         try clear c12b0
         try clear c13
         try clear c13b0
         try clear c14
         try clear c14b0
         try clear c16
         try clear c17
         try clear hx198_0
         try clear hx198_1
         try clear hx198_2
         try clear p198
         try clear p2
         try clear q198
         obtain ⟨x15_2, x200000_2, u200000, rfl, HA, HK2, HO_8, HO_9, HO_10, HO_11, HO_12, HO_200000, BK199, HB⟩ := hrel
         cases gk with
         | zero => exact absurd HA.out (by simp [selvedgeref15_Sequences.l1])
         | succ k2 =>
          have H := HA.out
          clear HA
          simp only [selvedgeref15_Sequences.l1] at H
          by_cases c18 : x15_2 ≥ 0
          ·rw [if_pos c18] at H
           have c18b0 : decide (0 ≤ x15_2) = true := decide_eq_true c18
           clear c18
           by_cases c19 : 0 ≤ x15_2
           ·rw [if_pos c19] at H
            have c19b0 : decide (0 ≤ x15_2) = true := decide_eq_true c19
            clear c19
            by_cases c20 : x15_2 < (t186.length : Int)
            ·rw [if_pos c20] at H
             have c20b0 : decide (x15_2 < (t186.length : Int)) = true := decide_eq_true c20
             clear c20
             by_cases c21 : x200000_2.length + ((rd_T55 t186 x15_2).f0).length < 17592186044416
             ·rw [if_pos c21] at H
              have LMc21 := Aside0.mk c21
              clear c21
              obtain ⟨y201, hy201⟩ : ∃ y_ : List Int, y_ = (x200000_2 ++ ((rd_T55 t186 x15_2).f0)) := ⟨_, rfl⟩
              replace H : (selvedgeref15_Sequences.l1 k2 l0 l1 a2 t186 t189 t192 t193 x12_1 x13_1 ((rd_T55 t186 x15_2).f1) y201 0 0 0) = some (r1, r2) := by first | (rw [hy201]; with_reducible exact H) | (have H2_ := (Option.bind_some _ _).symm.trans H; rw [hy201]; with_reducible exact H2_) | (have H2_ := (Option.bind_some _ _).symm.trans H; with_reducible exact H2_) | with_reducible exact H | (rw [hy201]; exact H) | exact H
              have Ny201 := Aside0.mk hy201
              clear hy201
              have H' := Aside0.mk H
              clear H
              try go_wp2
              have n0_ := Aside0.mk (Kd.S_drew HO_8.out)
              have n1_ := Aside0.mk (Kd.R_drew HO_9.out)
              have n2_ := Aside0.mk (Kd.R_drew HO_10.out)
              have n3_ := Aside0.mk (Kd.R_drew HO_11.out)
              have n4_ := Aside0.mk (Kd.S_drew HO_12.out)
              have n5_ := Aside0.mk (Kd.R_drew HO_200000.out)
              have n6_ := Aside0.mk (blk_drew BK199.out)
              have n7_ := Aside0.mk (below_drew1 HB.out)
              clear HO_8
              clear HO_9
              clear HO_10
              clear HO_11
              clear HO_12
              clear HO_200000
              clear BK199
              clear HB
              have HO_8 := n0_
              have HO_9 := n1_
              have HO_10 := n2_
              have HO_11 := n3_
              have HO_12 := n4_
              have HO_200000 := n5_
              have BK199 := n6_
              have HB := n7_
              clear n0_ n1_ n2_ n3_ n4_ n5_ n6_ n7_
              have p200 := dT (0 ≤ (x15_2 : Int))
              have q200 := dT (x15_2 < (t186.length : Int))
              obtain ⟨ad200, A200_0, c200_0, e200, hx200_0, hx200_1, hx200_2, hl200_0, hi200_0⟩ := at_T55 (Kd.S_reads' HO_8.out).2.2 x15_2 p200 q200
              obtain rfl : ad198 = ad200 := (by injection e200)
              obtain ⟨ce200, hce200, hMe200, hcc200⟩ := Kd.S_get HO_8.out z55 x15_2 p200 (by first | exact q200 | exact of_decide_eq_true (by first | (with_reducible assumption) | assumption) | (have e_ := (Kd.S_reads' HO_8.out).1; omega))
              obtain ⟨ve200_0, rfl, ge200_0⟩ := k55_openM hMe200
              have hv200_0 := hcc200 0 _ rfl
              rw [Nat.add_zero] at hv200_0
              replace hv200_0 := Option.some.inj (hv200_0.symm.trans hx200_0)
              rw [hv200_0] at ge200_0
              have HL200_0 := Aside0.mk (show Kd.R (Kd.int .i64) 3 _ _ _ _ ((rd_T55 t186 x15_2).f0) from ge200_0)
              clear hv200_0 ge200_0
              clear hcc200 hce200
              have HR200_0 := Aside0.mk hi200_0
              have HC200_0 := Aside0.mk hl200_0
              clear hi200_0 hl200_0
              replace p200 := eq_true p200
              replace q200 := eq_true q200
              refine start_ (n := 10) (S := fun w' => w'.cell? ⟨gb199, 0, none⟩ = some (u200000) ∧ w'.cell? ⟨gb199, 1, none⟩ = some (.int .u8 0) ∧ w'.cell? ⟨gb199, 2, none⟩ = some (.int .u8 0) ∧ w'.cell? ⟨gb199, 3, none⟩ = some (.int .u8 0) ∧ w'.cell? (ad198.add ((x15_2).toNat * 3)) = some (.slice A200_0 ((rd_T55 t186 x15_2).f0).length c200_0) ∧ w'.cell? ⟨(ad198.add ((x15_2).toNat * 3)).block, (ad198.add ((x15_2).toNat * 3)).off + 1, none⟩ = some (.int .i64 ((rd_T55 t186 x15_2).f1)) ∧ w'.cell? ⟨(ad198.add ((x15_2).toNat * 3)).block, (ad198.add ((x15_2).toNat * 3)).off + 2, none⟩ = some (.int .i64 ((rd_T55 t186 x15_2).f2))) (ds := [7, 9]) #[false, false, false, false, false, false, false, false, false, false] (by kernel_rfl) rfl rfl ⟨(blk_cell BK199.out 0).trans rfl, (blk_cell BK199.out 1).trans rfl, (blk_cell BK199.out 2).trans rfl, (blk_cell BK199.out 3).trans rfl, hx200_0, hx200_1, hx200_2⟩ (fun hHeld => ?_); refine with_tabW selvedgeref15_Sequences.tab17 selvedgeref15_Sequences.bits17 (fun HT_ HW_ => ?_)
              generalize wr.drew = w22 at HO_8 HO_9 HO_10 HO_11 HO_12 HO_200000 BK199 HB HL200_0 HR200_0 hx200_0 hx200_1 hx200_2 hHeld ⊢
              refine pure_ (i := 0) (N := some 59) (v := ?_) (a' := ?_) #[true, false, false, false, false, false, false, false, false, false] rfl rfl (any_of HT_.out (by kernel_rfl)) (fun _ _ _ h => h) (Or.inl ⟨by rfl, ?_⟩) ?_ ?_
              rotate_left
              ·intro w'
               go_simp
               with_reducible rfl
              rotate_left
              ·simp only [Act.put, List.setIfInBounds_toArray, List.set_cons_zero, List.set_cons_succ, i64_w, i32_w]
               rfl
              refine pure_ (i := 2) (N := some 61) (v := ?_) (a' := ?_) #[true, false, true, false, false, false, false, false, false, false] rfl rfl (any_of HT_.out (by kernel_rfl)) (fun _ _ _ h => h) (Or.inl ⟨by rfl, ?_⟩) ?_ ?_
              rotate_left
              ·intro w'
               go_simp
               with_reducible rfl
              rotate_left
              ·simp only [Act.put, List.setIfInBounds_toArray, List.set_cons_zero, List.set_cons_succ, i64_w, i32_w]
               rfl
              refine pure_ (i := 3) (N := some 62) (v := ?_) (a' := ?_) #[true, false, true, true, false, false, false, false, false, false] rfl rfl (any_of HT_.out (by kernel_rfl)) (fun _ _ _ h => h) (Or.inl ⟨by rfl, ?_⟩) ?_ ?_
              rotate_left
              ·intro w'
               go_simp
               with_reducible rfl
              rotate_left
              ·simp only [Act.put, List.setIfInBounds_toArray, List.set_cons_zero, List.set_cons_succ, i64_w, i32_w]
               rfl
              refine pure_ (i := 4) (N := some 63) (v := ?_) (a' := ?_) #[true, false, true, true, true, false, false, false, false, false] rfl rfl (any_of HT_.out (by kernel_rfl)) (fun _ _ _ h => h) (Or.inl ⟨by rfl, ?_⟩) ?_ ?_
              rotate_left
              ·intro w'
               go_simp
               with_reducible rfl
              rotate_left
              ·simp only [Act.put, List.setIfInBounds_toArray, List.set_cons_zero, List.set_cons_succ, i64_w, i32_w]
               rfl
              refine pure_ (i := 5) (N := some 64) (v := ?_) (a' := ?_) #[true, false, true, true, true, true, false, false, false, false] rfl rfl (any_of HT_.out (by kernel_rfl)) (fun _ _ _ h => h) (Or.inl ⟨by rfl, ?_⟩) ?_ ?_
              rotate_left
              ·intro w'
               go_simp
               with_reducible rfl
              rotate_left
              ·simp only [Act.put, List.setIfInBounds_toArray, List.set_cons_zero, List.set_cons_succ, i64_w, i32_w]
               rfl
              refine take_ (i := 1) (N := some 60) (v := ?_) (a' := ?_) #[true, true, true, true, true, true, false, false, false, false] rfl rfl (take_ofW HT_.out HW_.out (by kernel_rfl)) (fun _ _ _ h => h) (Or.inl ⟨by rfl, ?_⟩) hHeld ?_ ?_
              rotate_left
              ·rintro w' ⟨s0, s1, s2, s3, s4, s5, s6⟩
               go_simp
               with_reducible rfl
              rotate_left
              ·simp only [Act.put, List.setIfInBounds_toArray, List.set_cons_zero, List.set_cons_succ, i64_w, i32_w]
               rfl
              refine take_ (i := 6) (N := some 65) (v := ?_) (a' := ?_) #[true, true, true, true, true, true, true, false, false, false] rfl rfl (take_ofW HT_.out HW_.out (by kernel_rfl)) (fun _ _ _ h => h) (Or.inl ⟨by rfl, ?_⟩) hHeld ?_ ?_
              rotate_left
              ·rintro w' ⟨s0, s1, s2, s3, s4, s5, s6⟩
               go_simp
               with_reducible rfl
              rotate_left
              ·simp only [Act.put, List.setIfInBounds_toArray, List.set_cons_zero, List.set_cons_succ, i64_w, i32_w]
               rfl
              refine last_ (i := 7) (N := some 66) #[true, true, true, true, true, true, true, true, false, false] rfl rfl (one_of HT_.out (by kernel_rfl)) (by decide) (fun K hK => ?_)
              refine Kd.R_append_rows_step (Kd.int .i64) (w0 := w) w.heap.size (by rfl) (.tmp 60) (.tmp 65) 33 3 (.int .i64 0) 8 rfl Try.underlying33 info3 rfl (by decide) (by omega) u200000 x200000_2 ((rd_T55 t186 x15_2).f0) _ _ _ (fun k_ => some k_ ≠ (v190 : Value).ownBlock) (fun _ => False) rfl rfl ?aO ?aR (fun _ _ h => h) (fun _ h => h.elim) ?aF ?aB ?aS ?aL ?_
              (case aR => repeat (first | exact (by repeat (first | (with_reducible exact HR200_0.out) | (with_reducible refine Kd.C_alloc ?_ _) | (with_reducible refine Kd.C_drewN ?_ _) | (with_reducible refine Kd.C_drew ?_) | exact HR200_0.out)) | (with_reducible refine Kd.C_alloc ?_ _) | (with_reducible refine Kd.C_drewN ?_ _) | (with_reducible refine Kd.C_drew ?_)))
              (case aB => exact (by repeat (first | (with_reducible first | exact HB.out | apply below_alloc | apply pw_below_drewN | apply below_drew1 | refine below_set ?_ GE199.out) | exact HB.out)))
              (case aF => exact (fun k_ hk => Kd.fresh' (Kd.R_lt (mvR HO_9)) k_ hk))
              (case aO => exact (mvR HO_200000))
              (case aS => exact (below_size (by repeat (first | (with_reducible first | exact HB.out | apply below_alloc | apply pw_below_drewN | apply below_drew1 | refine below_set ?_ GE199.out) | exact HB.out))))
              (case aL => have := LMc21.out; omega)
              intro v202 w23 ho hb hg hat
              rw [← Ny201.out] at ho
              have n0_ := Aside0.mk (Kd.S_after (ok := (fun k_ => some k_ ≠ (v190 : Value).ownBlock)) (by (with_reducible repeat (first | apply Kd.S_alloc | apply Kd.S_drewN | apply Kd.S_drew)); exact HO_8.out) hg hat)
              have n1_ := Aside0.mk (Kd.R_after (ok := (fun _ => True)) (by (with_reducible repeat (first | apply Kd.R_alloc | apply Kd.R_drewN | apply Kd.R_drew)); exact Kd.R_mono HO_9.out (fun _ hk => ⟨trivial, hk⟩)) hg hat)
              have n2_ := Aside0.mk (Kd.R_over' (mvR HO_10) (Kd.R_typed (mvR HO_200000)) (by decide) hg)
              have n3_ := Aside0.mk (Kd.R_over' (mvR HO_11) (Kd.R_typed (mvR HO_200000)) (by decide) hg)
              have n4_ := Aside0.mk (Kd.S_after (ok := (fun k_ => some k_ ≠ (v190 : Value).ownBlock ∧ k_ ≠ gb199)) (by (with_reducible repeat (first | apply Kd.S_alloc | apply Kd.S_drewN | apply Kd.S_drew)); exact Kd.S_mono HO_12.out (fun _ hk => ⟨⟨hk.1, hk.2.2⟩, hk.2.1⟩)) hg hat)
              have n5_ := Aside0.mk (blk_grown (g := gb199) (o := .cells #[u200000, .int .u8 0, .int .u8 0, .int .u8 0] 56 (0, 0)) (by (with_reducible repeat (first | refine blk_drewN ?_ _ | refine blk_drew ?_ | refine blk_alloc ?_ _)); exact BK199.out) hg (Kd.R_ne HO_200000.out BK199.out (by decide)))
              have n6_ := Aside0.mk (Kd.R_after (ok := (fun k_ => some k_ ≠ (.slice (some ad198) t186.length co16 : Value).ownBlock ∧ some k_ ≠ (v190 : Value).ownBlock)) (by (with_reducible repeat (first | apply Kd.R_alloc | apply Kd.R_drewN | apply Kd.R_drew)); exact Kd.R_mono HL200_0.out (fun _ hk => ⟨⟨hk.2, hk.1.1⟩, hk.1.2⟩)) hg hat)
              have n7_ := Aside0.mk (hb)
              have n8_ := Aside0.mk (ho)
              clear HO_8
              clear HO_9
              clear HO_10
              clear HO_11
              clear HO_12
              clear BK199
              clear HL200_0
              clear HB
              clear HO_200000
              have HO_8 := n0_
              have HO_9 := n1_
              have HO_10 := n2_
              have HO_11 := n3_
              have HO_12 := n4_
              have BK199 := n5_
              have HL200_0 := n6_
              have HB := n7_
              have HO203 := n8_
              clear n0_ n1_ n2_ n3_ n4_ n5_ n6_ n7_ n8_
              clear ho hb hg hat
              obtain ⟨Ao24, co24, eo24⟩ := Kd.R_slice HO203.out
              (first | subst eo24 | (injection eo24 with f1_ f2_ f3_; have f4_ := f1_.symm; have f5_ := f3_.symm; clear f1_ f2_ f3_; subst f4_; subst f5_))
              refine hK.out _ _ ?_
              clear hK K
              refine norm_ (a' := ?_) ?_ ?_
              rotate_left
              ·show Act.put _ (some 66) _ = _
               simp only [Act.put, List.setIfInBounds_toArray, List.set_cons_zero, List.set_cons_succ, i64_w, i32_w]
               rfl
              refine pure_ (i := 8) (N := some 67) (v := ?_) (a' := ?_) #[true, true, true, true, true, true, true, true, true, false] rfl rfl (any_of HT_.out (by kernel_rfl)) (fun _ _ _ h => h) (Or.inl ⟨by rfl, ?_⟩) ?_ ?_
              rotate_left
              ·intro w'
               go_simp
               with_reducible rfl
              rotate_left
              ·simp only [Act.put, List.setIfInBounds_toArray, List.set_cons_zero, List.set_cons_succ, i64_w, i32_w]
               rfl
              refine last_ (i := 9) (N := none) #[true, true, true, true, true, true, true, true, true, true] rfl rfl (one_of HT_.out (by kernel_rfl)) (by decide) (fun K hK => ?_)
              have hs25 : w23.cell? ⟨gb199, 0, none⟩ = some (u200000) := (blk_cell BK199.out 0).trans rfl
              have hfs25 := blk_frozen BK199.out 0
              refine skip_ (w1 := ?_) (by rfl) rfl ?_ ?_
              rotate_left
              ·go_simp
               rfl
              refine hK.out _ _ ?_
              clear hK K
              refine done_ (done_of HT_.out (by kernel_rfl)) ?_
              have n0_ : Aside0 (Kd.S k55 55 (w23.setCell ⟨gb199, 0, none⟩ (.slice Ao24 y201.length co24)) w.heap.size (fun k_ => some k_ ≠ (v190 : Value).ownBlock ∧ some k_ ≠ (.slice Ao24 y201.length co24 : Value).ownBlock) (.slice (some ad198) t186.length co16) t186) := ⟨by (with_reducible repeat (first | apply Kd.S_alloc | apply Kd.S_drewN | apply Kd.S_drew)); exact Kd.S_mono (Kd.S_far (p := ⟨gb199, 0, none⟩) (Kd.S_types HO_8.out BK199.out (by decide)) (fun _ hk => hk.2) (.slice Ao24 y201.length co24)) (fun _ hk => by first | exact ⟨hk.1.1, hk.1.2⟩ | exact ⟨hk.1.2, hk.1.1⟩)⟩
              have n1_ : Aside0 (Kd.R (Kd.int .i64) 3 (w23.setCell ⟨gb199, 0, none⟩ (.slice Ao24 y201.length co24)) w.heap.size (fun k_ => some k_ ≠ (.slice Ao24 y201.length co24 : Value).ownBlock) v190 t189) := ⟨by (with_reducible repeat (first | apply Kd.R_alloc | apply Kd.R_drewN | apply Kd.R_drew)); exact Kd.R_mono (Kd.R_far (p := ⟨gb199, 0, none⟩) (Kd.R_types HO_9.out BK199.out (by decide)) (fun _ hk => hk.2) (.slice Ao24 y201.length co24)) (fun _ hk => hk.1.2)⟩
              have n2_ : Aside0 (Kd.R (Kd.int .u8) 5 (w23.setCell ⟨gb199, 0, none⟩ (.slice Ao24 y201.length co24)) w.heap.size (fun k_ => some k_ ≠ (v196 : Value).ownBlock) v194 t192) := ⟨by (with_reducible repeat (first | apply Kd.R_alloc | apply Kd.R_drewN | apply Kd.R_drew)); exact Kd.R_mono (Kd.R_far (p := ⟨gb199, 0, none⟩) (Kd.R_types HO_10.out BK199.out (by decide)) (fun _ hk => hk.2) (.slice Ao24 y201.length co24)) (fun _ hk => hk.1)⟩
              have n3_ : Aside0 (Kd.R (Kd.int .u8) 5 (w23.setCell ⟨gb199, 0, none⟩ (.slice Ao24 y201.length co24)) w.heap.size (fun k_ => some k_ ≠ (v194 : Value).ownBlock) v196 t193) := ⟨by (with_reducible repeat (first | apply Kd.R_alloc | apply Kd.R_drewN | apply Kd.R_drew)); exact Kd.R_mono (Kd.R_far (p := ⟨gb199, 0, none⟩) (Kd.R_types HO_11.out BK199.out (by decide)) (fun _ hk => hk.2) (.slice Ao24 y201.length co24)) (fun _ hk => hk.1)⟩
              have n4_ : Aside0 (Kd.S k56 56 (w23.setCell ⟨gb199, 0, none⟩ (.slice Ao24 y201.length co24)) w.heap.size (fun k_ => some k_ ≠ (v190 : Value).ownBlock ∧ some k_ ≠ (.slice Ao24 y201.length co24 : Value).ownBlock ∧ k_ ≠ gb199) u12 x12_1) := ⟨by (with_reducible repeat (first | apply Kd.S_alloc | apply Kd.S_drewN | apply Kd.S_drew)); exact Kd.S_mono (Kd.S_far (p := ⟨gb199, 0, none⟩) (Kd.S_mono HO_12.out (fun k_ hk => (⟨hk, hk.1.2⟩ : _ ∧ k_ ≠ gb199))) (fun _ hk => hk.2) (.slice Ao24 y201.length co24)) (fun _ hk => ⟨hk.1.1.1, ⟨hk.1.2, hk.1.1.2⟩⟩)⟩
              have n5_ : Aside0 (Kd.R (Kd.int .i64) 3 (w23.setCell ⟨gb199, 0, none⟩ (.slice Ao24 y201.length co24)) w.heap.size (fun k_ => some k_ ≠ (.slice (some ad198) t186.length co16 : Value).ownBlock ∧ some k_ ≠ (v190 : Value).ownBlock ∧ some k_ ≠ (.slice Ao24 y201.length co24 : Value).ownBlock) (.slice A200_0 ((rd_T55 t186 x15_2).f0).length c200_0) ((rd_T55 t186 x15_2).f0)) := ⟨by (with_reducible repeat (first | apply Kd.R_alloc | apply Kd.R_drewN | apply Kd.R_drew)); exact Kd.R_mono (Kd.R_far (p := ⟨gb199, 0, none⟩) (Kd.R_types HL200_0.out BK199.out (by decide)) (fun _ hk => hk.2) (.slice Ao24 y201.length co24)) (fun _ hk => ⟨hk.1.1.1, ⟨hk.1.1.2, hk.1.2⟩⟩)⟩
              have n6_ : Aside0 (Kd.R (Kd.int .i64) 3 (w23.setCell ⟨gb199, 0, none⟩ (.slice Ao24 y201.length co24)) w.heap.size (fun k_ => some k_ ≠ (v190 : Value).ownBlock) (.slice Ao24 y201.length co24) y201) := ⟨by (with_reducible repeat (first | apply Kd.R_alloc | apply Kd.R_drewN | apply Kd.R_drew)); exact Kd.R_mono (Kd.R_far (p := ⟨gb199, 0, none⟩) (Kd.R_types HO203.out BK199.out (by decide)) (fun _ hk => hk.2) (.slice Ao24 y201.length co24)) (fun _ hk => hk.1)⟩
              have n7_ : Aside0 ((w23.setCell ⟨gb199, 0, none⟩ (.slice Ao24 y201.length co24)).heap[gb199]? = some (.cells #[.slice Ao24 y201.length co24, .int .u8 0, .int .u8 0, .int .u8 0] 56 (0, 0))) := ⟨by (with_reducible repeat (first | refine blk_drewN ?_ _ | refine blk_drew ?_ | refine blk_alloc ?_ _)); refine blk_put (cs := #[u200000, .int .u8 0, .int .u8 0, .int .u8 0]) ?_ 0 _ rfl; (with_reducible repeat (first | refine blk_drewN ?_ _ | refine blk_drew ?_ | refine blk_alloc ?_ _)); exact BK199.out⟩
              have n8_ : Aside0 (Below w.heap.size w (w23.setCell ⟨gb199, 0, none⟩ (.slice Ao24 y201.length co24))) := ⟨by repeat (first | (with_reducible first | exact HB.out | apply below_alloc | apply pw_below_drewN | apply below_drew1 | refine below_set ?_ GE199.out) | exact HB.out)⟩
              (try clear HO_8)
              (try clear HO_9)
              (try clear HO_10)
              (try clear HO_11)
              (try clear HO_12)
              (try clear HL200_0)
              (try clear HO203)
              (try clear BK199)
              (try clear HB)
              generalize (w23.setCell ⟨gb199, 0, none⟩ (.slice Ao24 y201.length co24)) = w26 at n0_ n1_ n2_ n3_ n4_ n5_ n6_ n7_ n8_ ⊢
              have HO_8 := n0_
              have HO_9 := n1_
              have HO_10 := n2_
              have HO_11 := n3_
              have HO_12 := n4_
              have HL200_0 := n5_
              have HO203 := n6_
              have BK199 := n7_
              have HB := n8_
              clear n0_ n1_ n2_ n3_ n4_ n5_ n6_ n7_ n8_
              have p204 := dT (0 ≤ (x15_2 : Int))
              have q204 := dT (x15_2 < (t186.length : Int))
              obtain ⟨ad204, A204_0, c204_0, e204, hx204_0, hx204_1, hx204_2, hl204_0, hi204_0⟩ := at_T55 (Kd.S_reads' HO_8.out).2.2 x15_2 p204 q204
              obtain rfl : ad198 = ad204 := (by injection e204)
              obtain ⟨ce204, hce204, hMe204, hcc204⟩ := Kd.S_get HO_8.out z55 x15_2 p204 (by first | exact q204 | exact of_decide_eq_true (by first | (with_reducible assumption) | assumption) | (have e_ := (Kd.S_reads' HO_8.out).1; omega))
              obtain ⟨ve204_0, rfl, ge204_0⟩ := k55_openM hMe204
              have hv204_0 := hcc204 0 _ rfl
              rw [Nat.add_zero] at hv204_0
              replace hv204_0 := Option.some.inj (hv204_0.symm.trans hx204_0)
              rw [hv204_0] at ge204_0
              have HL204_0 := Aside0.mk (show Kd.R (Kd.int .i64) 3 _ _ _ _ ((rd_T55 t186 x15_2).f0) from ge204_0)
              clear hv204_0 ge204_0
              clear hcc204 hce204
              have HR204_0 := Aside0.mk hi204_0
              have HC204_0 := Aside0.mk hl204_0
              clear hi204_0 hl204_0
              replace p204 := eq_true p204
              replace q204 := eq_true q204
              try go_wp2
              go_roundg k2
              case measure => have := HK1.out; have := HK2.out; omega
              case rel => exact ⟨((rd_T55 t186 x15_2).f1), (y201), (.slice Ao24 y201.length co24), (by first | rfl | (simp; done) | (simp [*]; done)), H', ⟨by have := HK1.out; have := HK2.out; omega⟩, ⟨by (with_reducible repeat (first | apply Kd.S_alloc | apply Kd.S_drewN | apply Kd.S_drew)); exact HO_8.out⟩, ⟨mvR HO_9⟩, ⟨mvR HO_10⟩, ⟨mvR HO_11⟩, ⟨by (with_reducible repeat (first | apply Kd.S_alloc | apply Kd.S_drewN | apply Kd.S_drew)); exact HO_12.out⟩, ⟨mvR HO203⟩, ⟨by (with_reducible repeat (first | refine blk_drewN ?_ _ | refine blk_drew ?_ | refine blk_alloc ?_ _)); exact BK199.out⟩, ⟨by repeat (first | (with_reducible first | exact HB.out | apply below_alloc | apply pw_below_drewN | apply below_drew1 | refine below_set ?_ GE199.out) | exact HB.out)⟩⟩
             ·rw [if_neg c21] at H
              exact absurd H (by simp)
            ·rw [if_neg c20] at H
             exact absurd H (by simp)
           ·rw [if_neg c19] at H
            exact absurd H (by simp)
          ·rw [if_neg c18] at H
           have c18b0 : decide (0 ≤ x15_2) = false := decide_eq_false c18
           clear c18
           by_cases c27 : 0 < (x200000_2.length : Int)
           ·rw [if_pos c27] at H
            have c27b0 : decide (0 < (x200000_2.length : Int)) = true := decide_eq_true c27
            have c27b1 : decide (0 < x200000_2.length) = true := decide_eq_true (by omega)
            clear c27
            obtain ⟨ji28, hji28⟩ : ∃ j_ : Int, (wrap64 ((x200000_2.length : Int) - 1)) = j_ := ⟨_, rfl⟩
            replace H : (if 0 ≤ (ji28) then (if (ji28) < (x200000_2.length : Int) then (if 0 ≤ (rd x200000_2 0) then (if (rd x200000_2 0) < (l1.length : Int) then (if (rd x200000_2 0) < (t192.length : Int) then ((selvedgeref15_side.f (mx (rd l1 (rd x200000_2 0)) (rd t192 (rd x200000_2 0)))).bind fun t209 => (if 0 ≤ (rd x200000_2 (ji28)) then (if (rd x200000_2 (ji28)) < (t193.length : Int) then (if (rd x200000_2 (ji28)) < (l0.length : Int) then ((selvedgeref14_Initiator.f (rd l0 (rd x200000_2 (ji28)))).bind fun t212 => (if t212 = true then (if (rd x200000_2 (ji28)) < (t189.length : Int) then (if (rd t189 (rd x200000_2 (ji28))) < 0 then (if (rd x200000_2 (ji28)) < (l1.length : Int) then ((selvedgeref15_side.f (mx (rd l1 (rd x200000_2 (ji28))) a2)).bind fun t215 => (if x12_1.length < 4398046511104 then (selvedgeref15_Sequences.l0 k2 l0 l1 a2 t186 t189 t192 t193 (x12_1 ++ [(⟨x200000_2, rd l1 (rd x200000_2 0), t209, t215⟩ : S56)]) (wrap64 (x13_1 + 1))) else (none))) else (none)) else (if (rd x200000_2 (ji28)) < (l1.length : Int) then ((selvedgeref15_side.f (mx (rd l1 (rd x200000_2 (ji28))) (rd t193 (rd x200000_2 (ji28))))).bind fun t220 => (if x12_1.length < 4398046511104 then (selvedgeref15_Sequences.l0 k2 l0 l1 a2 t186 t189 t192 t193 (x12_1 ++ [(⟨x200000_2, rd l1 (rd x200000_2 0), t209, t220⟩ : S56)]) (wrap64 (x13_1 + 1))) else (none))) else (none))) else (none)) else (if (rd x200000_2 (ji28)) < (l1.length : Int) then ((selvedgeref15_side.f (mx (rd l1 (rd x200000_2 (ji28))) (rd t193 (rd x200000_2 (ji28))))).bind fun t225 => (if x12_1.length < 4398046511104 then (selvedgeref15_Sequences.l0 k2 l0 l1 a2 t186 t189 t192 t193 (x12_1 ++ [(⟨x200000_2, rd l1 (rd x200000_2 0), t209, t225⟩ : S56)]) (wrap64 (x13_1 + 1))) else (none))) else (none)))) else (none)) else (none)) else (none))) else (none)) else (none)) else (none)) else (none)) else (none)) = some (r1, r2) := by first | (rw [hji28] at H; exact H) | (simp only [hji28] at H ⊢; exact H)
            have hji28w : (IntKind.i64.wrap ((x200000_2.length : Int) - 1)) = ji28 := (i64_w _).trans hji28
            by_cases c29 : 0 ≤ (ji28)
            ·rw [if_pos c29] at H
             have c29b0 : decide (0 ≤ (ji28)) = true := decide_eq_true c29
             clear c29
             by_cases c30 : (ji28) < (x200000_2.length : Int)
             ·rw [if_pos c30] at H
              have c30b0 : decide ((ji28) < (x200000_2.length : Int)) = true := decide_eq_true c30
              clear c30
              by_cases c31 : 0 ≤ (rd x200000_2 0)
              ·rw [if_pos c31] at H
               have c31b0 : decide (0 ≤ (rd x200000_2 0)) = true := decide_eq_true c31
               clear c31
               by_cases c32 : (rd x200000_2 0) < (l1.length : Int)
               ·rw [if_pos c32] at H
                have c32b0 : decide ((rd x200000_2 0) < (l1.length : Int)) = true := decide_eq_true c32
                clear c32
                by_cases c33 : (rd x200000_2 0) < (t192.length : Int)
                ·rw [if_pos c33] at H
                 have c33b0 : decide ((rd x200000_2 0) < (t192.length : Int)) = true := decide_eq_true c33
                 clear c33
                 obtain ⟨ji34, hji34⟩ : ∃ j_ : Int, (mx (rd l1 (rd x200000_2 0)) (rd t192 (rd x200000_2 0))) = j_ := ⟨_, rfl⟩
                 replace H : ((selvedgeref15_side.f (ji34)).bind fun t209 => (if 0 ≤ (rd x200000_2 (ji28)) then (if (rd x200000_2 (ji28)) < (t193.length : Int) then (if (rd x200000_2 (ji28)) < (l0.length : Int) then ((selvedgeref14_Initiator.f (rd l0 (rd x200000_2 (ji28)))).bind fun t212 => (if t212 = true then (if (rd x200000_2 (ji28)) < (t189.length : Int) then (if (rd t189 (rd x200000_2 (ji28))) < 0 then (if (rd x200000_2 (ji28)) < (l1.length : Int) then ((selvedgeref15_side.f (mx (rd l1 (rd x200000_2 (ji28))) a2)).bind fun t215 => (if x12_1.length < 4398046511104 then (selvedgeref15_Sequences.l0 k2 l0 l1 a2 t186 t189 t192 t193 (x12_1 ++ [(⟨x200000_2, rd l1 (rd x200000_2 0), t209, t215⟩ : S56)]) (wrap64 (x13_1 + 1))) else (none))) else (none)) else (if (rd x200000_2 (ji28)) < (l1.length : Int) then ((selvedgeref15_side.f (mx (rd l1 (rd x200000_2 (ji28))) (rd t193 (rd x200000_2 (ji28))))).bind fun t220 => (if x12_1.length < 4398046511104 then (selvedgeref15_Sequences.l0 k2 l0 l1 a2 t186 t189 t192 t193 (x12_1 ++ [(⟨x200000_2, rd l1 (rd x200000_2 0), t209, t220⟩ : S56)]) (wrap64 (x13_1 + 1))) else (none))) else (none))) else (none)) else (if (rd x200000_2 (ji28)) < (l1.length : Int) then ((selvedgeref15_side.f (mx (rd l1 (rd x200000_2 (ji28))) (rd t193 (rd x200000_2 (ji28))))).bind fun t225 => (if x12_1.length < 4398046511104 then (selvedgeref15_Sequences.l0 k2 l0 l1 a2 t186 t189 t192 t193 (x12_1 ++ [(⟨x200000_2, rd l1 (rd x200000_2 0), t209, t225⟩ : S56)]) (wrap64 (x13_1 + 1))) else (none))) else (none)))) else (none)) else (none)) else (none))) = some (r1, r2) := by first | (rw [hji34] at H; exact H) | (simp only [hji34] at H ⊢; exact H)
                 have hji34_ : (if (rd l1 (rd x200000_2 0)) < (rd t192 (rd x200000_2 0)) then (rd t192 (rd x200000_2 0)) else (rd l1 (rd x200000_2 0))) = ji34 := hji34
                 replace H := Option.bind_eq_some_iff.mp H
                 obtain ⟨t209, A350, H⟩ := H
                 replace H : (if 0 ≤ (rd x200000_2 (ji28)) then (if (rd x200000_2 (ji28)) < (t193.length : Int) then (if (rd x200000_2 (ji28)) < (l0.length : Int) then ((selvedgeref14_Initiator.f (rd l0 (rd x200000_2 (ji28)))).bind fun t212 => (if t212 = true then (if (rd x200000_2 (ji28)) < (t189.length : Int) then (if (rd t189 (rd x200000_2 (ji28))) < 0 then (if (rd x200000_2 (ji28)) < (l1.length : Int) then ((selvedgeref15_side.f (mx (rd l1 (rd x200000_2 (ji28))) a2)).bind fun t215 => (if x12_1.length < 4398046511104 then (selvedgeref15_Sequences.l0 k2 l0 l1 a2 t186 t189 t192 t193 (x12_1 ++ [(⟨x200000_2, rd l1 (rd x200000_2 0), t209, t215⟩ : S56)]) (wrap64 (x13_1 + 1))) else (none))) else (none)) else (if (rd x200000_2 (ji28)) < (l1.length : Int) then ((selvedgeref15_side.f (mx (rd l1 (rd x200000_2 (ji28))) (rd t193 (rd x200000_2 (ji28))))).bind fun t220 => (if x12_1.length < 4398046511104 then (selvedgeref15_Sequences.l0 k2 l0 l1 a2 t186 t189 t192 t193 (x12_1 ++ [(⟨x200000_2, rd l1 (rd x200000_2 0), t209, t220⟩ : S56)]) (wrap64 (x13_1 + 1))) else (none))) else (none))) else (none)) else (if (rd x200000_2 (ji28)) < (l1.length : Int) then ((selvedgeref15_side.f (mx (rd l1 (rd x200000_2 (ji28))) (rd t193 (rd x200000_2 (ji28))))).bind fun t225 => (if x12_1.length < 4398046511104 then (selvedgeref15_Sequences.l0 k2 l0 l1 a2 t186 t189 t192 t193 (x12_1 ++ [(⟨x200000_2, rd l1 (rd x200000_2 0), t209, t225⟩ : S56)]) (wrap64 (x13_1 + 1))) else (none))) else (none)))) else (none)) else (none)) else (none)) = some (r1, r2) := H
                 have A35 := Aside0.mk A350
                 clear A350
                 by_cases c36 : 0 ≤ (rd x200000_2 (ji28))
                 ·rw [if_pos c36] at H
                  have c36b0 : decide (0 ≤ (rd x200000_2 (ji28))) = true := decide_eq_true c36
                  clear c36
                  by_cases c37 : (rd x200000_2 (ji28)) < (t193.length : Int)
                  ·rw [if_pos c37] at H
                   have c37b0 : decide ((rd x200000_2 (ji28)) < (t193.length : Int)) = true := decide_eq_true c37
                   clear c37
                   by_cases c38 : (rd x200000_2 (ji28)) < (l0.length : Int)
                   ·rw [if_pos c38] at H
                    have c38b0 : decide ((rd x200000_2 (ji28)) < (l0.length : Int)) = true := decide_eq_true c38
                    clear c38
                    replace H := Option.bind_eq_some_iff.mp H
                    obtain ⟨t212, A390, H⟩ := H
                    replace H : (if t212 = true then (if (rd x200000_2 (ji28)) < (t189.length : Int) then (if (rd t189 (rd x200000_2 (ji28))) < 0 then (if (rd x200000_2 (ji28)) < (l1.length : Int) then ((selvedgeref15_side.f (mx (rd l1 (rd x200000_2 (ji28))) a2)).bind fun t215 => (if x12_1.length < 4398046511104 then (selvedgeref15_Sequences.l0 k2 l0 l1 a2 t186 t189 t192 t193 (x12_1 ++ [(⟨x200000_2, rd l1 (rd x200000_2 0), t209, t215⟩ : S56)]) (wrap64 (x13_1 + 1))) else (none))) else (none)) else (if (rd x200000_2 (ji28)) < (l1.length : Int) then ((selvedgeref15_side.f (mx (rd l1 (rd x200000_2 (ji28))) (rd t193 (rd x200000_2 (ji28))))).bind fun t220 => (if x12_1.length < 4398046511104 then (selvedgeref15_Sequences.l0 k2 l0 l1 a2 t186 t189 t192 t193 (x12_1 ++ [(⟨x200000_2, rd l1 (rd x200000_2 0), t209, t220⟩ : S56)]) (wrap64 (x13_1 + 1))) else (none))) else (none))) else (none)) else (if (rd x200000_2 (ji28)) < (l1.length : Int) then ((selvedgeref15_side.f (mx (rd l1 (rd x200000_2 (ji28))) (rd t193 (rd x200000_2 (ji28))))).bind fun t225 => (if x12_1.length < 4398046511104 then (selvedgeref15_Sequences.l0 k2 l0 l1 a2 t186 t189 t192 t193 (x12_1 ++ [(⟨x200000_2, rd l1 (rd x200000_2 0), t209, t225⟩ : S56)]) (wrap64 (x13_1 + 1))) else (none))) else (none))) = some (r1, r2) := H
                    have A39 := Aside0.mk A390
                    clear A390
                    by_cases c40 : t212 = true
                    ·subst c40
                     have H1 : (if (rd x200000_2 (ji28)) < (t189.length : Int) then (if (rd t189 (rd x200000_2 (ji28))) < 0 then (if (rd x200000_2 (ji28)) < (l1.length : Int) then ((selvedgeref15_side.f (mx (rd l1 (rd x200000_2 (ji28))) a2)).bind fun t215 => (if x12_1.length < 4398046511104 then (selvedgeref15_Sequences.l0 k2 l0 l1 a2 t186 t189 t192 t193 (x12_1 ++ [(⟨x200000_2, rd l1 (rd x200000_2 0), t209, t215⟩ : S56)]) (wrap64 (x13_1 + 1))) else (none))) else (none)) else (if (rd x200000_2 (ji28)) < (l1.length : Int) then ((selvedgeref15_side.f (mx (rd l1 (rd x200000_2 (ji28))) (rd t193 (rd x200000_2 (ji28))))).bind fun t220 => (if x12_1.length < 4398046511104 then (selvedgeref15_Sequences.l0 k2 l0 l1 a2 t186 t189 t192 t193 (x12_1 ++ [(⟨x200000_2, rd l1 (rd x200000_2 0), t209, t220⟩ : S56)]) (wrap64 (x13_1 + 1))) else (none))) else (none))) else (none)) = some (r1, r2) := by rw [if_pos rfl] at H; exact H
                     clear H
                     have H := H1
                     clear H1
                     by_cases c41 : (rd x200000_2 (ji28)) < (t189.length : Int)
                     ·rw [if_pos c41] at H
                      have c41b0 : decide ((rd x200000_2 (ji28)) < (t189.length : Int)) = true := decide_eq_true c41
                      clear c41
                      by_cases c42 : (rd t189 (rd x200000_2 (ji28))) < 0
                      ·rw [if_pos c42] at H
                       have c42b0 : decide ((rd t189 (rd x200000_2 (ji28))) < 0) = true := decide_eq_true c42
                       clear c42
                       by_cases c43 : (rd x200000_2 (ji28)) < (l1.length : Int)
                       ·rw [if_pos c43] at H
                        have c43b0 : decide ((rd x200000_2 (ji28)) < (l1.length : Int)) = true := decide_eq_true c43
                        clear c43
                        obtain ⟨ji44, hji44⟩ : ∃ j_ : Int, (mx (rd l1 (rd x200000_2 (ji28))) a2) = j_ := ⟨_, rfl⟩
                        replace H : ((selvedgeref15_side.f (ji44)).bind fun t215 => (if x12_1.length < 4398046511104 then (selvedgeref15_Sequences.l0 k2 l0 l1 a2 t186 t189 t192 t193 (x12_1 ++ [(⟨x200000_2, rd l1 (rd x200000_2 0), t209, t215⟩ : S56)]) (wrap64 (x13_1 + 1))) else (none))) = some (r1, r2) := by first | (rw [hji44] at H; exact H) | (simp only [hji44] at H ⊢; exact H)
                        (try rw [hji44] at A35)
                        (try rw [hji44] at A39)
                        have hji44_ : (if (rd l1 (rd x200000_2 (ji28))) < a2 then a2 else (rd l1 (rd x200000_2 (ji28)))) = ji44 := hji44
                        replace H := Option.bind_eq_some_iff.mp H
                        obtain ⟨t215, A450, H⟩ := H
                        replace H : (if x12_1.length < 4398046511104 then (selvedgeref15_Sequences.l0 k2 l0 l1 a2 t186 t189 t192 t193 (x12_1 ++ [(⟨x200000_2, rd l1 (rd x200000_2 0), t209, t215⟩ : S56)]) (wrap64 (x13_1 + 1))) else (none)) = some (r1, r2) := H
                        have A45 := Aside0.mk A450
                        clear A450
                        by_cases c46 : x12_1.length < 4398046511104
                        ·rw [if_pos c46] at H
                         have LMc46 := Aside0.mk c46
                         clear c46
                         obtain ⟨y216, hy216⟩ : ∃ y_ : List (S56), y_ = (x12_1 ++ [(⟨x200000_2, rd l1 (rd x200000_2 0), t209, t215⟩ : S56)]) := ⟨_, rfl⟩
                         replace H : (selvedgeref15_Sequences.l0 k2 l0 l1 a2 t186 t189 t192 t193 y216 (wrap64 (x13_1 + 1))) = some (r1, r2) := by first | (rw [hy216]; with_reducible exact H) | (have H2_ := (Option.bind_some _ _).symm.trans H; rw [hy216]; with_reducible exact H2_) | (have H2_ := (Option.bind_some _ _).symm.trans H; with_reducible exact H2_) | with_reducible exact H | (rw [hy216]; exact H) | exact H
                         have Ny216 := Aside0.mk hy216
                         clear hy216
                         have H' := Aside0.mk H
                         clear H
                         try go_wp2
                         have n0_ := Aside0.mk (Kd.S_drew HO_8.out)
                         have n1_ := Aside0.mk (Kd.R_drew HO_9.out)
                         have n2_ := Aside0.mk (Kd.R_drew HO_10.out)
                         have n3_ := Aside0.mk (Kd.R_drew HO_11.out)
                         have n4_ := Aside0.mk (Kd.S_drew HO_12.out)
                         have n5_ := Aside0.mk (Kd.R_drew HO_200000.out)
                         have n6_ := Aside0.mk (blk_drew BK199.out)
                         have n7_ := Aside0.mk (below_drew1 HB.out)
                         clear HO_8
                         clear HO_9
                         clear HO_10
                         clear HO_11
                         clear HO_12
                         clear HO_200000
                         clear BK199
                         clear HB
                         have HO_8 := n0_
                         have HO_9 := n1_
                         have HO_10 := n2_
                         have HO_11 := n3_
                         have HO_12 := n4_
                         have HO_200000 := n5_
                         have BK199 := n6_
                         have HB := n7_
                         clear n0_ n1_ n2_ n3_ n4_ n5_ n6_ n7_
                         obtain ⟨Ao48, co48, eo48⟩ := Kd.R_slice HO_200000.out
                         (first | subst eo48 | (injection eo48 with f1_ f2_ f3_; have f4_ := f1_.symm; have f5_ := f3_.symm; clear f1_ f2_ f3_; subst f4_; subst f5_))
                         have p205 : 0 ≤ (0 : Int) := (by omega)
                         have q205 := dT (0 < (x200000_2.length : Int))
                         obtain ⟨ad205, e205, hx205_0⟩ := Kd.at_int (Kd.R_reads' HO_200000.out).2.2 0 p205 q205
                         cases e205
                         have qi205 : (0 < x200000_2.length) = True := eq_true (by omega)
                         (try rw [show ((0 : Int)).toNat = 0 from rfl] at hx205_0)
                         (try rw [Addr.add_zero'] at hx205_0)
                         replace p205 := eq_true p205
                         replace q205 := eq_true q205
                         obtain ⟨ad206, e206, hx206_0, p206, q206⟩ := atI (Kd.R_reads' HO_200000.out).2.2 (ji28)
                         obtain rfl : ad205 = ad206 := (by injection e206)
                         refine start_ (n := 14) (S := fun w' => w'.cell? ⟨gb199, 0, none⟩ = some (.slice (some ad205) x200000_2.length co48) ∧ w'.cell? ⟨gb199, 1, none⟩ = some (.int .u8 0) ∧ w'.cell? ⟨gb199, 2, none⟩ = some (.int .u8 0) ∧ w'.cell? ⟨gb199, 3, none⟩ = some (.int .u8 0) ∧ w'.cell? ad205 = some (.int .i64 (rd x200000_2 0)) ∧ w'.cell? (ad205.add ((ji28)).toNat) = some (.int .i64 (rd x200000_2 (ji28)))) (ds := []) #[false, false, false, false, false, false, false, false, false, false, false, false, false, false] (by kernel_rfl) rfl rfl ⟨(blk_cell BK199.out 0).trans rfl, (blk_cell BK199.out 1).trans rfl, (blk_cell BK199.out 2).trans rfl, (blk_cell BK199.out 3).trans rfl, hx205_0, hx206_0⟩ (fun hHeld => ?_); refine with_tabW selvedgeref15_Sequences.tab18 selvedgeref15_Sequences.bits18 (fun HT_ HW_ => ?_)
                         generalize wr.drew = w47 at HO_8 HO_9 HO_10 HO_11 HO_12 HO_200000 BK199 HB hx205_0 hx206_0 hHeld ⊢
                         refine pure_ (i := 0) (N := some 68) (v := ?_) (a' := ?_) #[true, false, false, false, false, false, false, false, false, false, false, false, false, false] rfl rfl (any_of HT_.out (by kernel_rfl)) (fun _ _ _ h => h) (Or.inl ⟨by rfl, ?_⟩) ?_ ?_
                         rotate_left
                         ·intro w'
                          go_simp
                          with_reducible rfl
                         rotate_left
                         ·simp only [Act.put, List.setIfInBounds_toArray, List.set_cons_zero, List.set_cons_succ, i64_w, i32_w]
                          rfl
                         refine pure_ (i := 4) (N := some 72) (v := ?_) (a' := ?_) #[true, false, false, false, true, false, false, false, false, false, false, false, false, false] rfl rfl (any_of HT_.out (by kernel_rfl)) (fun _ _ _ h => h) (Or.inl ⟨by rfl, ?_⟩) ?_ ?_
                         rotate_left
                         ·intro w'
                          go_simp
                          with_reducible rfl
                         rotate_left
                         ·simp only [Act.put, List.setIfInBounds_toArray, List.set_cons_zero, List.set_cons_succ, i64_w, i32_w]
                          rfl
                         refine pure_ (i := 6) (N := some 74) (v := ?_) (a' := ?_) #[true, false, false, false, true, false, true, false, false, false, false, false, false, false] rfl rfl (any_of HT_.out (by kernel_rfl)) (fun _ _ _ h => h) (Or.inl ⟨by rfl, ?_⟩) ?_ ?_
                         rotate_left
                         ·intro w'
                          go_simp
                          with_reducible rfl
                         rotate_left
                         ·simp only [Act.put, List.setIfInBounds_toArray, List.set_cons_zero, List.set_cons_succ, i64_w, i32_w]
                          rfl
                         refine take_ (i := 1) (N := some 69) (v := ?_) (a' := ?_) #[true, true, false, false, true, false, true, false, false, false, false, false, false, false] rfl rfl (take_ofW HT_.out HW_.out (by kernel_rfl)) (fun _ _ _ h => h) (Or.inl ⟨by rfl, ?_⟩) hHeld ?_ ?_
                         rotate_left
                         ·rintro w' ⟨s0, s1, s2, s3, s4, s5⟩
                          go_simp
                          with_reducible rfl
                         rotate_left
                         ·simp only [Act.put, List.setIfInBounds_toArray, List.set_cons_zero, List.set_cons_succ, i64_w, i32_w]
                          rfl
                         refine pure_ (i := 2) (N := some 70) (v := ?_) (a' := ?_) #[true, true, true, false, true, false, true, false, false, false, false, false, false, false] rfl rfl (any_of HT_.out (by kernel_rfl)) (fun _ _ _ h => h) (Or.inl ⟨by rfl, ?_⟩) ?_ ?_
                         rotate_left
                         ·intro w'
                          go_simp
                          with_reducible rfl
                         rotate_left
                         ·simp only [Act.put, List.setIfInBounds_toArray, List.set_cons_zero, List.set_cons_succ, i64_w, i32_w]
                          rfl
                         refine take_ (i := 3) (N := some 71) (v := ?_) (a' := ?_) #[true, true, true, true, true, false, true, false, false, false, false, false, false, false] rfl rfl (take_ofW HT_.out HW_.out (by kernel_rfl)) (fun _ _ _ h => h) (Or.inl ⟨by rfl, ?_⟩) hHeld ?_ ?_
                         rotate_left
                         ·rintro w' ⟨s0, s1, s2, s3, s4, s5⟩
                          go_simp
                          with_reducible rfl
                         rotate_left
                         ·simp only [Act.put, List.setIfInBounds_toArray, List.set_cons_zero, List.set_cons_succ, i64_w, i32_w]
                          rfl
                         refine pure_ (i := 12) (N := some 16) (v := ?_) (a' := ?_) #[true, true, true, true, true, false, true, false, false, false, false, false, true, false] rfl rfl (any_of HT_.out (by kernel_rfl)) (fun _ _ _ h => h) (Or.inl ⟨by rfl, ?_⟩) ?_ ?_
                         rotate_left
                         ·intro w'
                          go_simp
                          with_reducible rfl
                         rotate_left
                         ·simp only [Act.put, List.setIfInBounds_toArray, List.set_cons_zero, List.set_cons_succ, i64_w, i32_w]
                          rfl
                         refine take_ (i := 5) (N := some 73) (v := ?_) (a' := ?_) #[true, true, true, true, true, true, true, false, false, false, false, false, true, false] rfl rfl (take_ofW HT_.out HW_.out (by kernel_rfl)) (fun _ _ _ h => h) (Or.inl ⟨by rfl, ?_⟩) hHeld ?_ ?_
                         rotate_left
                         ·rintro w' ⟨s0, s1, s2, s3, s4, s5⟩
                          go_simp
                          with_reducible rfl
                         rotate_left
                         ·simp only [Act.put, List.setIfInBounds_toArray, List.set_cons_zero, List.set_cons_succ, i64_w, i32_w]
                          rfl
                         refine take_ (i := 7) (N := some 75) (v := ?_) (a' := ?_) #[true, true, true, true, true, true, true, true, false, false, false, false, true, false] rfl rfl (take_ofW HT_.out HW_.out (by kernel_rfl)) (fun _ _ _ h => h) (Or.inl ⟨by rfl, ?_⟩) hHeld ?_ ?_
                         rotate_left
                         ·rintro w' ⟨s0, s1, s2, s3, s4, s5⟩
                          go_simp
                          with_reducible rfl
                         rotate_left
                         ·simp only [Act.put, List.setIfInBounds_toArray, List.set_cons_zero, List.set_cons_succ, i64_w, i32_w]
                          rfl
                         refine pure_ (i := 8) (N := some 76) (v := ?_) (a' := ?_) #[true, true, true, true, true, true, true, true, true, false, false, false, true, false] rfl rfl (any_of HT_.out (by kernel_rfl)) (fun _ _ _ h => h) (Or.inl ⟨by rfl, ?_⟩) ?_ ?_
                         rotate_left
                         ·intro w'
                          go_simp
                          with_reducible rfl
                         rotate_left
                         ·simp only [Act.put, List.setIfInBounds_toArray, List.set_cons_zero, List.set_cons_succ, i64_w, i32_w]
                          rfl
                         refine pure_ (i := 9) (N := some 77) (v := ?_) (a' := ?_) #[true, true, true, true, true, true, true, true, true, true, false, false, true, false] rfl rfl (any_of HT_.out (by kernel_rfl)) (fun _ _ _ h => h) (Or.inl ⟨by rfl, ?_⟩) ?_ ?_
                         rotate_left
                         ·intro w'
                          go_simp
                          with_reducible rfl
                         rotate_left
                         ·simp only [Act.put, List.setIfInBounds_toArray, List.set_cons_zero, List.set_cons_succ, i64_w, i32_w]
                          rfl
                         refine pure_ (i := 10) (N := some 78) (v := ?_) (a' := ?_) #[true, true, true, true, true, true, true, true, true, true, true, false, true, false] rfl rfl (any_of HT_.out (by kernel_rfl)) (fun _ _ _ h => h) (Or.inl ⟨by rfl, ?_⟩) ?_ ?_
                         rotate_left
                         ·intro w'
                          go_simp
                          with_reducible rfl
                         rotate_left
                         ·simp only [Act.put, List.setIfInBounds_toArray, List.set_cons_zero, List.set_cons_succ, i64_w, i32_w]
                          rfl
                         refine take_ (i := 11) (N := some 79) (v := ?_) (a' := ?_) #[true, true, true, true, true, true, true, true, true, true, true, true, true, false] rfl rfl (take_ofW HT_.out HW_.out (by kernel_rfl)) (fun _ _ _ h => h) (Or.inl ⟨by rfl, ?_⟩) hHeld ?_ ?_
                         rotate_left
                         ·rintro w' ⟨s0, s1, s2, s3, s4, s5⟩
                          go_simp
                          with_reducible rfl
                         rotate_left
                         ·simp only [Act.put, List.setIfInBounds_toArray, List.set_cons_zero, List.set_cons_succ, i64_w, i32_w]
                          rfl
                         refine pure_ (i := 13) (N := some 17) (v := ?_) (a' := ?_) #[true, true, true, true, true, true, true, true, true, true, true, true, true, true] rfl rfl (any_of HT_.out (by kernel_rfl)) (fun _ _ _ h => h) (Or.inl ⟨by rfl, ?_⟩) ?_ ?_
                         rotate_left
                         ·intro w'
                          go_simp
                          with_reducible rfl
                         rotate_left
                         ·simp only [Act.put, List.setIfInBounds_toArray, List.set_cons_zero, List.set_cons_succ, i64_w, i32_w]
                          rfl
                         refine done_ (done_of HT_.out (by kernel_rfl)) ?_
                         obtain ⟨ad207, e207, hx207_0, p207, q207⟩ := atI HR1.out (rd x200000_2 0)
                         cases e207
                         replace hx207_0 := (HB.out.cell (World.block_lt_of_cell? w _ hx207_0)).trans hx207_0
                         have hcz49_0 : w47.cell? ⟨gb199, 0, none⟩ = some (.slice (some ad205) x200000_2.length co48) := (blk_cell BK199.out 0).trans rfl
                         have hcz49_1 : w47.cell? ⟨gb199, 1, none⟩ = some (.int .u8 0) := (blk_cell BK199.out 1).trans rfl
                         have hcz49_2 : w47.cell? ⟨gb199, 2, none⟩ = some (.int .u8 0) := (blk_cell BK199.out 2).trans rfl
                         have hcz49_3 : w47.cell? ⟨gb199, 3, none⟩ = some (.int .u8 0) := (blk_cell BK199.out 3).trans rfl
                         have hfz49_0 := blk_frozen BK199.out 0
                         have hfz49_1 := blk_frozen BK199.out 1
                         have hfz49_2 := blk_frozen BK199.out 2
                         have hfz49_3 := blk_frozen BK199.out 3
                         try go_wp2
                         have n0_ : Aside0 (Kd.S k55 55 (w47.setCell ⟨gb199, 1, none⟩ (.int .u8 (rd l1 (rd x200000_2 0)))) w.heap.size (fun k_ => some k_ ≠ (v190 : Value).ownBlock ∧ some k_ ≠ (.slice (some ad205) x200000_2.length co48 : Value).ownBlock) (.slice (some ad198) t186.length co16) t186) := ⟨by (with_reducible repeat (first | apply Kd.S_alloc | apply Kd.S_drewN | apply Kd.S_drew)); exact Kd.S_mono (Kd.S_far (p := ⟨gb199, 1, none⟩) (Kd.S_types HO_8.out BK199.out (by decide)) (fun _ hk => hk.2) (.int .u8 (rd l1 (rd x200000_2 0)))) (fun _ hk => by first | exact ⟨hk.1.1, hk.1.2⟩ | exact ⟨hk.1.2, hk.1.1⟩)⟩
                         have n1_ : Aside0 (Kd.R (Kd.int .i64) 3 (w47.setCell ⟨gb199, 1, none⟩ (.int .u8 (rd l1 (rd x200000_2 0)))) w.heap.size (fun k_ => some k_ ≠ (.slice (some ad205) x200000_2.length co48 : Value).ownBlock) v190 t189) := ⟨by (with_reducible repeat (first | apply Kd.R_alloc | apply Kd.R_drewN | apply Kd.R_drew)); exact Kd.R_mono (Kd.R_far (p := ⟨gb199, 1, none⟩) (Kd.R_types HO_9.out BK199.out (by decide)) (fun _ hk => hk.2) (.int .u8 (rd l1 (rd x200000_2 0)))) (fun _ hk => hk.1)⟩
                         have n2_ : Aside0 (Kd.R (Kd.int .u8) 5 (w47.setCell ⟨gb199, 1, none⟩ (.int .u8 (rd l1 (rd x200000_2 0)))) w.heap.size (fun k_ => some k_ ≠ (v196 : Value).ownBlock) v194 t192) := ⟨by (with_reducible repeat (first | apply Kd.R_alloc | apply Kd.R_drewN | apply Kd.R_drew)); exact Kd.R_mono (Kd.R_far (p := ⟨gb199, 1, none⟩) (Kd.R_types HO_10.out BK199.out (by decide)) (fun _ hk => hk.2) (.int .u8 (rd l1 (rd x200000_2 0)))) (fun _ hk => hk.1)⟩
                         have n3_ : Aside0 (Kd.R (Kd.int .u8) 5 (w47.setCell ⟨gb199, 1, none⟩ (.int .u8 (rd l1 (rd x200000_2 0)))) w.heap.size (fun k_ => some k_ ≠ (v194 : Value).ownBlock) v196 t193) := ⟨by (with_reducible repeat (first | apply Kd.R_alloc | apply Kd.R_drewN | apply Kd.R_drew)); exact Kd.R_mono (Kd.R_far (p := ⟨gb199, 1, none⟩) (Kd.R_types HO_11.out BK199.out (by decide)) (fun _ hk => hk.2) (.int .u8 (rd l1 (rd x200000_2 0)))) (fun _ hk => hk.1)⟩
                         have n4_ : Aside0 (Kd.S k56 56 (w47.setCell ⟨gb199, 1, none⟩ (.int .u8 (rd l1 (rd x200000_2 0)))) w.heap.size (fun k_ => some k_ ≠ (v190 : Value).ownBlock ∧ some k_ ≠ (.slice (some ad205) x200000_2.length co48 : Value).ownBlock ∧ k_ ≠ gb199) u12 x12_1) := ⟨by (with_reducible repeat (first | apply Kd.S_alloc | apply Kd.S_drewN | apply Kd.S_drew)); exact Kd.S_mono (Kd.S_far (p := ⟨gb199, 1, none⟩) (Kd.S_mono HO_12.out (fun k_ hk => (⟨hk, hk.2.2⟩ : _ ∧ k_ ≠ gb199))) (fun _ hk => hk.2) (.int .u8 (rd l1 (rd x200000_2 0)))) (fun _ hk => by first | exact ⟨hk.1.1, ⟨hk.1.2.1, hk.1.2.2⟩⟩ | exact ⟨hk.1.2.1, ⟨hk.1.1, hk.1.2.2⟩⟩)⟩
                         have n5_ : Aside0 (Kd.R (Kd.int .i64) 3 (w47.setCell ⟨gb199, 1, none⟩ (.int .u8 (rd l1 (rd x200000_2 0)))) w.heap.size (fun k_ => some k_ ≠ (v190 : Value).ownBlock) (.slice (some ad205) x200000_2.length co48) x200000_2) := ⟨by (with_reducible repeat (first | apply Kd.R_alloc | apply Kd.R_drewN | apply Kd.R_drew)); exact Kd.R_mono (Kd.R_far (p := ⟨gb199, 1, none⟩) (Kd.R_types HO_200000.out BK199.out (by decide)) (fun _ hk => hk.2) (.int .u8 (rd l1 (rd x200000_2 0)))) (fun _ hk => hk.1)⟩
                         have n6_ : Aside0 ((w47.setCell ⟨gb199, 1, none⟩ (.int .u8 (rd l1 (rd x200000_2 0)))).heap[gb199]? = some (.cells #[.slice (some ad205) x200000_2.length co48, .int .u8 (rd l1 (rd x200000_2 0)), .int .u8 0, .int .u8 0] 56 (0, 0))) := ⟨by (with_reducible repeat (first | refine blk_drewN ?_ _ | refine blk_drew ?_ | refine blk_alloc ?_ _)); refine blk_put (cs := #[.slice (some ad205) x200000_2.length co48, .int .u8 0, .int .u8 0, .int .u8 0]) ?_ 1 _ rfl; (with_reducible repeat (first | refine blk_drewN ?_ _ | refine blk_drew ?_ | refine blk_alloc ?_ _)); exact BK199.out⟩
                         have n7_ : Aside0 (Below w.heap.size w (w47.setCell ⟨gb199, 1, none⟩ (.int .u8 (rd l1 (rd x200000_2 0))))) := ⟨by repeat (first | (with_reducible first | exact HB.out | apply below_alloc | apply pw_below_drewN | apply below_drew1 | refine below_set ?_ GE199.out) | exact HB.out)⟩
                         (try clear HO_8)
                         (try clear HO_9)
                         (try clear HO_10)
                         (try clear HO_11)
                         (try clear HO_12)
                         (try clear HO_200000)
                         (try clear BK199)
                         (try clear HB)
                         generalize (w47.setCell ⟨gb199, 1, none⟩ (.int .u8 (rd l1 (rd x200000_2 0)))) = w50 at n0_ n1_ n2_ n3_ n4_ n5_ n6_ n7_ ⊢
                         have HO_8 := n0_
                         have HO_9 := n1_
                         have HO_10 := n2_
                         have HO_11 := n3_
                         have HO_12 := n4_
                         have HO_200000 := n5_
                         have BK199 := n6_
                         have HB := n7_
                         clear n0_ n1_ n2_ n3_ n4_ n5_ n6_ n7_
                         have n0_ := Aside0.mk (Kd.S_drew HO_8.out)
                         have n1_ := Aside0.mk (Kd.R_drew HO_9.out)
                         have n2_ := Aside0.mk (Kd.R_drew HO_10.out)
                         have n3_ := Aside0.mk (Kd.R_drew HO_11.out)
                         have n4_ := Aside0.mk (Kd.S_drew HO_12.out)
                         have n5_ := Aside0.mk (Kd.R_drew HO_200000.out)
                         have n6_ := Aside0.mk (blk_drew BK199.out)
                         have n7_ := Aside0.mk (below_drew1 HB.out)
                         clear HO_8
                         clear HO_9
                         clear HO_10
                         clear HO_11
                         clear HO_12
                         clear HO_200000
                         clear BK199
                         clear HB
                         have HO_8 := n0_
                         have HO_9 := n1_
                         have HO_10 := n2_
                         have HO_11 := n3_
                         have HO_12 := n4_
                         have HO_200000 := n5_
                         have BK199 := n6_
                         have HB := n7_
                         clear n0_ n1_ n2_ n3_ n4_ n5_ n6_ n7_
                         obtain ⟨Ao52, co52, eo52⟩ := Kd.R_slice HO_10.out
                         (first | subst eo52 | (injection eo52 with f1_ f2_ f3_; have f4_ := f1_.symm; have f5_ := f3_.symm; clear f1_ f2_ f3_; subst f4_; subst f5_))
                         obtain ⟨ad208, e208, hx208_0, p208, q208⟩ := atI (Kd.R_reads' HO_10.out).2.2 (rd x200000_2 0)
                         cases e208
                         refine start_ (n := 10) (S := fun w' => w'.cell? ⟨gb199, 0, none⟩ = some (.slice (some ad205) x200000_2.length co48) ∧ w'.cell? ⟨gb199, 1, none⟩ = some (.int .u8 (rd l1 (rd x200000_2 0))) ∧ w'.cell? ⟨gb199, 2, none⟩ = some (.int .u8 0) ∧ w'.cell? ⟨gb199, 3, none⟩ = some (.int .u8 0) ∧ w'.cell? (ad208.add ((rd x200000_2 0)).toNat) = some (.int .u8 (rd t192 (rd x200000_2 0)))) (ds := [9]) #[false, false, false, false, false, false, false, false, false, false] (by kernel_rfl) rfl rfl ⟨(blk_cell BK199.out 0).trans rfl, (blk_cell BK199.out 1).trans rfl, (blk_cell BK199.out 2).trans rfl, (blk_cell BK199.out 3).trans rfl, hx208_0⟩ (fun hHeld => ?_); refine with_tabW selvedgeref15_Sequences.tab20 selvedgeref15_Sequences.bits20 (fun HT_ HW_ => ?_)
                         generalize w50.drew = w51 at HO_8 HO_9 HO_10 HO_11 HO_12 HO_200000 BK199 HB hx208_0 hHeld ⊢
                         refine pure_ (i := 0) (N := some 85) (v := ?_) (a' := ?_) #[true, false, false, false, false, false, false, false, false, false] rfl rfl (any_of HT_.out (by kernel_rfl)) (fun _ _ _ h => h) (Or.inl ⟨by rfl, ?_⟩) ?_ ?_
                         rotate_left
                         ·intro w'
                          go_simp
                          with_reducible rfl
                         rotate_left
                         ·simp only [Act.put, List.setIfInBounds_toArray, List.set_cons_zero, List.set_cons_succ, i64_w, i32_w]
                          rfl
                         refine pure_ (i := 2) (N := some 87) (v := ?_) (a' := ?_) #[true, false, true, false, false, false, false, false, false, false] rfl rfl (any_of HT_.out (by kernel_rfl)) (fun _ _ _ h => h) (Or.inl ⟨by rfl, ?_⟩) ?_ ?_
                         rotate_left
                         ·intro w'
                          go_simp
                          with_reducible rfl
                         rotate_left
                         ·simp only [Act.put, List.setIfInBounds_toArray, List.set_cons_zero, List.set_cons_succ, i64_w, i32_w]
                          rfl
                         refine pure_ (i := 3) (N := some 88) (v := ?_) (a' := ?_) #[true, false, true, true, false, false, false, false, false, false] rfl rfl (any_of HT_.out (by kernel_rfl)) (fun _ _ _ h => h) (Or.inl ⟨by rfl, ?_⟩) ?_ ?_
                         rotate_left
                         ·intro w'
                          go_simp
                          with_reducible rfl
                         rotate_left
                         ·simp only [Act.put, List.setIfInBounds_toArray, List.set_cons_zero, List.set_cons_succ, i64_w, i32_w]
                          rfl
                         refine pure_ (i := 4) (N := some 89) (v := ?_) (a' := ?_) #[true, false, true, true, true, false, false, false, false, false] rfl rfl (any_of HT_.out (by kernel_rfl)) (fun _ _ _ h => h) (Or.inl ⟨by rfl, ?_⟩) ?_ ?_
                         rotate_left
                         ·intro w'
                          go_simp
                          with_reducible rfl
                         rotate_left
                         ·simp only [Act.put, List.setIfInBounds_toArray, List.set_cons_zero, List.set_cons_succ, i64_w, i32_w]
                          rfl
                         refine take_ (i := 1) (N := some 86) (v := ?_) (a' := ?_) #[true, true, true, true, true, false, false, false, false, false] rfl rfl (take_ofW HT_.out HW_.out (by kernel_rfl)) (fun _ _ _ h => h) (Or.inl ⟨by rfl, ?_⟩) hHeld ?_ ?_
                         rotate_left
                         ·rintro w' ⟨s0, s1, s2, s3, s4⟩
                          go_simp
                          with_reducible rfl
                         rotate_left
                         ·simp only [Act.put, List.setIfInBounds_toArray, List.set_cons_zero, List.set_cons_succ, i64_w, i32_w]
                          rfl
                         refine take_ (i := 5) (N := some 90) (v := ?_) (a' := ?_) #[true, true, true, true, true, true, false, false, false, false] rfl rfl (take_ofW HT_.out HW_.out (by kernel_rfl)) (fun _ _ _ h => h) (Or.inl ⟨by rfl, ?_⟩) hHeld ?_ ?_
                         rotate_left
                         ·rintro w' ⟨s0, s1, s2, s3, s4⟩
                          go_simp
                          with_reducible rfl
                         rotate_left
                         ·simp only [Act.put, List.setIfInBounds_toArray, List.set_cons_zero, List.set_cons_succ, i64_w, i32_w]
                          rfl
                         refine pure_ (i := 6) (N := some 91) (v := ?_) (a' := ?_) #[true, true, true, true, true, true, true, false, false, false] rfl rfl (any_of HT_.out (by kernel_rfl)) (fun _ _ _ h => h) (Or.inl ⟨by rfl, ?_⟩) ?_ ?_
                         rotate_left
                         ·intro w'
                          go_simp
                          with_reducible rfl
                         rotate_left
                         ·simp only [Act.put, List.setIfInBounds_toArray, List.set_cons_zero, List.set_cons_succ, i64_w, i32_w]
                          rfl
                         refine one_ (i := 7) (N := some 92) #[true, true, true, true, true, true, true, true, false, false] rfl rfl (one_of HT_.out (by kernel_rfl)) (by decide) (fun K hK => ?_)
                         refine goes_ Try.func18 (by kernel_rfl) rfl #[.int .u8 ji34] (by rfl) rfl rfl (by (try simp only [List.map_toArray, List.map_cons, List.map_nil]); first | done | (simp only [hji34]; rfl) | rfl | (simp only [List.length_drop, List.length_take]; rfl)) ?_
                         with_reducible refine (selvedgeref15_side.same ji34 t209 _ A35.out).mono ?_
                         rintro e w' ⟨rfl, hw'⟩; obtain rfl := hw'.symm
                         refine ⟨_, rfl, ?_⟩
                         refine hK.out _ _ ⟨(blk_cell BK199.out 0).trans rfl, (blk_cell BK199.out 1).trans rfl, (blk_cell BK199.out 2).trans rfl, (blk_cell BK199.out 3).trans rfl, hHeld.2.2.2.2⟩ (fun hHeld => ?_)
                         clear hK K
                         refine norm_ (a' := ?_) ?_ ?_
                         rotate_left
                         ·show Act.put _ (some 92) _ = _
                          simp only [Act.put, List.setIfInBounds_toArray, List.set_cons_zero, List.set_cons_succ, i64_w, i32_w]
                          rfl
                         refine pure_ (i := 8) (N := some 93) (v := ?_) (a' := ?_) #[true, true, true, true, true, true, true, true, true, false] rfl rfl (any_of HT_.out (by kernel_rfl)) (fun _ _ _ h => h) (Or.inl ⟨by rfl, ?_⟩) ?_ ?_
                         rotate_left
                         ·intro w'
                          go_simp
                          with_reducible rfl
                         rotate_left
                         ·simp only [Act.put, List.setIfInBounds_toArray, List.set_cons_zero, List.set_cons_succ, i64_w, i32_w]
                          rfl
                         refine last_ (i := 9) (N := none) #[true, true, true, true, true, true, true, true, true, true] rfl rfl (one_of HT_.out (by kernel_rfl)) (by decide) (fun K hK => ?_)
                         have hs53 : w51.cell? ⟨gb199, 2, none⟩ = some (.int .u8 0) := (blk_cell BK199.out 2).trans rfl
                         have hfs53 := blk_frozen BK199.out 2
                         refine skip_ (w1 := ?_) (by rfl) rfl ?_ ?_
                         rotate_left
                         ·go_simp
                          rfl
                         refine hK.out _ _ ?_
                         clear hK K
                         refine done_ (done_of HT_.out (by kernel_rfl)) ?_
                         have n0_ : Aside0 (Kd.S k55 55 (w51.setCell ⟨gb199, 2, none⟩ (.int .u8 t209)) w.heap.size (fun k_ => some k_ ≠ (v190 : Value).ownBlock ∧ some k_ ≠ (.slice (some ad205) x200000_2.length co48 : Value).ownBlock) (.slice (some ad198) t186.length co16) t186) := ⟨by (with_reducible repeat (first | apply Kd.S_alloc | apply Kd.S_drewN | apply Kd.S_drew)); exact Kd.S_mono (Kd.S_far (p := ⟨gb199, 2, none⟩) (Kd.S_types HO_8.out BK199.out (by decide)) (fun _ hk => hk.2) (.int .u8 t209)) (fun _ hk => by first | exact ⟨hk.1.1, hk.1.2⟩ | exact ⟨hk.1.2, hk.1.1⟩)⟩
                         have n1_ : Aside0 (Kd.R (Kd.int .i64) 3 (w51.setCell ⟨gb199, 2, none⟩ (.int .u8 t209)) w.heap.size (fun k_ => some k_ ≠ (.slice (some ad205) x200000_2.length co48 : Value).ownBlock) v190 t189) := ⟨by (with_reducible repeat (first | apply Kd.R_alloc | apply Kd.R_drewN | apply Kd.R_drew)); exact Kd.R_mono (Kd.R_far (p := ⟨gb199, 2, none⟩) (Kd.R_types HO_9.out BK199.out (by decide)) (fun _ hk => hk.2) (.int .u8 t209)) (fun _ hk => hk.1)⟩
                         have n2_ : Aside0 (Kd.R (Kd.int .u8) 5 (w51.setCell ⟨gb199, 2, none⟩ (.int .u8 t209)) w.heap.size (fun k_ => some k_ ≠ (v196 : Value).ownBlock) (.slice (some ad208) t192.length co52) t192) := ⟨by (with_reducible repeat (first | apply Kd.R_alloc | apply Kd.R_drewN | apply Kd.R_drew)); exact Kd.R_mono (Kd.R_far (p := ⟨gb199, 2, none⟩) (Kd.R_types HO_10.out BK199.out (by decide)) (fun _ hk => hk.2) (.int .u8 t209)) (fun _ hk => hk.1)⟩
                         have n3_ : Aside0 (Kd.R (Kd.int .u8) 5 (w51.setCell ⟨gb199, 2, none⟩ (.int .u8 t209)) w.heap.size (fun k_ => some k_ ≠ (.slice (some ad208) t192.length co52 : Value).ownBlock) v196 t193) := ⟨by (with_reducible repeat (first | apply Kd.R_alloc | apply Kd.R_drewN | apply Kd.R_drew)); exact Kd.R_mono (Kd.R_far (p := ⟨gb199, 2, none⟩) (Kd.R_types HO_11.out BK199.out (by decide)) (fun _ hk => hk.2) (.int .u8 t209)) (fun _ hk => hk.1)⟩
                         have n4_ : Aside0 (Kd.S k56 56 (w51.setCell ⟨gb199, 2, none⟩ (.int .u8 t209)) w.heap.size (fun k_ => some k_ ≠ (v190 : Value).ownBlock ∧ some k_ ≠ (.slice (some ad205) x200000_2.length co48 : Value).ownBlock ∧ k_ ≠ gb199) u12 x12_1) := ⟨by (with_reducible repeat (first | apply Kd.S_alloc | apply Kd.S_drewN | apply Kd.S_drew)); exact Kd.S_mono (Kd.S_far (p := ⟨gb199, 2, none⟩) (Kd.S_mono HO_12.out (fun k_ hk => (⟨hk, hk.2.2⟩ : _ ∧ k_ ≠ gb199))) (fun _ hk => hk.2) (.int .u8 t209)) (fun _ hk => by first | exact ⟨hk.1.1, ⟨hk.1.2.1, hk.1.2.2⟩⟩ | exact ⟨hk.1.2.1, ⟨hk.1.1, hk.1.2.2⟩⟩)⟩
                         have n5_ : Aside0 (Kd.R (Kd.int .i64) 3 (w51.setCell ⟨gb199, 2, none⟩ (.int .u8 t209)) w.heap.size (fun k_ => some k_ ≠ (v190 : Value).ownBlock) (.slice (some ad205) x200000_2.length co48) x200000_2) := ⟨by (with_reducible repeat (first | apply Kd.R_alloc | apply Kd.R_drewN | apply Kd.R_drew)); exact Kd.R_mono (Kd.R_far (p := ⟨gb199, 2, none⟩) (Kd.R_types HO_200000.out BK199.out (by decide)) (fun _ hk => hk.2) (.int .u8 t209)) (fun _ hk => hk.1)⟩
                         have n6_ : Aside0 ((w51.setCell ⟨gb199, 2, none⟩ (.int .u8 t209)).heap[gb199]? = some (.cells #[.slice (some ad205) x200000_2.length co48, .int .u8 (rd l1 (rd x200000_2 0)), .int .u8 t209, .int .u8 0] 56 (0, 0))) := ⟨by (with_reducible repeat (first | refine blk_drewN ?_ _ | refine blk_drew ?_ | refine blk_alloc ?_ _)); refine blk_put (cs := #[.slice (some ad205) x200000_2.length co48, .int .u8 (rd l1 (rd x200000_2 0)), .int .u8 0, .int .u8 0]) ?_ 2 _ rfl; (with_reducible repeat (first | refine blk_drewN ?_ _ | refine blk_drew ?_ | refine blk_alloc ?_ _)); exact BK199.out⟩
                         have n7_ : Aside0 (Below w.heap.size w (w51.setCell ⟨gb199, 2, none⟩ (.int .u8 t209))) := ⟨by repeat (first | (with_reducible first | exact HB.out | apply below_alloc | apply pw_below_drewN | apply below_drew1 | refine below_set ?_ GE199.out) | exact HB.out)⟩
                         (try clear HO_8)
                         (try clear HO_9)
                         (try clear HO_10)
                         (try clear HO_11)
                         (try clear HO_12)
                         (try clear HO_200000)
                         (try clear BK199)
                         (try clear HB)
                         generalize (w51.setCell ⟨gb199, 2, none⟩ (.int .u8 t209)) = w54 at n0_ n1_ n2_ n3_ n4_ n5_ n6_ n7_ ⊢
                         have HO_8 := n0_
                         have HO_9 := n1_
                         have HO_10 := n2_
                         have HO_11 := n3_
                         have HO_12 := n4_
                         have HO_200000 := n5_
                         have BK199 := n6_
                         have HB := n7_
                         clear n0_ n1_ n2_ n3_ n4_ n5_ n6_ n7_
                         obtain ⟨Ao55, co55, eo55⟩ := Kd.R_slice HO_11.out
                         subst eo55
                         obtain ⟨ad210, e210, hx210_0, p210, q210⟩ := atI (Kd.R_reads' HO_11.out).2.2 (rd x200000_2 (ji28))
                         cases e210
                         obtain ⟨ad211, e211, hx211_0, p211, q211⟩ := atI HR0.out (rd x200000_2 (ji28))
                         cases e211
                         replace hx211_0 := (HB.out.cell (World.block_lt_of_cell? w _ hx211_0)).trans hx211_0
                         try go_wp2_with (first | ((with_reducible refine gate_callee (f := 19) rfl ?_); refine goesL_ (some 102) rfl rfl Try.func19 (by kernel_rfl) rfl #[.int .u8 (rd l0 (rd x200000_2 (ji28)))] rfl (by (try simp only [List.map_toArray, List.map_cons, List.map_nil]); first | done | (simp only [hji28]; rfl) | rfl | (simp only [List.length_drop, List.length_take]; rfl)) ?_; (with_reducible refine (selvedgeref14_Initiator.calls (rd l0 (rd x200000_2 (ji28))) true _ A39.out).mono ?_); rintro e w' ⟨rfl, ⟨nd, rfl⟩⟩; refine ⟨_, rfl, ?_⟩; (try (rw [drewN_self w54]; generalize hq_ : World.drewN w54 _ = w54; have n0_ : Aside0 (Kd.R (Kd.int .u8) 5 w54 w.heap.size (fun k_ => some k_ ≠ (.slice (some ad210) t193.length co55 : Value).ownBlock) (.slice (some ad208) t192.length co52) t192) := ⟨by rw [← hq_]; exact (mvR HO_10)⟩; have n1_ : Aside0 (Kd.R (Kd.int .u8) 5 w54 w.heap.size (fun k_ => some k_ ≠ (.slice (some ad208) t192.length co52 : Value).ownBlock) (.slice (some ad210) t193.length co55) t193) := ⟨by rw [← hq_]; exact (mvR HO_11)⟩; have n2_ : Aside0 (Kd.S k56 56 w54 w.heap.size (fun k_ => some k_ ≠ (.slice (some ad205) x200000_2.length co48 : Value).ownBlock ∧ some k_ ≠ (v190 : Value).ownBlock ∧ k_ ≠ gb199) u12 x12_1) := ⟨by rw [← hq_]; exact (by (with_reducible repeat (first | apply Kd.S_alloc | apply Kd.S_drewN | apply Kd.S_drew)); exact Kd.S_mono HO_12.out (fun _ hk => ⟨hk.2.1, ⟨hk.1, hk.2.2⟩⟩))⟩; have n3_ : Aside0 (Kd.R (Kd.int .i64) 3 w54 w.heap.size (fun k_ => some k_ ≠ (v190 : Value).ownBlock) (.slice (some ad205) x200000_2.length co48) x200000_2) := ⟨by rw [← hq_]; exact (mvR HO_200000)⟩; have n4_ : Aside0 (Kd.S k55 55 w54 w.heap.size (fun k_ => some k_ ≠ (.slice (some ad205) x200000_2.length co48 : Value).ownBlock ∧ some k_ ≠ (v190 : Value).ownBlock) (.slice (some ad198) t186.length co16) t186) := ⟨by rw [← hq_]; exact (by (with_reducible repeat (first | apply Kd.S_alloc | apply Kd.S_drewN | apply Kd.S_drew)); exact Kd.S_mono HO_8.out (fun _ hk => ⟨hk.2, hk.1⟩))⟩; have n5_ : Aside0 (Kd.R (Kd.int .i64) 3 w54 w.heap.size (fun k_ => some k_ ≠ (.slice (some ad205) x200000_2.length co48 : Value).ownBlock) v190 t189) := ⟨by rw [← hq_]; exact (mvR HO_9)⟩; have n6_ : Aside0 (w54.heap[gb199]? = some (.cells #[.slice (some ad205) x200000_2.length co48, .int .u8 (rd l1 (rd x200000_2 0)), .int .u8 t209, .int .u8 0] 56 (0, 0))) := ⟨by rw [← hq_]; exact (by (with_reducible repeat (first | refine blk_drewN ?_ _ | refine blk_drew ?_ | refine blk_alloc ?_ _)); exact BK199.out)⟩; have n7_ : Aside0 (Below w.heap.size w w54) := ⟨by rw [← hq_]; exact (by repeat (first | (with_reducible first | exact HB.out | apply below_alloc | apply pw_below_drewN | apply below_drew1 | refine below_set ?_ GE199.out) | exact HB.out))⟩; clear HO_10 HO_11 HO_12 HO_200000 HO_8 HO_9 BK199 HB hq_; have HO_10 := n0_; have HO_11 := n1_; have HO_12 := n2_; have HO_200000 := n3_; have HO_8 := n4_; have HO_9 := n5_; have BK199 := n6_; have HB := n7_; clear n0_ n1_ n2_ n3_ n4_ n5_ n6_ n7_)); obtain ⟨Ao56, co56, eo56⟩ := Kd.R_slice HO_9.out; subst eo56; obtain ⟨ad213, e213, hx213_0, p213, q213⟩ := atI (Kd.R_reads' HO_9.out).2.2 (rd x200000_2 (ji28)); cases e213; obtain ⟨ad214, e214, hx214_0, p214, q214⟩ := atI HR1.out (rd x200000_2 (ji28)); obtain rfl : ad207 = ad214 := (by injection e214); replace hx214_0 := (HB.out.cell (World.block_lt_of_cell? w _ hx214_0)).trans hx214_0) | ((with_reducible refine gate_callee (f := 18) rfl ?_); refine goesL_ (some 117) rfl rfl Try.func18 (by kernel_rfl) rfl #[.int .u8 ji44] rfl (by (try simp only [List.map_toArray, List.map_cons, List.map_nil]); first | done | (simp only [hji44]; rfl) | rfl | (simp only [List.length_drop, List.length_take]; rfl)) ?_; (with_reducible refine (selvedgeref15_side.same ji44 t215 _ A45.out).mono ?_); rintro e w' ⟨rfl, hw'⟩; obtain rfl := hw'.symm; refine ⟨_, rfl, ?_⟩; (try (rw [drewN_self w54]; generalize hq_ : World.drewN w54 _ = w54; have n0_ : Aside0 (Kd.R (Kd.int .u8) 5 w54 w.heap.size (fun k_ => some k_ ≠ (.slice (some ad210) t193.length co55 : Value).ownBlock) (.slice (some ad208) t192.length co52) t192) := ⟨by rw [← hq_]; exact (mvR HO_10)⟩; have n1_ : Aside0 (Kd.R (Kd.int .u8) 5 w54 w.heap.size (fun k_ => some k_ ≠ (.slice (some ad208) t192.length co52 : Value).ownBlock) (.slice (some ad210) t193.length co55) t193) := ⟨by rw [← hq_]; exact (mvR HO_11)⟩; have n2_ : Aside0 (Kd.S k56 56 w54 w.heap.size (fun k_ => some k_ ≠ (.slice (some ad205) x200000_2.length co48 : Value).ownBlock ∧ some k_ ≠ (.slice (some ad213) t189.length co56 : Value).ownBlock ∧ k_ ≠ gb199) u12 x12_1) := ⟨by rw [← hq_]; exact (by (with_reducible repeat (first | apply Kd.S_alloc | apply Kd.S_drewN | apply Kd.S_drew)); exact Kd.S_mono HO_12.out (fun _ hk => ⟨hk.2.1, ⟨hk.1, hk.2.2⟩⟩))⟩; have n3_ : Aside0 (Kd.R (Kd.int .i64) 3 w54 w.heap.size (fun k_ => some k_ ≠ (.slice (some ad213) t189.length co56 : Value).ownBlock) (.slice (some ad205) x200000_2.length co48) x200000_2) := ⟨by rw [← hq_]; exact (mvR HO_200000)⟩; have n4_ : Aside0 (Kd.S k55 55 w54 w.heap.size (fun k_ => some k_ ≠ (.slice (some ad205) x200000_2.length co48 : Value).ownBlock ∧ some k_ ≠ (.slice (some ad213) t189.length co56 : Value).ownBlock) (.slice (some ad198) t186.length co16) t186) := ⟨by rw [← hq_]; exact (by (with_reducible repeat (first | apply Kd.S_alloc | apply Kd.S_drewN | apply Kd.S_drew)); exact Kd.S_mono HO_8.out (fun _ hk => ⟨hk.2, hk.1⟩))⟩; have n5_ : Aside0 (Kd.R (Kd.int .i64) 3 w54 w.heap.size (fun k_ => some k_ ≠ (.slice (some ad205) x200000_2.length co48 : Value).ownBlock) (.slice (some ad213) t189.length co56) t189) := ⟨by rw [← hq_]; exact (mvR HO_9)⟩; have n6_ : Aside0 (w54.heap[gb199]? = some (.cells #[.slice (some ad205) x200000_2.length co48, .int .u8 (rd l1 (rd x200000_2 0)), .int .u8 t209, .int .u8 0] 56 (0, 0))) := ⟨by rw [← hq_]; exact (by (with_reducible repeat (first | refine blk_drewN ?_ _ | refine blk_drew ?_ | refine blk_alloc ?_ _)); exact BK199.out)⟩; have n7_ : Aside0 (Below w.heap.size w w54) := ⟨by rw [← hq_]; exact (by repeat (first | (with_reducible first | exact HB.out | apply below_alloc | apply pw_below_drewN | apply below_drew1 | refine below_set ?_ GE199.out) | exact HB.out))⟩; clear HO_10 HO_11 HO_12 HO_200000 HO_8 HO_9 BK199 HB hq_; have HO_10 := n0_; have HO_11 := n1_; have HO_12 := n2_; have HO_200000 := n3_; have HO_8 := n4_; have HO_9 := n5_; have BK199 := n6_; have HB := n7_; clear n0_ n1_ n2_ n3_ n4_ n5_ n6_ n7_)); have hcz57_0 : w54.cell? ⟨gb199, 0, none⟩ = some (.slice (some ad205) x200000_2.length co48) := (blk_cell BK199.out 0).trans rfl; have hcz57_1 : w54.cell? ⟨gb199, 1, none⟩ = some (.int .u8 (rd l1 (rd x200000_2 0))) := (blk_cell BK199.out 1).trans rfl; have hcz57_2 : w54.cell? ⟨gb199, 2, none⟩ = some (.int .u8 t209) := (blk_cell BK199.out 2).trans rfl; have hcz57_3 : w54.cell? ⟨gb199, 3, none⟩ = some (.int .u8 0) := (blk_cell BK199.out 3).trans rfl; have hfz57_0 := blk_frozen BK199.out 0; have hfz57_1 := blk_frozen BK199.out 1; have hfz57_2 := blk_frozen BK199.out 2; have hfz57_3 := blk_frozen BK199.out 3) | ((with_reducible refine gate_store (t := 34) (p := 118) rfl ?_); refine store_event (t := 34) (p := 118) (v := ?vo_w58) (w1 := (w54.setCell ⟨gb199, 3, none⟩ (.int .u8 t215))) ?hg ?ho ?hn ?hr ?_; (case ho => rfl); (case hg => rfl); (case hn => rfl); (case hr => first | (go_simp; done) | (go_simp; rfl)); intro w58 hw; have n0_ : Aside0 (Kd.S k55 55 w58 w.heap.size (fun k_ => some k_ ≠ (.slice (some ad213) t189.length co56 : Value).ownBlock ∧ some k_ ≠ (.slice (some ad205) x200000_2.length co48 : Value).ownBlock) (.slice (some ad198) t186.length co16) t186) := ⟨(by rw [hw]; exact (by (with_reducible repeat (first | apply Kd.S_alloc | apply Kd.S_drewN | apply Kd.S_drew)); exact Kd.S_mono (Kd.S_far (p := ⟨gb199, 3, none⟩) (Kd.S_types HO_8.out BK199.out (by decide)) (fun _ hk => hk.2) (.int .u8 t215)) (fun _ hk => by first | exact ⟨hk.1.1, hk.1.2⟩ | exact ⟨hk.1.2, hk.1.1⟩)))⟩; have n1_ : Aside0 (Kd.R (Kd.int .i64) 3 w58 w.heap.size (fun k_ => some k_ ≠ (.slice (some ad205) x200000_2.length co48 : Value).ownBlock) (.slice (some ad213) t189.length co56) t189) := ⟨(by rw [hw]; exact (by (with_reducible repeat (first | apply Kd.R_alloc | apply Kd.R_drewN | apply Kd.R_drew)); exact Kd.R_mono (Kd.R_far (p := ⟨gb199, 3, none⟩) (Kd.R_types HO_9.out BK199.out (by decide)) (fun _ hk => hk.2) (.int .u8 t215)) (fun _ hk => hk.1)))⟩; have n2_ : Aside0 (Kd.R (Kd.int .u8) 5 w58 w.heap.size (fun k_ => some k_ ≠ (.slice (some ad210) t193.length co55 : Value).ownBlock) (.slice (some ad208) t192.length co52) t192) := ⟨(by rw [hw]; exact (by (with_reducible repeat (first | apply Kd.R_alloc | apply Kd.R_drewN | apply Kd.R_drew)); exact Kd.R_mono (Kd.R_far (p := ⟨gb199, 3, none⟩) (Kd.R_types HO_10.out BK199.out (by decide)) (fun _ hk => hk.2) (.int .u8 t215)) (fun _ hk => hk.1)))⟩; have n3_ : Aside0 (Kd.R (Kd.int .u8) 5 w58 w.heap.size (fun k_ => some k_ ≠ (.slice (some ad208) t192.length co52 : Value).ownBlock) (.slice (some ad210) t193.length co55) t193) := ⟨(by rw [hw]; exact (by (with_reducible repeat (first | apply Kd.R_alloc | apply Kd.R_drewN | apply Kd.R_drew)); exact Kd.R_mono (Kd.R_far (p := ⟨gb199, 3, none⟩) (Kd.R_types HO_11.out BK199.out (by decide)) (fun _ hk => hk.2) (.int .u8 t215)) (fun _ hk => hk.1)))⟩; have n4_ : Aside0 (Kd.S k56 56 w58 w.heap.size (fun k_ => some k_ ≠ (.slice (some ad213) t189.length co56 : Value).ownBlock ∧ some k_ ≠ (.slice (some ad205) x200000_2.length co48 : Value).ownBlock ∧ k_ ≠ gb199) u12 x12_1) := ⟨(by rw [hw]; exact (by (with_reducible repeat (first | apply Kd.S_alloc | apply Kd.S_drewN | apply Kd.S_drew)); exact Kd.S_mono (Kd.S_far (p := ⟨gb199, 3, none⟩) (Kd.S_mono HO_12.out (fun k_ hk => (⟨hk, hk.2.2⟩ : _ ∧ k_ ≠ gb199))) (fun _ hk => hk.2) (.int .u8 t215)) (fun _ hk => by first | exact ⟨hk.1.1, ⟨hk.1.2.1, hk.1.2.2⟩⟩ | exact ⟨hk.1.2.1, ⟨hk.1.1, hk.1.2.2⟩⟩)))⟩; have n5_ : Aside0 (Kd.R (Kd.int .i64) 3 w58 w.heap.size (fun k_ => some k_ ≠ (.slice (some ad213) t189.length co56 : Value).ownBlock) (.slice (some ad205) x200000_2.length co48) x200000_2) := ⟨(by rw [hw]; exact (by (with_reducible repeat (first | apply Kd.R_alloc | apply Kd.R_drewN | apply Kd.R_drew)); exact Kd.R_mono (Kd.R_far (p := ⟨gb199, 3, none⟩) (Kd.R_types HO_200000.out BK199.out (by decide)) (fun _ hk => hk.2) (.int .u8 t215)) (fun _ hk => hk.1)))⟩; have n6_ : Aside0 (w58.heap[gb199]? = some (.cells #[.slice (some ad205) x200000_2.length co48, .int .u8 (rd l1 (rd x200000_2 0)), .int .u8 t209, .int .u8 t215] 56 (0, 0))) := ⟨(by rw [hw]; exact (by (with_reducible repeat (first | refine blk_drewN ?_ _ | refine blk_drew ?_ | refine blk_alloc ?_ _)); refine blk_put (cs := #[.slice (some ad205) x200000_2.length co48, .int .u8 (rd l1 (rd x200000_2 0)), .int .u8 t209, .int .u8 0]) ?_ 3 _ rfl; (with_reducible repeat (first | refine blk_drewN ?_ _ | refine blk_drew ?_ | refine blk_alloc ?_ _)); exact BK199.out))⟩; have n7_ : Aside0 (Below w.heap.size w w58) := ⟨(by rw [hw]; exact (by repeat (first | (with_reducible first | exact HB.out | apply below_alloc | apply pw_below_drewN | apply below_drew1 | refine below_set ?_ GE199.out) | exact HB.out)))⟩; clear hw; clear HO_8; clear HO_9; clear HO_10; clear HO_11; clear HO_12; clear HO_200000; clear BK199; clear HB; have HO_8 := n0_; have HO_9 := n1_; have HO_10 := n2_; have HO_11 := n3_; have HO_12 := n4_; have HO_200000 := n5_; have BK199 := n6_; have HB := n7_; clear n0_ n1_ n2_ n3_ n4_ n5_ n6_ n7_; have hcz59_0 : w58.cell? ⟨gb199, 0, none⟩ = some (.slice (some ad205) x200000_2.length co48) := (blk_cell BK199.out 0).trans rfl; have hcz59_1 : w58.cell? ⟨gb199, 1, none⟩ = some (.int .u8 (rd l1 (rd x200000_2 0))) := (blk_cell BK199.out 1).trans rfl; have hcz59_2 : w58.cell? ⟨gb199, 2, none⟩ = some (.int .u8 t209) := (blk_cell BK199.out 2).trans rfl; have hcz59_3 : w58.cell? ⟨gb199, 3, none⟩ = some (.int .u8 t215) := (blk_cell BK199.out 3).trans rfl; have hfz59_0 := blk_frozen BK199.out 0; have hfz59_1 := blk_frozen BK199.out 1; have hfz59_2 := blk_frozen BK199.out 2; have hfz59_3 := blk_frozen BK199.out 3) | ((with_reducible refine gate_builtin (b := .append) (xs := #[.tmp 119, .tmp 121]) rfl ?_); at_builtin; refine Kd.S_append k56 (w0 := w) w.heap.size rfl (.tmp 119) (.tmp 121) 25 56 (.agg #[(.slice none 0 0), (.int .u8 0), (.int .u8 0), (.int .u8 0)]) 32 rfl Try.underlying25 info56 rfl (by decide) (by omega) u12 x12_1 (⟨x200000_2, rd l1 (rd x200000_2 0), t209, t215⟩ : S56) [.slice (some ad205) x200000_2.length co48, .int .u8 (rd l1 (rd x200000_2 0)), .int .u8 t209, .int .u8 t215] (fun k_ => some k_ ≠ (.slice (some ad213) t189.length co56 : Value).ownBlock ∧ k_ ≠ gb199) (fun k_ => some k_ = (.slice (some ad205) x200000_2.length co48 : Value).ownBlock) rfl rfl ?aP (fun k_ hk_ => ((Kd.R_mono (ok' := fun k_ => ((fun k_ => some k_ ≠ (.slice (some ad213) t189.length co56 : Value).ownBlock ∧ k_ ≠ gb199)) k_ ∧ some k_ ≠ (u12 : Value).ownBlock) (Kd.R_types (Kd.R_apart' (HO_200000.out) (Kd.S_typed HO_12.out) (by decide)) BK199.out (by decide)) (fun k_ hk => ⟨⟨hk.1.1, hk.2⟩, hk.1.2⟩))).1 k_ hk_.symm) ?aF ?aO ?aB ?aS ?aL ?_; (case aP => exact k56_mkM _ _ _ (⟨x200000_2, rd l1 (rd x200000_2 0), t209, t215⟩ : S56) (Kd.R_mono (Kd.R_tight rfl (Kd.R_mono (ok' := fun k_ => ((fun k_ => some k_ ≠ (.slice (some ad213) t189.length co56 : Value).ownBlock ∧ k_ ≠ gb199)) k_ ∧ some k_ ≠ (u12 : Value).ownBlock) (Kd.R_types (Kd.R_apart' (HO_200000.out) (Kd.S_typed HO_12.out) (by decide)) BK199.out (by decide)) (fun k_ hk => ⟨⟨hk.1.1, hk.2⟩, hk.1.2⟩))) (fun _ h_ => h_))); (case aB => exact (by repeat (first | (with_reducible first | exact HB.out | apply below_alloc | apply pw_below_drewN | apply below_drew1 | refine below_set ?_ GE199.out) | exact HB.out))); (case aF => exact (fun k_ hk => ⟨Kd.fresh' (Kd.R_lt (mvR HO_9)) k_ hk, Kd.freshB (g := gb199) (o := .cells #[.slice (some ad205) x200000_2.length co48, .int .u8 (rd l1 (rd x200000_2 0)), .int .u8 t209, .int .u8 t215] 56 (0, 0)) (by (with_reducible repeat (first | refine blk_drewN ?_ _ | refine blk_drew ?_ | refine blk_alloc ?_ _)); exact BK199.out) k_ hk⟩)); (case aO => exact (by (with_reducible repeat (first | apply Kd.S_alloc | apply Kd.S_drewN | apply Kd.S_drew)); exact Kd.S_mono HO_12.out (fun k_ hk => ⟨⟨hk.1, hk.2.2⟩, fun e_ => hk.2.1 e_⟩))); (case aS => exact (below_size (by repeat (first | (with_reducible first | exact HB.out | apply below_alloc | apply pw_below_drewN | apply below_drew1 | refine below_set ?_ GE199.out) | exact HB.out)))); (case aL => have := LMc46.out; omega); intro v217 w60 ho hb hg hat; rw [← Ny216.out] at ho; have n0_ := Aside0.mk (Kd.S_over' (by (with_reducible repeat (first | apply Kd.S_alloc | apply Kd.S_drewN | apply Kd.S_drew)); exact HO_8.out) (Kd.S_typed (by (with_reducible repeat (first | apply Kd.S_alloc | apply Kd.S_drewN | apply Kd.S_drew)); exact HO_12.out)) (by decide) hg); have n1_ := Aside0.mk (Kd.R_over' (mvR HO_9) (Kd.S_typed (by (with_reducible repeat (first | apply Kd.S_alloc | apply Kd.S_drewN | apply Kd.S_drew)); exact HO_12.out)) (by decide) hg); have n2_ := Aside0.mk (Kd.R_over' (mvR HO_10) (Kd.S_typed (by (with_reducible repeat (first | apply Kd.S_alloc | apply Kd.S_drewN | apply Kd.S_drew)); exact HO_12.out)) (by decide) hg); have n3_ := Aside0.mk (Kd.R_over' (mvR HO_11) (Kd.S_typed (by (with_reducible repeat (first | apply Kd.S_alloc | apply Kd.S_drewN | apply Kd.S_drew)); exact HO_12.out)) (by decide) hg); have n4_ := Aside0.mk (blk_grown (g := gb199) (o := .cells #[.slice (some ad205) x200000_2.length co48, .int .u8 (rd l1 (rd x200000_2 0)), .int .u8 t209, .int .u8 t215] 56 (0, 0)) (by (with_reducible repeat (first | refine blk_drewN ?_ _ | refine blk_drew ?_ | refine blk_alloc ?_ _)); exact BK199.out) hg (Kd.S_away HO_12.out (fun _ hk => hk.2.2))); have n5_ := Aside0.mk (hb); have n6_ := Aside0.mk (ho); clear HO_8; clear HO_9; clear HO_10; clear HO_11; clear BK199; clear HB; clear HO_12; clear HO_200000; have HO_8 := n0_; have HO_9 := n1_; have HO_10 := n2_; have HO_11 := n3_; have BK199 := n4_; have HB := n5_; have HO218 := n6_; clear n0_ n1_ n2_ n3_ n4_ n5_ n6_; clear ho hb hg hat))
                         go_roundg k2
                         case measure => have := HK1.out; have := HK2.out; omega
                         case rel => exact ⟨(y216), (wrap64 (x13_1 + 1)), (by first | rfl | (simp; done) | (simp [*]; done)), H', ⟨by have := HK1.out; have := HK2.out; omega⟩, ⟨by (with_reducible repeat (first | apply Kd.S_alloc | apply Kd.S_drewN | apply Kd.S_drew)); exact Kd.S_mono HO_8.out (fun _ hk => hk.1)⟩, ⟨by (with_reducible repeat (first | apply Kd.R_alloc | apply Kd.R_drewN | apply Kd.R_drew)); exact Kd.R_mono HO_9.out (fun _ hk => trivial)⟩, ⟨mvR HO_10⟩, ⟨mvR HO_11⟩, ⟨by (with_reducible repeat (first | apply Kd.S_alloc | apply Kd.S_drewN | apply Kd.S_drew)); exact Kd.S_mono HO218.out (fun _ hk => hk.1)⟩, ⟨by repeat (first | (with_reducible first | exact HB.out | apply below_alloc | apply pw_below_drewN | apply below_drew1 | refine below_set ?_ GE199.out) | exact HB.out)⟩⟩
                        ·rw [if_neg c46] at H
                         exact absurd H (by simp)
                       ·rw [if_neg c43] at H
                        exact absurd H (by simp)
                      ·rw [if_neg c42] at H
                       have c42b0 : decide ((rd t189 (rd x200000_2 (ji28))) < 0) = false := decide_eq_false c42
                       clear c42
                       by_cases c61 : (rd x200000_2 (ji28)) < (l1.length : Int)
                       ·rw [if_pos c61] at H
                        have c61b0 : decide ((rd x200000_2 (ji28)) < (l1.length : Int)) = true := decide_eq_true c61
                        clear c61
                        obtain ⟨ji62, hji62⟩ : ∃ j_ : Int, (mx (rd l1 (rd x200000_2 (ji28))) (rd t193 (rd x200000_2 (ji28)))) = j_ := ⟨_, rfl⟩
                        replace H : ((selvedgeref15_side.f (ji62)).bind fun t220 => (if x12_1.length < 4398046511104 then (selvedgeref15_Sequences.l0 k2 l0 l1 a2 t186 t189 t192 t193 (x12_1 ++ [(⟨x200000_2, rd l1 (rd x200000_2 0), t209, t220⟩ : S56)]) (wrap64 (x13_1 + 1))) else (none))) = some (r1, r2) := by first | (rw [hji62] at H; exact H) | (simp only [hji62] at H ⊢; exact H)
                        (try rw [hji62] at A35)
                        (try rw [hji62] at A39)
                        have hji62_ : (if (rd l1 (rd x200000_2 (ji28))) < (rd t193 (rd x200000_2 (ji28))) then (rd t193 (rd x200000_2 (ji28))) else (rd l1 (rd x200000_2 (ji28)))) = ji62 := hji62
                        replace H := Option.bind_eq_some_iff.mp H
                        obtain ⟨t220, A630, H⟩ := H
                        replace H : (if x12_1.length < 4398046511104 then (selvedgeref15_Sequences.l0 k2 l0 l1 a2 t186 t189 t192 t193 (x12_1 ++ [(⟨x200000_2, rd l1 (rd x200000_2 0), t209, t220⟩ : S56)]) (wrap64 (x13_1 + 1))) else (none)) = some (r1, r2) := H
                        have A63 := Aside0.mk A630
                        clear A630
                        by_cases c64 : x12_1.length < 4398046511104
                        ·rw [if_pos c64] at H
                         have LMc64 := Aside0.mk c64
                         clear c64
                         obtain ⟨y221, hy221⟩ : ∃ y_ : List (S56), y_ = (x12_1 ++ [(⟨x200000_2, rd l1 (rd x200000_2 0), t209, t220⟩ : S56)]) := ⟨_, rfl⟩
                         replace H : (selvedgeref15_Sequences.l0 k2 l0 l1 a2 t186 t189 t192 t193 y221 (wrap64 (x13_1 + 1))) = some (r1, r2) := by first | (rw [hy221]; with_reducible exact H) | (have H2_ := (Option.bind_some _ _).symm.trans H; rw [hy221]; with_reducible exact H2_) | (have H2_ := (Option.bind_some _ _).symm.trans H; with_reducible exact H2_) | with_reducible exact H | (rw [hy221]; exact H) | exact H
                         have Ny221 := Aside0.mk hy221
                         clear hy221
                         have H' := Aside0.mk H
                         clear H
                         try go_wp2
                         have n0_ := Aside0.mk (Kd.S_drew HO_8.out)
                         have n1_ := Aside0.mk (Kd.R_drew HO_9.out)
                         have n2_ := Aside0.mk (Kd.R_drew HO_10.out)
                         have n3_ := Aside0.mk (Kd.R_drew HO_11.out)
                         have n4_ := Aside0.mk (Kd.S_drew HO_12.out)
                         have n5_ := Aside0.mk (Kd.R_drew HO_200000.out)
                         have n6_ := Aside0.mk (blk_drew BK199.out)
                         have n7_ := Aside0.mk (below_drew1 HB.out)
                         clear HO_8
                         clear HO_9
                         clear HO_10
                         clear HO_11
                         clear HO_12
                         clear HO_200000
                         clear BK199
                         clear HB
                         have HO_8 := n0_
                         have HO_9 := n1_
                         have HO_10 := n2_
                         have HO_11 := n3_
                         have HO_12 := n4_
                         have HO_200000 := n5_
                         have BK199 := n6_
                         have HB := n7_
                         clear n0_ n1_ n2_ n3_ n4_ n5_ n6_ n7_
                         obtain ⟨Ao66, co66, eo66⟩ := Kd.R_slice HO_200000.out
                         (first | subst eo66 | (injection eo66 with f1_ f2_ f3_; have f4_ := f1_.symm; have f5_ := f3_.symm; clear f1_ f2_ f3_; subst f4_; subst f5_))
                         have p205 : 0 ≤ (0 : Int) := (by omega)
                         have q205 := dT (0 < (x200000_2.length : Int))
                         obtain ⟨ad205, e205, hx205_0⟩ := Kd.at_int (Kd.R_reads' HO_200000.out).2.2 0 p205 q205
                         cases e205
                         have qi205 : (0 < x200000_2.length) = True := eq_true (by omega)
                         (try rw [show ((0 : Int)).toNat = 0 from rfl] at hx205_0)
                         (try rw [Addr.add_zero'] at hx205_0)
                         replace p205 := eq_true p205
                         replace q205 := eq_true q205
                         obtain ⟨ad206, e206, hx206_0, p206, q206⟩ := atI (Kd.R_reads' HO_200000.out).2.2 (ji28)
                         obtain rfl : ad205 = ad206 := (by injection e206)
                         refine start_ (n := 14) (S := fun w' => w'.cell? ⟨gb199, 0, none⟩ = some (.slice (some ad205) x200000_2.length co66) ∧ w'.cell? ⟨gb199, 1, none⟩ = some (.int .u8 0) ∧ w'.cell? ⟨gb199, 2, none⟩ = some (.int .u8 0) ∧ w'.cell? ⟨gb199, 3, none⟩ = some (.int .u8 0) ∧ w'.cell? ad205 = some (.int .i64 (rd x200000_2 0)) ∧ w'.cell? (ad205.add ((ji28)).toNat) = some (.int .i64 (rd x200000_2 (ji28)))) (ds := []) #[false, false, false, false, false, false, false, false, false, false, false, false, false, false] (by kernel_rfl) rfl rfl ⟨(blk_cell BK199.out 0).trans rfl, (blk_cell BK199.out 1).trans rfl, (blk_cell BK199.out 2).trans rfl, (blk_cell BK199.out 3).trans rfl, hx205_0, hx206_0⟩ (fun hHeld => ?_); refine with_tabW selvedgeref15_Sequences.tab18 selvedgeref15_Sequences.bits18 (fun HT_ HW_ => ?_)
                         generalize wr.drew = w65 at HO_8 HO_9 HO_10 HO_11 HO_12 HO_200000 BK199 HB hx205_0 hx206_0 hHeld ⊢
                         refine pure_ (i := 0) (N := some 68) (v := ?_) (a' := ?_) #[true, false, false, false, false, false, false, false, false, false, false, false, false, false] rfl rfl (any_of HT_.out (by kernel_rfl)) (fun _ _ _ h => h) (Or.inl ⟨by rfl, ?_⟩) ?_ ?_
                         rotate_left
                         ·intro w'
                          go_simp
                          with_reducible rfl
                         rotate_left
                         ·simp only [Act.put, List.setIfInBounds_toArray, List.set_cons_zero, List.set_cons_succ, i64_w, i32_w]
                          rfl
                         refine pure_ (i := 4) (N := some 72) (v := ?_) (a' := ?_) #[true, false, false, false, true, false, false, false, false, false, false, false, false, false] rfl rfl (any_of HT_.out (by kernel_rfl)) (fun _ _ _ h => h) (Or.inl ⟨by rfl, ?_⟩) ?_ ?_
                         rotate_left
                         ·intro w'
                          go_simp
                          with_reducible rfl
                         rotate_left
                         ·simp only [Act.put, List.setIfInBounds_toArray, List.set_cons_zero, List.set_cons_succ, i64_w, i32_w]
                          rfl
                         refine pure_ (i := 6) (N := some 74) (v := ?_) (a' := ?_) #[true, false, false, false, true, false, true, false, false, false, false, false, false, false] rfl rfl (any_of HT_.out (by kernel_rfl)) (fun _ _ _ h => h) (Or.inl ⟨by rfl, ?_⟩) ?_ ?_
                         rotate_left
                         ·intro w'
                          go_simp
                          with_reducible rfl
                         rotate_left
                         ·simp only [Act.put, List.setIfInBounds_toArray, List.set_cons_zero, List.set_cons_succ, i64_w, i32_w]
                          rfl
                         refine take_ (i := 1) (N := some 69) (v := ?_) (a' := ?_) #[true, true, false, false, true, false, true, false, false, false, false, false, false, false] rfl rfl (take_ofW HT_.out HW_.out (by kernel_rfl)) (fun _ _ _ h => h) (Or.inl ⟨by rfl, ?_⟩) hHeld ?_ ?_
                         rotate_left
                         ·rintro w' ⟨s0, s1, s2, s3, s4, s5⟩
                          go_simp
                          with_reducible rfl
                         rotate_left
                         ·simp only [Act.put, List.setIfInBounds_toArray, List.set_cons_zero, List.set_cons_succ, i64_w, i32_w]
                          rfl
                         refine pure_ (i := 2) (N := some 70) (v := ?_) (a' := ?_) #[true, true, true, false, true, false, true, false, false, false, false, false, false, false] rfl rfl (any_of HT_.out (by kernel_rfl)) (fun _ _ _ h => h) (Or.inl ⟨by rfl, ?_⟩) ?_ ?_
                         rotate_left
                         ·intro w'
                          go_simp
                          with_reducible rfl
                         rotate_left
                         ·simp only [Act.put, List.setIfInBounds_toArray, List.set_cons_zero, List.set_cons_succ, i64_w, i32_w]
                          rfl
                         refine take_ (i := 3) (N := some 71) (v := ?_) (a' := ?_) #[true, true, true, true, true, false, true, false, false, false, false, false, false, false] rfl rfl (take_ofW HT_.out HW_.out (by kernel_rfl)) (fun _ _ _ h => h) (Or.inl ⟨by rfl, ?_⟩) hHeld ?_ ?_
                         rotate_left
                         ·rintro w' ⟨s0, s1, s2, s3, s4, s5⟩
                          go_simp
                          with_reducible rfl
                         rotate_left
                         ·simp only [Act.put, List.setIfInBounds_toArray, List.set_cons_zero, List.set_cons_succ, i64_w, i32_w]
                          rfl
                         refine pure_ (i := 12) (N := some 16) (v := ?_) (a' := ?_) #[true, true, true, true, true, false, true, false, false, false, false, false, true, false] rfl rfl (any_of HT_.out (by kernel_rfl)) (fun _ _ _ h => h) (Or.inl ⟨by rfl, ?_⟩) ?_ ?_
                         rotate_left
                         ·intro w'
                          go_simp
                          with_reducible rfl
                         rotate_left
                         ·simp only [Act.put, List.setIfInBounds_toArray, List.set_cons_zero, List.set_cons_succ, i64_w, i32_w]
                          rfl
                         refine take_ (i := 5) (N := some 73) (v := ?_) (a' := ?_) #[true, true, true, true, true, true, true, false, false, false, false, false, true, false] rfl rfl (take_ofW HT_.out HW_.out (by kernel_rfl)) (fun _ _ _ h => h) (Or.inl ⟨by rfl, ?_⟩) hHeld ?_ ?_
                         rotate_left
                         ·rintro w' ⟨s0, s1, s2, s3, s4, s5⟩
                          go_simp
                          with_reducible rfl
                         rotate_left
                         ·simp only [Act.put, List.setIfInBounds_toArray, List.set_cons_zero, List.set_cons_succ, i64_w, i32_w]
                          rfl
                         refine take_ (i := 7) (N := some 75) (v := ?_) (a' := ?_) #[true, true, true, true, true, true, true, true, false, false, false, false, true, false] rfl rfl (take_ofW HT_.out HW_.out (by kernel_rfl)) (fun _ _ _ h => h) (Or.inl ⟨by rfl, ?_⟩) hHeld ?_ ?_
                         rotate_left
                         ·rintro w' ⟨s0, s1, s2, s3, s4, s5⟩
                          go_simp
                          with_reducible rfl
                         rotate_left
                         ·simp only [Act.put, List.setIfInBounds_toArray, List.set_cons_zero, List.set_cons_succ, i64_w, i32_w]
                          rfl
                         refine pure_ (i := 8) (N := some 76) (v := ?_) (a' := ?_) #[true, true, true, true, true, true, true, true, true, false, false, false, true, false] rfl rfl (any_of HT_.out (by kernel_rfl)) (fun _ _ _ h => h) (Or.inl ⟨by rfl, ?_⟩) ?_ ?_
                         rotate_left
                         ·intro w'
                          go_simp
                          with_reducible rfl
                         rotate_left
                         ·simp only [Act.put, List.setIfInBounds_toArray, List.set_cons_zero, List.set_cons_succ, i64_w, i32_w]
                          rfl
                         refine pure_ (i := 9) (N := some 77) (v := ?_) (a' := ?_) #[true, true, true, true, true, true, true, true, true, true, false, false, true, false] rfl rfl (any_of HT_.out (by kernel_rfl)) (fun _ _ _ h => h) (Or.inl ⟨by rfl, ?_⟩) ?_ ?_
                         rotate_left
                         ·intro w'
                          go_simp
                          with_reducible rfl
                         rotate_left
                         ·simp only [Act.put, List.setIfInBounds_toArray, List.set_cons_zero, List.set_cons_succ, i64_w, i32_w]
                          rfl
                         refine pure_ (i := 10) (N := some 78) (v := ?_) (a' := ?_) #[true, true, true, true, true, true, true, true, true, true, true, false, true, false] rfl rfl (any_of HT_.out (by kernel_rfl)) (fun _ _ _ h => h) (Or.inl ⟨by rfl, ?_⟩) ?_ ?_
                         rotate_left
                         ·intro w'
                          go_simp
                          with_reducible rfl
                         rotate_left
                         ·simp only [Act.put, List.setIfInBounds_toArray, List.set_cons_zero, List.set_cons_succ, i64_w, i32_w]
                          rfl
                         refine take_ (i := 11) (N := some 79) (v := ?_) (a' := ?_) #[true, true, true, true, true, true, true, true, true, true, true, true, true, false] rfl rfl (take_ofW HT_.out HW_.out (by kernel_rfl)) (fun _ _ _ h => h) (Or.inl ⟨by rfl, ?_⟩) hHeld ?_ ?_
                         rotate_left
                         ·rintro w' ⟨s0, s1, s2, s3, s4, s5⟩
                          go_simp
                          with_reducible rfl
                         rotate_left
                         ·simp only [Act.put, List.setIfInBounds_toArray, List.set_cons_zero, List.set_cons_succ, i64_w, i32_w]
                          rfl
                         refine pure_ (i := 13) (N := some 17) (v := ?_) (a' := ?_) #[true, true, true, true, true, true, true, true, true, true, true, true, true, true] rfl rfl (any_of HT_.out (by kernel_rfl)) (fun _ _ _ h => h) (Or.inl ⟨by rfl, ?_⟩) ?_ ?_
                         rotate_left
                         ·intro w'
                          go_simp
                          with_reducible rfl
                         rotate_left
                         ·simp only [Act.put, List.setIfInBounds_toArray, List.set_cons_zero, List.set_cons_succ, i64_w, i32_w]
                          rfl
                         refine done_ (done_of HT_.out (by kernel_rfl)) ?_
                         obtain ⟨ad207, e207, hx207_0, p207, q207⟩ := atI HR1.out (rd x200000_2 0)
                         cases e207
                         replace hx207_0 := (HB.out.cell (World.block_lt_of_cell? w _ hx207_0)).trans hx207_0
                         have hcz67_0 : w65.cell? ⟨gb199, 0, none⟩ = some (.slice (some ad205) x200000_2.length co66) := (blk_cell BK199.out 0).trans rfl
                         have hcz67_1 : w65.cell? ⟨gb199, 1, none⟩ = some (.int .u8 0) := (blk_cell BK199.out 1).trans rfl
                         have hcz67_2 : w65.cell? ⟨gb199, 2, none⟩ = some (.int .u8 0) := (blk_cell BK199.out 2).trans rfl
                         have hcz67_3 : w65.cell? ⟨gb199, 3, none⟩ = some (.int .u8 0) := (blk_cell BK199.out 3).trans rfl
                         have hfz67_0 := blk_frozen BK199.out 0
                         have hfz67_1 := blk_frozen BK199.out 1
                         have hfz67_2 := blk_frozen BK199.out 2
                         have hfz67_3 := blk_frozen BK199.out 3
                         try go_wp2
                         have n0_ : Aside0 (Kd.S k55 55 (w65.setCell ⟨gb199, 1, none⟩ (.int .u8 (rd l1 (rd x200000_2 0)))) w.heap.size (fun k_ => some k_ ≠ (v190 : Value).ownBlock ∧ some k_ ≠ (.slice (some ad205) x200000_2.length co66 : Value).ownBlock) (.slice (some ad198) t186.length co16) t186) := ⟨by (with_reducible repeat (first | apply Kd.S_alloc | apply Kd.S_drewN | apply Kd.S_drew)); exact Kd.S_mono (Kd.S_far (p := ⟨gb199, 1, none⟩) (Kd.S_types HO_8.out BK199.out (by decide)) (fun _ hk => hk.2) (.int .u8 (rd l1 (rd x200000_2 0)))) (fun _ hk => by first | exact ⟨hk.1.1, hk.1.2⟩ | exact ⟨hk.1.2, hk.1.1⟩)⟩
                         have n1_ : Aside0 (Kd.R (Kd.int .i64) 3 (w65.setCell ⟨gb199, 1, none⟩ (.int .u8 (rd l1 (rd x200000_2 0)))) w.heap.size (fun k_ => some k_ ≠ (.slice (some ad205) x200000_2.length co66 : Value).ownBlock) v190 t189) := ⟨by (with_reducible repeat (first | apply Kd.R_alloc | apply Kd.R_drewN | apply Kd.R_drew)); exact Kd.R_mono (Kd.R_far (p := ⟨gb199, 1, none⟩) (Kd.R_types HO_9.out BK199.out (by decide)) (fun _ hk => hk.2) (.int .u8 (rd l1 (rd x200000_2 0)))) (fun _ hk => hk.1)⟩
                         have n2_ : Aside0 (Kd.R (Kd.int .u8) 5 (w65.setCell ⟨gb199, 1, none⟩ (.int .u8 (rd l1 (rd x200000_2 0)))) w.heap.size (fun k_ => some k_ ≠ (v196 : Value).ownBlock) v194 t192) := ⟨by (with_reducible repeat (first | apply Kd.R_alloc | apply Kd.R_drewN | apply Kd.R_drew)); exact Kd.R_mono (Kd.R_far (p := ⟨gb199, 1, none⟩) (Kd.R_types HO_10.out BK199.out (by decide)) (fun _ hk => hk.2) (.int .u8 (rd l1 (rd x200000_2 0)))) (fun _ hk => hk.1)⟩
                         have n3_ : Aside0 (Kd.R (Kd.int .u8) 5 (w65.setCell ⟨gb199, 1, none⟩ (.int .u8 (rd l1 (rd x200000_2 0)))) w.heap.size (fun k_ => some k_ ≠ (v194 : Value).ownBlock) v196 t193) := ⟨by (with_reducible repeat (first | apply Kd.R_alloc | apply Kd.R_drewN | apply Kd.R_drew)); exact Kd.R_mono (Kd.R_far (p := ⟨gb199, 1, none⟩) (Kd.R_types HO_11.out BK199.out (by decide)) (fun _ hk => hk.2) (.int .u8 (rd l1 (rd x200000_2 0)))) (fun _ hk => hk.1)⟩
                         have n4_ : Aside0 (Kd.S k56 56 (w65.setCell ⟨gb199, 1, none⟩ (.int .u8 (rd l1 (rd x200000_2 0)))) w.heap.size (fun k_ => some k_ ≠ (v190 : Value).ownBlock ∧ some k_ ≠ (.slice (some ad205) x200000_2.length co66 : Value).ownBlock ∧ k_ ≠ gb199) u12 x12_1) := ⟨by (with_reducible repeat (first | apply Kd.S_alloc | apply Kd.S_drewN | apply Kd.S_drew)); exact Kd.S_mono (Kd.S_far (p := ⟨gb199, 1, none⟩) (Kd.S_mono HO_12.out (fun k_ hk => (⟨hk, hk.2.2⟩ : _ ∧ k_ ≠ gb199))) (fun _ hk => hk.2) (.int .u8 (rd l1 (rd x200000_2 0)))) (fun _ hk => by first | exact ⟨hk.1.1, ⟨hk.1.2.1, hk.1.2.2⟩⟩ | exact ⟨hk.1.2.1, ⟨hk.1.1, hk.1.2.2⟩⟩)⟩
                         have n5_ : Aside0 (Kd.R (Kd.int .i64) 3 (w65.setCell ⟨gb199, 1, none⟩ (.int .u8 (rd l1 (rd x200000_2 0)))) w.heap.size (fun k_ => some k_ ≠ (v190 : Value).ownBlock) (.slice (some ad205) x200000_2.length co66) x200000_2) := ⟨by (with_reducible repeat (first | apply Kd.R_alloc | apply Kd.R_drewN | apply Kd.R_drew)); exact Kd.R_mono (Kd.R_far (p := ⟨gb199, 1, none⟩) (Kd.R_types HO_200000.out BK199.out (by decide)) (fun _ hk => hk.2) (.int .u8 (rd l1 (rd x200000_2 0)))) (fun _ hk => hk.1)⟩
                         have n6_ : Aside0 ((w65.setCell ⟨gb199, 1, none⟩ (.int .u8 (rd l1 (rd x200000_2 0)))).heap[gb199]? = some (.cells #[.slice (some ad205) x200000_2.length co66, .int .u8 (rd l1 (rd x200000_2 0)), .int .u8 0, .int .u8 0] 56 (0, 0))) := ⟨by (with_reducible repeat (first | refine blk_drewN ?_ _ | refine blk_drew ?_ | refine blk_alloc ?_ _)); refine blk_put (cs := #[.slice (some ad205) x200000_2.length co66, .int .u8 0, .int .u8 0, .int .u8 0]) ?_ 1 _ rfl; (with_reducible repeat (first | refine blk_drewN ?_ _ | refine blk_drew ?_ | refine blk_alloc ?_ _)); exact BK199.out⟩
                         have n7_ : Aside0 (Below w.heap.size w (w65.setCell ⟨gb199, 1, none⟩ (.int .u8 (rd l1 (rd x200000_2 0))))) := ⟨by repeat (first | (with_reducible first | exact HB.out | apply below_alloc | apply pw_below_drewN | apply below_drew1 | refine below_set ?_ GE199.out) | exact HB.out)⟩
                         (try clear HO_8)
                         (try clear HO_9)
                         (try clear HO_10)
                         (try clear HO_11)
                         (try clear HO_12)
                         (try clear HO_200000)
                         (try clear BK199)
                         (try clear HB)
                         generalize (w65.setCell ⟨gb199, 1, none⟩ (.int .u8 (rd l1 (rd x200000_2 0)))) = w68 at n0_ n1_ n2_ n3_ n4_ n5_ n6_ n7_ ⊢
                         have HO_8 := n0_
                         have HO_9 := n1_
                         have HO_10 := n2_
                         have HO_11 := n3_
                         have HO_12 := n4_
                         have HO_200000 := n5_
                         have BK199 := n6_
                         have HB := n7_
                         clear n0_ n1_ n2_ n3_ n4_ n5_ n6_ n7_
                         have n0_ := Aside0.mk (Kd.S_drew HO_8.out)
                         have n1_ := Aside0.mk (Kd.R_drew HO_9.out)
                         have n2_ := Aside0.mk (Kd.R_drew HO_10.out)
                         have n3_ := Aside0.mk (Kd.R_drew HO_11.out)
                         have n4_ := Aside0.mk (Kd.S_drew HO_12.out)
                         have n5_ := Aside0.mk (Kd.R_drew HO_200000.out)
                         have n6_ := Aside0.mk (blk_drew BK199.out)
                         have n7_ := Aside0.mk (below_drew1 HB.out)
                         clear HO_8
                         clear HO_9
                         clear HO_10
                         clear HO_11
                         clear HO_12
                         clear HO_200000
                         clear BK199
                         clear HB
                         have HO_8 := n0_
                         have HO_9 := n1_
                         have HO_10 := n2_
                         have HO_11 := n3_
                         have HO_12 := n4_
                         have HO_200000 := n5_
                         have BK199 := n6_
                         have HB := n7_
                         clear n0_ n1_ n2_ n3_ n4_ n5_ n6_ n7_
                         obtain ⟨Ao70, co70, eo70⟩ := Kd.R_slice HO_10.out
                         (first | subst eo70 | (injection eo70 with f1_ f2_ f3_; have f4_ := f1_.symm; have f5_ := f3_.symm; clear f1_ f2_ f3_; subst f4_; subst f5_))
                         obtain ⟨ad208, e208, hx208_0, p208, q208⟩ := atI (Kd.R_reads' HO_10.out).2.2 (rd x200000_2 0)
                         cases e208
                         refine start_ (n := 10) (S := fun w' => w'.cell? ⟨gb199, 0, none⟩ = some (.slice (some ad205) x200000_2.length co66) ∧ w'.cell? ⟨gb199, 1, none⟩ = some (.int .u8 (rd l1 (rd x200000_2 0))) ∧ w'.cell? ⟨gb199, 2, none⟩ = some (.int .u8 0) ∧ w'.cell? ⟨gb199, 3, none⟩ = some (.int .u8 0) ∧ w'.cell? (ad208.add ((rd x200000_2 0)).toNat) = some (.int .u8 (rd t192 (rd x200000_2 0)))) (ds := [9]) #[false, false, false, false, false, false, false, false, false, false] (by kernel_rfl) rfl rfl ⟨(blk_cell BK199.out 0).trans rfl, (blk_cell BK199.out 1).trans rfl, (blk_cell BK199.out 2).trans rfl, (blk_cell BK199.out 3).trans rfl, hx208_0⟩ (fun hHeld => ?_); refine with_tabW selvedgeref15_Sequences.tab20 selvedgeref15_Sequences.bits20 (fun HT_ HW_ => ?_)
                         generalize w68.drew = w69 at HO_8 HO_9 HO_10 HO_11 HO_12 HO_200000 BK199 HB hx208_0 hHeld ⊢
                         refine pure_ (i := 0) (N := some 85) (v := ?_) (a' := ?_) #[true, false, false, false, false, false, false, false, false, false] rfl rfl (any_of HT_.out (by kernel_rfl)) (fun _ _ _ h => h) (Or.inl ⟨by rfl, ?_⟩) ?_ ?_
                         rotate_left
                         ·intro w'
                          go_simp
                          with_reducible rfl
                         rotate_left
                         ·simp only [Act.put, List.setIfInBounds_toArray, List.set_cons_zero, List.set_cons_succ, i64_w, i32_w]
                          rfl
                         refine pure_ (i := 2) (N := some 87) (v := ?_) (a' := ?_) #[true, false, true, false, false, false, false, false, false, false] rfl rfl (any_of HT_.out (by kernel_rfl)) (fun _ _ _ h => h) (Or.inl ⟨by rfl, ?_⟩) ?_ ?_
                         rotate_left
                         ·intro w'
                          go_simp
                          with_reducible rfl
                         rotate_left
                         ·simp only [Act.put, List.setIfInBounds_toArray, List.set_cons_zero, List.set_cons_succ, i64_w, i32_w]
                          rfl
                         refine pure_ (i := 3) (N := some 88) (v := ?_) (a' := ?_) #[true, false, true, true, false, false, false, false, false, false] rfl rfl (any_of HT_.out (by kernel_rfl)) (fun _ _ _ h => h) (Or.inl ⟨by rfl, ?_⟩) ?_ ?_
                         rotate_left
                         ·intro w'
                          go_simp
                          with_reducible rfl
                         rotate_left
                         ·simp only [Act.put, List.setIfInBounds_toArray, List.set_cons_zero, List.set_cons_succ, i64_w, i32_w]
                          rfl
                         refine pure_ (i := 4) (N := some 89) (v := ?_) (a' := ?_) #[true, false, true, true, true, false, false, false, false, false] rfl rfl (any_of HT_.out (by kernel_rfl)) (fun _ _ _ h => h) (Or.inl ⟨by rfl, ?_⟩) ?_ ?_
                         rotate_left
                         ·intro w'
                          go_simp
                          with_reducible rfl
                         rotate_left
                         ·simp only [Act.put, List.setIfInBounds_toArray, List.set_cons_zero, List.set_cons_succ, i64_w, i32_w]
                          rfl
                         refine take_ (i := 1) (N := some 86) (v := ?_) (a' := ?_) #[true, true, true, true, true, false, false, false, false, false] rfl rfl (take_ofW HT_.out HW_.out (by kernel_rfl)) (fun _ _ _ h => h) (Or.inl ⟨by rfl, ?_⟩) hHeld ?_ ?_
                         rotate_left
                         ·rintro w' ⟨s0, s1, s2, s3, s4⟩
                          go_simp
                          with_reducible rfl
                         rotate_left
                         ·simp only [Act.put, List.setIfInBounds_toArray, List.set_cons_zero, List.set_cons_succ, i64_w, i32_w]
                          rfl
                         refine take_ (i := 5) (N := some 90) (v := ?_) (a' := ?_) #[true, true, true, true, true, true, false, false, false, false] rfl rfl (take_ofW HT_.out HW_.out (by kernel_rfl)) (fun _ _ _ h => h) (Or.inl ⟨by rfl, ?_⟩) hHeld ?_ ?_
                         rotate_left
                         ·rintro w' ⟨s0, s1, s2, s3, s4⟩
                          go_simp
                          with_reducible rfl
                         rotate_left
                         ·simp only [Act.put, List.setIfInBounds_toArray, List.set_cons_zero, List.set_cons_succ, i64_w, i32_w]
                          rfl
                         refine pure_ (i := 6) (N := some 91) (v := ?_) (a' := ?_) #[true, true, true, true, true, true, true, false, false, false] rfl rfl (any_of HT_.out (by kernel_rfl)) (fun _ _ _ h => h) (Or.inl ⟨by rfl, ?_⟩) ?_ ?_
                         rotate_left
                         ·intro w'
                          go_simp
                          with_reducible rfl
                         rotate_left
                         ·simp only [Act.put, List.setIfInBounds_toArray, List.set_cons_zero, List.set_cons_succ, i64_w, i32_w]
                          rfl
                         refine one_ (i := 7) (N := some 92) #[true, true, true, true, true, true, true, true, false, false] rfl rfl (one_of HT_.out (by kernel_rfl)) (by decide) (fun K hK => ?_)
                         refine goes_ Try.func18 (by kernel_rfl) rfl #[.int .u8 ji34] (by rfl) rfl rfl (by (try simp only [List.map_toArray, List.map_cons, List.map_nil]); first | done | (simp only [hji34]; rfl) | rfl | (simp only [List.length_drop, List.length_take]; rfl)) ?_
                         with_reducible refine (selvedgeref15_side.same ji34 t209 _ A35.out).mono ?_
                         rintro e w' ⟨rfl, hw'⟩; obtain rfl := hw'.symm
                         refine ⟨_, rfl, ?_⟩
                         refine hK.out _ _ ⟨(blk_cell BK199.out 0).trans rfl, (blk_cell BK199.out 1).trans rfl, (blk_cell BK199.out 2).trans rfl, (blk_cell BK199.out 3).trans rfl, hHeld.2.2.2.2⟩ (fun hHeld => ?_)
                         clear hK K
                         refine norm_ (a' := ?_) ?_ ?_
                         rotate_left
                         ·show Act.put _ (some 92) _ = _
                          simp only [Act.put, List.setIfInBounds_toArray, List.set_cons_zero, List.set_cons_succ, i64_w, i32_w]
                          rfl
                         refine pure_ (i := 8) (N := some 93) (v := ?_) (a' := ?_) #[true, true, true, true, true, true, true, true, true, false] rfl rfl (any_of HT_.out (by kernel_rfl)) (fun _ _ _ h => h) (Or.inl ⟨by rfl, ?_⟩) ?_ ?_
                         rotate_left
                         ·intro w'
                          go_simp
                          with_reducible rfl
                         rotate_left
                         ·simp only [Act.put, List.setIfInBounds_toArray, List.set_cons_zero, List.set_cons_succ, i64_w, i32_w]
                          rfl
                         refine last_ (i := 9) (N := none) #[true, true, true, true, true, true, true, true, true, true] rfl rfl (one_of HT_.out (by kernel_rfl)) (by decide) (fun K hK => ?_)
                         have hs71 : w69.cell? ⟨gb199, 2, none⟩ = some (.int .u8 0) := (blk_cell BK199.out 2).trans rfl
                         have hfs71 := blk_frozen BK199.out 2
                         refine skip_ (w1 := ?_) (by rfl) rfl ?_ ?_
                         rotate_left
                         ·go_simp
                          rfl
                         refine hK.out _ _ ?_
                         clear hK K
                         refine done_ (done_of HT_.out (by kernel_rfl)) ?_
                         have n0_ : Aside0 (Kd.S k55 55 (w69.setCell ⟨gb199, 2, none⟩ (.int .u8 t209)) w.heap.size (fun k_ => some k_ ≠ (v190 : Value).ownBlock ∧ some k_ ≠ (.slice (some ad205) x200000_2.length co66 : Value).ownBlock) (.slice (some ad198) t186.length co16) t186) := ⟨by (with_reducible repeat (first | apply Kd.S_alloc | apply Kd.S_drewN | apply Kd.S_drew)); exact Kd.S_mono (Kd.S_far (p := ⟨gb199, 2, none⟩) (Kd.S_types HO_8.out BK199.out (by decide)) (fun _ hk => hk.2) (.int .u8 t209)) (fun _ hk => by first | exact ⟨hk.1.1, hk.1.2⟩ | exact ⟨hk.1.2, hk.1.1⟩)⟩
                         have n1_ : Aside0 (Kd.R (Kd.int .i64) 3 (w69.setCell ⟨gb199, 2, none⟩ (.int .u8 t209)) w.heap.size (fun k_ => some k_ ≠ (.slice (some ad205) x200000_2.length co66 : Value).ownBlock) v190 t189) := ⟨by (with_reducible repeat (first | apply Kd.R_alloc | apply Kd.R_drewN | apply Kd.R_drew)); exact Kd.R_mono (Kd.R_far (p := ⟨gb199, 2, none⟩) (Kd.R_types HO_9.out BK199.out (by decide)) (fun _ hk => hk.2) (.int .u8 t209)) (fun _ hk => hk.1)⟩
                         have n2_ : Aside0 (Kd.R (Kd.int .u8) 5 (w69.setCell ⟨gb199, 2, none⟩ (.int .u8 t209)) w.heap.size (fun k_ => some k_ ≠ (v196 : Value).ownBlock) (.slice (some ad208) t192.length co70) t192) := ⟨by (with_reducible repeat (first | apply Kd.R_alloc | apply Kd.R_drewN | apply Kd.R_drew)); exact Kd.R_mono (Kd.R_far (p := ⟨gb199, 2, none⟩) (Kd.R_types HO_10.out BK199.out (by decide)) (fun _ hk => hk.2) (.int .u8 t209)) (fun _ hk => hk.1)⟩
                         have n3_ : Aside0 (Kd.R (Kd.int .u8) 5 (w69.setCell ⟨gb199, 2, none⟩ (.int .u8 t209)) w.heap.size (fun k_ => some k_ ≠ (.slice (some ad208) t192.length co70 : Value).ownBlock) v196 t193) := ⟨by (with_reducible repeat (first | apply Kd.R_alloc | apply Kd.R_drewN | apply Kd.R_drew)); exact Kd.R_mono (Kd.R_far (p := ⟨gb199, 2, none⟩) (Kd.R_types HO_11.out BK199.out (by decide)) (fun _ hk => hk.2) (.int .u8 t209)) (fun _ hk => hk.1)⟩
                         have n4_ : Aside0 (Kd.S k56 56 (w69.setCell ⟨gb199, 2, none⟩ (.int .u8 t209)) w.heap.size (fun k_ => some k_ ≠ (v190 : Value).ownBlock ∧ some k_ ≠ (.slice (some ad205) x200000_2.length co66 : Value).ownBlock ∧ k_ ≠ gb199) u12 x12_1) := ⟨by (with_reducible repeat (first | apply Kd.S_alloc | apply Kd.S_drewN | apply Kd.S_drew)); exact Kd.S_mono (Kd.S_far (p := ⟨gb199, 2, none⟩) (Kd.S_mono HO_12.out (fun k_ hk => (⟨hk, hk.2.2⟩ : _ ∧ k_ ≠ gb199))) (fun _ hk => hk.2) (.int .u8 t209)) (fun _ hk => by first | exact ⟨hk.1.1, ⟨hk.1.2.1, hk.1.2.2⟩⟩ | exact ⟨hk.1.2.1, ⟨hk.1.1, hk.1.2.2⟩⟩)⟩
                         have n5_ : Aside0 (Kd.R (Kd.int .i64) 3 (w69.setCell ⟨gb199, 2, none⟩ (.int .u8 t209)) w.heap.size (fun k_ => some k_ ≠ (v190 : Value).ownBlock) (.slice (some ad205) x200000_2.length co66) x200000_2) := ⟨by (with_reducible repeat (first | apply Kd.R_alloc | apply Kd.R_drewN | apply Kd.R_drew)); exact Kd.R_mono (Kd.R_far (p := ⟨gb199, 2, none⟩) (Kd.R_types HO_200000.out BK199.out (by decide)) (fun _ hk => hk.2) (.int .u8 t209)) (fun _ hk => hk.1)⟩
                         have n6_ : Aside0 ((w69.setCell ⟨gb199, 2, none⟩ (.int .u8 t209)).heap[gb199]? = some (.cells #[.slice (some ad205) x200000_2.length co66, .int .u8 (rd l1 (rd x200000_2 0)), .int .u8 t209, .int .u8 0] 56 (0, 0))) := ⟨by (with_reducible repeat (first | refine blk_drewN ?_ _ | refine blk_drew ?_ | refine blk_alloc ?_ _)); refine blk_put (cs := #[.slice (some ad205) x200000_2.length co66, .int .u8 (rd l1 (rd x200000_2 0)), .int .u8 0, .int .u8 0]) ?_ 2 _ rfl; (with_reducible repeat (first | refine blk_drewN ?_ _ | refine blk_drew ?_ | refine blk_alloc ?_ _)); exact BK199.out⟩
                         have n7_ : Aside0 (Below w.heap.size w (w69.setCell ⟨gb199, 2, none⟩ (.int .u8 t209))) := ⟨by repeat (first | (with_reducible first | exact HB.out | apply below_alloc | apply pw_below_drewN | apply below_drew1 | refine below_set ?_ GE199.out) | exact HB.out)⟩
                         (try clear HO_8)
                         (try clear HO_9)
                         (try clear HO_10)
                         (try clear HO_11)
                         (try clear HO_12)
                         (try clear HO_200000)
                         (try clear BK199)
                         (try clear HB)
                         generalize (w69.setCell ⟨gb199, 2, none⟩ (.int .u8 t209)) = w72 at n0_ n1_ n2_ n3_ n4_ n5_ n6_ n7_ ⊢
                         have HO_8 := n0_
                         have HO_9 := n1_
                         have HO_10 := n2_
                         have HO_11 := n3_
                         have HO_12 := n4_
                         have HO_200000 := n5_
                         have BK199 := n6_
                         have HB := n7_
                         clear n0_ n1_ n2_ n3_ n4_ n5_ n6_ n7_
                         obtain ⟨Ao73, co73, eo73⟩ := Kd.R_slice HO_11.out
                         subst eo73
                         obtain ⟨ad210, e210, hx210_0, p210, q210⟩ := atI (Kd.R_reads' HO_11.out).2.2 (rd x200000_2 (ji28))
                         cases e210
                         obtain ⟨ad211, e211, hx211_0, p211, q211⟩ := atI HR0.out (rd x200000_2 (ji28))
                         cases e211
                         replace hx211_0 := (HB.out.cell (World.block_lt_of_cell? w _ hx211_0)).trans hx211_0
                         try go_wp2_with (first | ((with_reducible refine gate_callee (f := 19) rfl ?_); refine goesL_ (some 102) rfl rfl Try.func19 (by kernel_rfl) rfl #[.int .u8 (rd l0 (rd x200000_2 (ji28)))] rfl (by (try simp only [List.map_toArray, List.map_cons, List.map_nil]); first | done | (simp only [hji28]; rfl) | rfl | (simp only [List.length_drop, List.length_take]; rfl)) ?_; (with_reducible refine (selvedgeref14_Initiator.calls (rd l0 (rd x200000_2 (ji28))) true _ A39.out).mono ?_); rintro e w' ⟨rfl, ⟨nd, rfl⟩⟩; refine ⟨_, rfl, ?_⟩; (try (rw [drewN_self w72]; generalize hq_ : World.drewN w72 _ = w72; have n0_ : Aside0 (Kd.R (Kd.int .u8) 5 w72 w.heap.size (fun k_ => some k_ ≠ (.slice (some ad210) t193.length co73 : Value).ownBlock) (.slice (some ad208) t192.length co70) t192) := ⟨by rw [← hq_]; exact (mvR HO_10)⟩; have n1_ : Aside0 (Kd.R (Kd.int .u8) 5 w72 w.heap.size (fun k_ => some k_ ≠ (.slice (some ad208) t192.length co70 : Value).ownBlock) (.slice (some ad210) t193.length co73) t193) := ⟨by rw [← hq_]; exact (mvR HO_11)⟩; have n2_ : Aside0 (Kd.S k56 56 w72 w.heap.size (fun k_ => some k_ ≠ (.slice (some ad205) x200000_2.length co66 : Value).ownBlock ∧ some k_ ≠ (v190 : Value).ownBlock ∧ k_ ≠ gb199) u12 x12_1) := ⟨by rw [← hq_]; exact (by (with_reducible repeat (first | apply Kd.S_alloc | apply Kd.S_drewN | apply Kd.S_drew)); exact Kd.S_mono HO_12.out (fun _ hk => ⟨hk.2.1, ⟨hk.1, hk.2.2⟩⟩))⟩; have n3_ : Aside0 (Kd.R (Kd.int .i64) 3 w72 w.heap.size (fun k_ => some k_ ≠ (v190 : Value).ownBlock) (.slice (some ad205) x200000_2.length co66) x200000_2) := ⟨by rw [← hq_]; exact (mvR HO_200000)⟩; have n4_ : Aside0 (Kd.S k55 55 w72 w.heap.size (fun k_ => some k_ ≠ (.slice (some ad205) x200000_2.length co66 : Value).ownBlock ∧ some k_ ≠ (v190 : Value).ownBlock) (.slice (some ad198) t186.length co16) t186) := ⟨by rw [← hq_]; exact (by (with_reducible repeat (first | apply Kd.S_alloc | apply Kd.S_drewN | apply Kd.S_drew)); exact Kd.S_mono HO_8.out (fun _ hk => ⟨hk.2, hk.1⟩))⟩; have n5_ : Aside0 (Kd.R (Kd.int .i64) 3 w72 w.heap.size (fun k_ => some k_ ≠ (.slice (some ad205) x200000_2.length co66 : Value).ownBlock) v190 t189) := ⟨by rw [← hq_]; exact (mvR HO_9)⟩; have n6_ : Aside0 (w72.heap[gb199]? = some (.cells #[.slice (some ad205) x200000_2.length co66, .int .u8 (rd l1 (rd x200000_2 0)), .int .u8 t209, .int .u8 0] 56 (0, 0))) := ⟨by rw [← hq_]; exact (by (with_reducible repeat (first | refine blk_drewN ?_ _ | refine blk_drew ?_ | refine blk_alloc ?_ _)); exact BK199.out)⟩; have n7_ : Aside0 (Below w.heap.size w w72) := ⟨by rw [← hq_]; exact (by repeat (first | (with_reducible first | exact HB.out | apply below_alloc | apply pw_below_drewN | apply below_drew1 | refine below_set ?_ GE199.out) | exact HB.out))⟩; clear HO_10 HO_11 HO_12 HO_200000 HO_8 HO_9 BK199 HB hq_; have HO_10 := n0_; have HO_11 := n1_; have HO_12 := n2_; have HO_200000 := n3_; have HO_8 := n4_; have HO_9 := n5_; have BK199 := n6_; have HB := n7_; clear n0_ n1_ n2_ n3_ n4_ n5_ n6_ n7_)); obtain ⟨Ao74, co74, eo74⟩ := Kd.R_slice HO_9.out; subst eo74; obtain ⟨ad213, e213, hx213_0, p213, q213⟩ := atI (Kd.R_reads' HO_9.out).2.2 (rd x200000_2 (ji28)); cases e213; obtain ⟨ad219, e219, hx219_0, p219, q219⟩ := atI HR1.out (rd x200000_2 (ji28)); obtain rfl : ad207 = ad219 := (by injection e219); replace hx219_0 := (HB.out.cell (World.block_lt_of_cell? w _ hx219_0)).trans hx219_0) | ((with_reducible refine gate_callee (f := 18) rfl ?_); refine goesL_ (some 117) rfl rfl Try.func18 (by kernel_rfl) rfl #[.int .u8 ji62] rfl (by (try simp only [List.map_toArray, List.map_cons, List.map_nil]); first | done | (simp only [hji62]; rfl) | rfl | (simp only [List.length_drop, List.length_take]; rfl)) ?_; (with_reducible refine (selvedgeref15_side.same ji62 t220 _ A63.out).mono ?_); rintro e w' ⟨rfl, hw'⟩; obtain rfl := hw'.symm; refine ⟨_, rfl, ?_⟩; (try (rw [drewN_self w72]; generalize hq_ : World.drewN w72 _ = w72; have n0_ : Aside0 (Kd.R (Kd.int .u8) 5 w72 w.heap.size (fun k_ => some k_ ≠ (.slice (some ad210) t193.length co73 : Value).ownBlock) (.slice (some ad208) t192.length co70) t192) := ⟨by rw [← hq_]; exact (mvR HO_10)⟩; have n1_ : Aside0 (Kd.R (Kd.int .u8) 5 w72 w.heap.size (fun k_ => some k_ ≠ (.slice (some ad208) t192.length co70 : Value).ownBlock) (.slice (some ad210) t193.length co73) t193) := ⟨by rw [← hq_]; exact (mvR HO_11)⟩; have n2_ : Aside0 (Kd.S k56 56 w72 w.heap.size (fun k_ => some k_ ≠ (.slice (some ad205) x200000_2.length co66 : Value).ownBlock ∧ some k_ ≠ (.slice (some ad213) t189.length co74 : Value).ownBlock ∧ k_ ≠ gb199) u12 x12_1) := ⟨by rw [← hq_]; exact (by (with_reducible repeat (first | apply Kd.S_alloc | apply Kd.S_drewN | apply Kd.S_drew)); exact Kd.S_mono HO_12.out (fun _ hk => ⟨hk.2.1, ⟨hk.1, hk.2.2⟩⟩))⟩; have n3_ : Aside0 (Kd.R (Kd.int .i64) 3 w72 w.heap.size (fun k_ => some k_ ≠ (.slice (some ad213) t189.length co74 : Value).ownBlock) (.slice (some ad205) x200000_2.length co66) x200000_2) := ⟨by rw [← hq_]; exact (mvR HO_200000)⟩; have n4_ : Aside0 (Kd.S k55 55 w72 w.heap.size (fun k_ => some k_ ≠ (.slice (some ad205) x200000_2.length co66 : Value).ownBlock ∧ some k_ ≠ (.slice (some ad213) t189.length co74 : Value).ownBlock) (.slice (some ad198) t186.length co16) t186) := ⟨by rw [← hq_]; exact (by (with_reducible repeat (first | apply Kd.S_alloc | apply Kd.S_drewN | apply Kd.S_drew)); exact Kd.S_mono HO_8.out (fun _ hk => ⟨hk.2, hk.1⟩))⟩; have n5_ : Aside0 (Kd.R (Kd.int .i64) 3 w72 w.heap.size (fun k_ => some k_ ≠ (.slice (some ad205) x200000_2.length co66 : Value).ownBlock) (.slice (some ad213) t189.length co74) t189) := ⟨by rw [← hq_]; exact (mvR HO_9)⟩; have n6_ : Aside0 (w72.heap[gb199]? = some (.cells #[.slice (some ad205) x200000_2.length co66, .int .u8 (rd l1 (rd x200000_2 0)), .int .u8 t209, .int .u8 0] 56 (0, 0))) := ⟨by rw [← hq_]; exact (by (with_reducible repeat (first | refine blk_drewN ?_ _ | refine blk_drew ?_ | refine blk_alloc ?_ _)); exact BK199.out)⟩; have n7_ : Aside0 (Below w.heap.size w w72) := ⟨by rw [← hq_]; exact (by repeat (first | (with_reducible first | exact HB.out | apply below_alloc | apply pw_below_drewN | apply below_drew1 | refine below_set ?_ GE199.out) | exact HB.out))⟩; clear HO_10 HO_11 HO_12 HO_200000 HO_8 HO_9 BK199 HB hq_; have HO_10 := n0_; have HO_11 := n1_; have HO_12 := n2_; have HO_200000 := n3_; have HO_8 := n4_; have HO_9 := n5_; have BK199 := n6_; have HB := n7_; clear n0_ n1_ n2_ n3_ n4_ n5_ n6_ n7_)); have hcz75_0 : w72.cell? ⟨gb199, 0, none⟩ = some (.slice (some ad205) x200000_2.length co66) := (blk_cell BK199.out 0).trans rfl; have hcz75_1 : w72.cell? ⟨gb199, 1, none⟩ = some (.int .u8 (rd l1 (rd x200000_2 0))) := (blk_cell BK199.out 1).trans rfl; have hcz75_2 : w72.cell? ⟨gb199, 2, none⟩ = some (.int .u8 t209) := (blk_cell BK199.out 2).trans rfl; have hcz75_3 : w72.cell? ⟨gb199, 3, none⟩ = some (.int .u8 0) := (blk_cell BK199.out 3).trans rfl; have hfz75_0 := blk_frozen BK199.out 0; have hfz75_1 := blk_frozen BK199.out 1; have hfz75_2 := blk_frozen BK199.out 2; have hfz75_3 := blk_frozen BK199.out 3) | ((with_reducible refine gate_store (t := 34) (p := 118) rfl ?_); refine store_event (t := 34) (p := 118) (v := ?vo_w76) (w1 := (w72.setCell ⟨gb199, 3, none⟩ (.int .u8 t220))) ?hg ?ho ?hn ?hr ?_; (case ho => rfl); (case hg => rfl); (case hn => rfl); (case hr => first | (go_simp; done) | (go_simp; rfl)); intro w76 hw; have n0_ : Aside0 (Kd.S k55 55 w76 w.heap.size (fun k_ => some k_ ≠ (.slice (some ad213) t189.length co74 : Value).ownBlock ∧ some k_ ≠ (.slice (some ad205) x200000_2.length co66 : Value).ownBlock) (.slice (some ad198) t186.length co16) t186) := ⟨(by rw [hw]; exact (by (with_reducible repeat (first | apply Kd.S_alloc | apply Kd.S_drewN | apply Kd.S_drew)); exact Kd.S_mono (Kd.S_far (p := ⟨gb199, 3, none⟩) (Kd.S_types HO_8.out BK199.out (by decide)) (fun _ hk => hk.2) (.int .u8 t220)) (fun _ hk => by first | exact ⟨hk.1.1, hk.1.2⟩ | exact ⟨hk.1.2, hk.1.1⟩)))⟩; have n1_ : Aside0 (Kd.R (Kd.int .i64) 3 w76 w.heap.size (fun k_ => some k_ ≠ (.slice (some ad205) x200000_2.length co66 : Value).ownBlock) (.slice (some ad213) t189.length co74) t189) := ⟨(by rw [hw]; exact (by (with_reducible repeat (first | apply Kd.R_alloc | apply Kd.R_drewN | apply Kd.R_drew)); exact Kd.R_mono (Kd.R_far (p := ⟨gb199, 3, none⟩) (Kd.R_types HO_9.out BK199.out (by decide)) (fun _ hk => hk.2) (.int .u8 t220)) (fun _ hk => hk.1)))⟩; have n2_ : Aside0 (Kd.R (Kd.int .u8) 5 w76 w.heap.size (fun k_ => some k_ ≠ (.slice (some ad210) t193.length co73 : Value).ownBlock) (.slice (some ad208) t192.length co70) t192) := ⟨(by rw [hw]; exact (by (with_reducible repeat (first | apply Kd.R_alloc | apply Kd.R_drewN | apply Kd.R_drew)); exact Kd.R_mono (Kd.R_far (p := ⟨gb199, 3, none⟩) (Kd.R_types HO_10.out BK199.out (by decide)) (fun _ hk => hk.2) (.int .u8 t220)) (fun _ hk => hk.1)))⟩; have n3_ : Aside0 (Kd.R (Kd.int .u8) 5 w76 w.heap.size (fun k_ => some k_ ≠ (.slice (some ad208) t192.length co70 : Value).ownBlock) (.slice (some ad210) t193.length co73) t193) := ⟨(by rw [hw]; exact (by (with_reducible repeat (first | apply Kd.R_alloc | apply Kd.R_drewN | apply Kd.R_drew)); exact Kd.R_mono (Kd.R_far (p := ⟨gb199, 3, none⟩) (Kd.R_types HO_11.out BK199.out (by decide)) (fun _ hk => hk.2) (.int .u8 t220)) (fun _ hk => hk.1)))⟩; have n4_ : Aside0 (Kd.S k56 56 w76 w.heap.size (fun k_ => some k_ ≠ (.slice (some ad213) t189.length co74 : Value).ownBlock ∧ some k_ ≠ (.slice (some ad205) x200000_2.length co66 : Value).ownBlock ∧ k_ ≠ gb199) u12 x12_1) := ⟨(by rw [hw]; exact (by (with_reducible repeat (first | apply Kd.S_alloc | apply Kd.S_drewN | apply Kd.S_drew)); exact Kd.S_mono (Kd.S_far (p := ⟨gb199, 3, none⟩) (Kd.S_mono HO_12.out (fun k_ hk => (⟨hk, hk.2.2⟩ : _ ∧ k_ ≠ gb199))) (fun _ hk => hk.2) (.int .u8 t220)) (fun _ hk => by first | exact ⟨hk.1.1, ⟨hk.1.2.1, hk.1.2.2⟩⟩ | exact ⟨hk.1.2.1, ⟨hk.1.1, hk.1.2.2⟩⟩)))⟩; have n5_ : Aside0 (Kd.R (Kd.int .i64) 3 w76 w.heap.size (fun k_ => some k_ ≠ (.slice (some ad213) t189.length co74 : Value).ownBlock) (.slice (some ad205) x200000_2.length co66) x200000_2) := ⟨(by rw [hw]; exact (by (with_reducible repeat (first | apply Kd.R_alloc | apply Kd.R_drewN | apply Kd.R_drew)); exact Kd.R_mono (Kd.R_far (p := ⟨gb199, 3, none⟩) (Kd.R_types HO_200000.out BK199.out (by decide)) (fun _ hk => hk.2) (.int .u8 t220)) (fun _ hk => hk.1)))⟩; have n6_ : Aside0 (w76.heap[gb199]? = some (.cells #[.slice (some ad205) x200000_2.length co66, .int .u8 (rd l1 (rd x200000_2 0)), .int .u8 t209, .int .u8 t220] 56 (0, 0))) := ⟨(by rw [hw]; exact (by (with_reducible repeat (first | refine blk_drewN ?_ _ | refine blk_drew ?_ | refine blk_alloc ?_ _)); refine blk_put (cs := #[.slice (some ad205) x200000_2.length co66, .int .u8 (rd l1 (rd x200000_2 0)), .int .u8 t209, .int .u8 0]) ?_ 3 _ rfl; (with_reducible repeat (first | refine blk_drewN ?_ _ | refine blk_drew ?_ | refine blk_alloc ?_ _)); exact BK199.out))⟩; have n7_ : Aside0 (Below w.heap.size w w76) := ⟨(by rw [hw]; exact (by repeat (first | (with_reducible first | exact HB.out | apply below_alloc | apply pw_below_drewN | apply below_drew1 | refine below_set ?_ GE199.out) | exact HB.out)))⟩; clear hw; clear HO_8; clear HO_9; clear HO_10; clear HO_11; clear HO_12; clear HO_200000; clear BK199; clear HB; have HO_8 := n0_; have HO_9 := n1_; have HO_10 := n2_; have HO_11 := n3_; have HO_12 := n4_; have HO_200000 := n5_; have BK199 := n6_; have HB := n7_; clear n0_ n1_ n2_ n3_ n4_ n5_ n6_ n7_; have hcz77_0 : w76.cell? ⟨gb199, 0, none⟩ = some (.slice (some ad205) x200000_2.length co66) := (blk_cell BK199.out 0).trans rfl; have hcz77_1 : w76.cell? ⟨gb199, 1, none⟩ = some (.int .u8 (rd l1 (rd x200000_2 0))) := (blk_cell BK199.out 1).trans rfl; have hcz77_2 : w76.cell? ⟨gb199, 2, none⟩ = some (.int .u8 t209) := (blk_cell BK199.out 2).trans rfl; have hcz77_3 : w76.cell? ⟨gb199, 3, none⟩ = some (.int .u8 t220) := (blk_cell BK199.out 3).trans rfl; have hfz77_0 := blk_frozen BK199.out 0; have hfz77_1 := blk_frozen BK199.out 1; have hfz77_2 := blk_frozen BK199.out 2; have hfz77_3 := blk_frozen BK199.out 3) | ((with_reducible refine gate_builtin (b := .append) (xs := #[.tmp 119, .tmp 121]) rfl ?_); at_builtin; refine Kd.S_append k56 (w0 := w) w.heap.size rfl (.tmp 119) (.tmp 121) 25 56 (.agg #[(.slice none 0 0), (.int .u8 0), (.int .u8 0), (.int .u8 0)]) 32 rfl Try.underlying25 info56 rfl (by decide) (by omega) u12 x12_1 (⟨x200000_2, rd l1 (rd x200000_2 0), t209, t220⟩ : S56) [.slice (some ad205) x200000_2.length co66, .int .u8 (rd l1 (rd x200000_2 0)), .int .u8 t209, .int .u8 t220] (fun k_ => some k_ ≠ (.slice (some ad213) t189.length co74 : Value).ownBlock ∧ k_ ≠ gb199) (fun k_ => some k_ = (.slice (some ad205) x200000_2.length co66 : Value).ownBlock) rfl rfl ?aP (fun k_ hk_ => ((Kd.R_mono (ok' := fun k_ => ((fun k_ => some k_ ≠ (.slice (some ad213) t189.length co74 : Value).ownBlock ∧ k_ ≠ gb199)) k_ ∧ some k_ ≠ (u12 : Value).ownBlock) (Kd.R_types (Kd.R_apart' (HO_200000.out) (Kd.S_typed HO_12.out) (by decide)) BK199.out (by decide)) (fun k_ hk => ⟨⟨hk.1.1, hk.2⟩, hk.1.2⟩))).1 k_ hk_.symm) ?aF ?aO ?aB ?aS ?aL ?_; (case aP => exact k56_mkM _ _ _ (⟨x200000_2, rd l1 (rd x200000_2 0), t209, t220⟩ : S56) (Kd.R_mono (Kd.R_tight rfl (Kd.R_mono (ok' := fun k_ => ((fun k_ => some k_ ≠ (.slice (some ad213) t189.length co74 : Value).ownBlock ∧ k_ ≠ gb199)) k_ ∧ some k_ ≠ (u12 : Value).ownBlock) (Kd.R_types (Kd.R_apart' (HO_200000.out) (Kd.S_typed HO_12.out) (by decide)) BK199.out (by decide)) (fun k_ hk => ⟨⟨hk.1.1, hk.2⟩, hk.1.2⟩))) (fun _ h_ => h_))); (case aB => exact (by repeat (first | (with_reducible first | exact HB.out | apply below_alloc | apply pw_below_drewN | apply below_drew1 | refine below_set ?_ GE199.out) | exact HB.out))); (case aF => exact (fun k_ hk => ⟨Kd.fresh' (Kd.R_lt (mvR HO_9)) k_ hk, Kd.freshB (g := gb199) (o := .cells #[.slice (some ad205) x200000_2.length co66, .int .u8 (rd l1 (rd x200000_2 0)), .int .u8 t209, .int .u8 t220] 56 (0, 0)) (by (with_reducible repeat (first | refine blk_drewN ?_ _ | refine blk_drew ?_ | refine blk_alloc ?_ _)); exact BK199.out) k_ hk⟩)); (case aO => exact (by (with_reducible repeat (first | apply Kd.S_alloc | apply Kd.S_drewN | apply Kd.S_drew)); exact Kd.S_mono HO_12.out (fun k_ hk => ⟨⟨hk.1, hk.2.2⟩, fun e_ => hk.2.1 e_⟩))); (case aS => exact (below_size (by repeat (first | (with_reducible first | exact HB.out | apply below_alloc | apply pw_below_drewN | apply below_drew1 | refine below_set ?_ GE199.out) | exact HB.out)))); (case aL => have := LMc64.out; omega); intro v222 w78 ho hb hg hat; rw [← Ny221.out] at ho; have n0_ := Aside0.mk (Kd.S_over' (by (with_reducible repeat (first | apply Kd.S_alloc | apply Kd.S_drewN | apply Kd.S_drew)); exact HO_8.out) (Kd.S_typed (by (with_reducible repeat (first | apply Kd.S_alloc | apply Kd.S_drewN | apply Kd.S_drew)); exact HO_12.out)) (by decide) hg); have n1_ := Aside0.mk (Kd.R_over' (mvR HO_9) (Kd.S_typed (by (with_reducible repeat (first | apply Kd.S_alloc | apply Kd.S_drewN | apply Kd.S_drew)); exact HO_12.out)) (by decide) hg); have n2_ := Aside0.mk (Kd.R_over' (mvR HO_10) (Kd.S_typed (by (with_reducible repeat (first | apply Kd.S_alloc | apply Kd.S_drewN | apply Kd.S_drew)); exact HO_12.out)) (by decide) hg); have n3_ := Aside0.mk (Kd.R_over' (mvR HO_11) (Kd.S_typed (by (with_reducible repeat (first | apply Kd.S_alloc | apply Kd.S_drewN | apply Kd.S_drew)); exact HO_12.out)) (by decide) hg); have n4_ := Aside0.mk (blk_grown (g := gb199) (o := .cells #[.slice (some ad205) x200000_2.length co66, .int .u8 (rd l1 (rd x200000_2 0)), .int .u8 t209, .int .u8 t220] 56 (0, 0)) (by (with_reducible repeat (first | refine blk_drewN ?_ _ | refine blk_drew ?_ | refine blk_alloc ?_ _)); exact BK199.out) hg (Kd.S_away HO_12.out (fun _ hk => hk.2.2))); have n5_ := Aside0.mk (hb); have n6_ := Aside0.mk (ho); clear HO_8; clear HO_9; clear HO_10; clear HO_11; clear BK199; clear HB; clear HO_12; clear HO_200000; have HO_8 := n0_; have HO_9 := n1_; have HO_10 := n2_; have HO_11 := n3_; have BK199 := n4_; have HB := n5_; have HO223 := n6_; clear n0_ n1_ n2_ n3_ n4_ n5_ n6_; clear ho hb hg hat))
                         go_roundg k2
                         case measure => have := HK1.out; have := HK2.out; omega
                         case rel => exact ⟨(y221), (wrap64 (x13_1 + 1)), (by first | rfl | (simp; done) | (simp [*]; done)), H', ⟨by have := HK1.out; have := HK2.out; omega⟩, ⟨by (with_reducible repeat (first | apply Kd.S_alloc | apply Kd.S_drewN | apply Kd.S_drew)); exact Kd.S_mono HO_8.out (fun _ hk => hk.1)⟩, ⟨by (with_reducible repeat (first | apply Kd.R_alloc | apply Kd.R_drewN | apply Kd.R_drew)); exact Kd.R_mono HO_9.out (fun _ hk => trivial)⟩, ⟨mvR HO_10⟩, ⟨mvR HO_11⟩, ⟨by (with_reducible repeat (first | apply Kd.S_alloc | apply Kd.S_drewN | apply Kd.S_drew)); exact Kd.S_mono HO223.out (fun _ hk => hk.1)⟩, ⟨by repeat (first | (with_reducible first | exact HB.out | apply below_alloc | apply pw_below_drewN | apply below_drew1 | refine below_set ?_ GE199.out) | exact HB.out)⟩⟩
                        ·rw [if_neg c64] at H
                         exact absurd H (by simp)
                       ·rw [if_neg c61] at H
                        exact absurd H (by simp)
                     ·rw [if_neg c41] at H
                      exact absurd H (by simp)
                    ·replace c40 := Bool.eq_false_iff.mpr c40
                     subst c40
                     have H1 : (if (rd x200000_2 (ji28)) < (l1.length : Int) then ((selvedgeref15_side.f (mx (rd l1 (rd x200000_2 (ji28))) (rd t193 (rd x200000_2 (ji28))))).bind fun t225 => (if x12_1.length < 4398046511104 then (selvedgeref15_Sequences.l0 k2 l0 l1 a2 t186 t189 t192 t193 (x12_1 ++ [(⟨x200000_2, rd l1 (rd x200000_2 0), t209, t225⟩ : S56)]) (wrap64 (x13_1 + 1))) else (none))) else (none)) = some (r1, r2) := by rw [if_neg (show ¬ (false = true) by decide)] at H; exact H
                     clear H
                     have H := H1
                     clear H1
                     by_cases c79 : (rd x200000_2 (ji28)) < (l1.length : Int)
                     ·rw [if_pos c79] at H
                      have c79b0 : decide ((rd x200000_2 (ji28)) < (l1.length : Int)) = true := decide_eq_true c79
                      clear c79
                      obtain ⟨ji80, hji80⟩ : ∃ j_ : Int, (mx (rd l1 (rd x200000_2 (ji28))) (rd t193 (rd x200000_2 (ji28)))) = j_ := ⟨_, rfl⟩
                      replace H : ((selvedgeref15_side.f (ji80)).bind fun t225 => (if x12_1.length < 4398046511104 then (selvedgeref15_Sequences.l0 k2 l0 l1 a2 t186 t189 t192 t193 (x12_1 ++ [(⟨x200000_2, rd l1 (rd x200000_2 0), t209, t225⟩ : S56)]) (wrap64 (x13_1 + 1))) else (none))) = some (r1, r2) := by first | (rw [hji80] at H; exact H) | (simp only [hji80] at H ⊢; exact H)
                      (try rw [hji80] at A35)
                      (try rw [hji80] at A39)
                      have hji80_ : (if (rd l1 (rd x200000_2 (ji28))) < (rd t193 (rd x200000_2 (ji28))) then (rd t193 (rd x200000_2 (ji28))) else (rd l1 (rd x200000_2 (ji28)))) = ji80 := hji80
                      replace H := Option.bind_eq_some_iff.mp H
                      obtain ⟨t225, A810, H⟩ := H
                      replace H : (if x12_1.length < 4398046511104 then (selvedgeref15_Sequences.l0 k2 l0 l1 a2 t186 t189 t192 t193 (x12_1 ++ [(⟨x200000_2, rd l1 (rd x200000_2 0), t209, t225⟩ : S56)]) (wrap64 (x13_1 + 1))) else (none)) = some (r1, r2) := H
                      have A81 := Aside0.mk A810
                      clear A810
                      by_cases c82 : x12_1.length < 4398046511104
                      ·rw [if_pos c82] at H
                       have LMc82 := Aside0.mk c82
                       clear c82
                       obtain ⟨y226, hy226⟩ : ∃ y_ : List (S56), y_ = (x12_1 ++ [(⟨x200000_2, rd l1 (rd x200000_2 0), t209, t225⟩ : S56)]) := ⟨_, rfl⟩
                       replace H : (selvedgeref15_Sequences.l0 k2 l0 l1 a2 t186 t189 t192 t193 y226 (wrap64 (x13_1 + 1))) = some (r1, r2) := by first | (rw [hy226]; with_reducible exact H) | (have H2_ := (Option.bind_some _ _).symm.trans H; rw [hy226]; with_reducible exact H2_) | (have H2_ := (Option.bind_some _ _).symm.trans H; with_reducible exact H2_) | with_reducible exact H | (rw [hy226]; exact H) | exact H
                       have Ny226 := Aside0.mk hy226
                       clear hy226
                       have H' := Aside0.mk H
                       clear H
                       try go_wp2
                       have n0_ := Aside0.mk (Kd.S_drew HO_8.out)
                       have n1_ := Aside0.mk (Kd.R_drew HO_9.out)
                       have n2_ := Aside0.mk (Kd.R_drew HO_10.out)
                       have n3_ := Aside0.mk (Kd.R_drew HO_11.out)
                       have n4_ := Aside0.mk (Kd.S_drew HO_12.out)
                       have n5_ := Aside0.mk (Kd.R_drew HO_200000.out)
                       have n6_ := Aside0.mk (blk_drew BK199.out)
                       have n7_ := Aside0.mk (below_drew1 HB.out)
                       clear HO_8
                       clear HO_9
                       clear HO_10
                       clear HO_11
                       clear HO_12
                       clear HO_200000
                       clear BK199
                       clear HB
                       have HO_8 := n0_
                       have HO_9 := n1_
                       have HO_10 := n2_
                       have HO_11 := n3_
                       have HO_12 := n4_
                       have HO_200000 := n5_
                       have BK199 := n6_
                       have HB := n7_
                       clear n0_ n1_ n2_ n3_ n4_ n5_ n6_ n7_
                       obtain ⟨Ao84, co84, eo84⟩ := Kd.R_slice HO_200000.out
                       (first | subst eo84 | (injection eo84 with f1_ f2_ f3_; have f4_ := f1_.symm; have f5_ := f3_.symm; clear f1_ f2_ f3_; subst f4_; subst f5_))
                       have p205 : 0 ≤ (0 : Int) := (by omega)
                       have q205 := dT (0 < (x200000_2.length : Int))
                       obtain ⟨ad205, e205, hx205_0⟩ := Kd.at_int (Kd.R_reads' HO_200000.out).2.2 0 p205 q205
                       cases e205
                       have qi205 : (0 < x200000_2.length) = True := eq_true (by omega)
                       (try rw [show ((0 : Int)).toNat = 0 from rfl] at hx205_0)
                       (try rw [Addr.add_zero'] at hx205_0)
                       replace p205 := eq_true p205
                       replace q205 := eq_true q205
                       obtain ⟨ad206, e206, hx206_0, p206, q206⟩ := atI (Kd.R_reads' HO_200000.out).2.2 (ji28)
                       obtain rfl : ad205 = ad206 := (by injection e206)
                       refine start_ (n := 14) (S := fun w' => w'.cell? ⟨gb199, 0, none⟩ = some (.slice (some ad205) x200000_2.length co84) ∧ w'.cell? ⟨gb199, 1, none⟩ = some (.int .u8 0) ∧ w'.cell? ⟨gb199, 2, none⟩ = some (.int .u8 0) ∧ w'.cell? ⟨gb199, 3, none⟩ = some (.int .u8 0) ∧ w'.cell? ad205 = some (.int .i64 (rd x200000_2 0)) ∧ w'.cell? (ad205.add ((ji28)).toNat) = some (.int .i64 (rd x200000_2 (ji28)))) (ds := []) #[false, false, false, false, false, false, false, false, false, false, false, false, false, false] (by kernel_rfl) rfl rfl ⟨(blk_cell BK199.out 0).trans rfl, (blk_cell BK199.out 1).trans rfl, (blk_cell BK199.out 2).trans rfl, (blk_cell BK199.out 3).trans rfl, hx205_0, hx206_0⟩ (fun hHeld => ?_); refine with_tabW selvedgeref15_Sequences.tab18 selvedgeref15_Sequences.bits18 (fun HT_ HW_ => ?_)
                       generalize wr.drew = w83 at HO_8 HO_9 HO_10 HO_11 HO_12 HO_200000 BK199 HB hx205_0 hx206_0 hHeld ⊢
                       refine pure_ (i := 0) (N := some 68) (v := ?_) (a' := ?_) #[true, false, false, false, false, false, false, false, false, false, false, false, false, false] rfl rfl (any_of HT_.out (by kernel_rfl)) (fun _ _ _ h => h) (Or.inl ⟨by rfl, ?_⟩) ?_ ?_
                       rotate_left
                       ·intro w'
                        go_simp
                        with_reducible rfl
                       rotate_left
                       ·simp only [Act.put, List.setIfInBounds_toArray, List.set_cons_zero, List.set_cons_succ, i64_w, i32_w]
                        rfl
                       refine pure_ (i := 4) (N := some 72) (v := ?_) (a' := ?_) #[true, false, false, false, true, false, false, false, false, false, false, false, false, false] rfl rfl (any_of HT_.out (by kernel_rfl)) (fun _ _ _ h => h) (Or.inl ⟨by rfl, ?_⟩) ?_ ?_
                       rotate_left
                       ·intro w'
                        go_simp
                        with_reducible rfl
                       rotate_left
                       ·simp only [Act.put, List.setIfInBounds_toArray, List.set_cons_zero, List.set_cons_succ, i64_w, i32_w]
                        rfl
                       refine pure_ (i := 6) (N := some 74) (v := ?_) (a' := ?_) #[true, false, false, false, true, false, true, false, false, false, false, false, false, false] rfl rfl (any_of HT_.out (by kernel_rfl)) (fun _ _ _ h => h) (Or.inl ⟨by rfl, ?_⟩) ?_ ?_
                       rotate_left
                       ·intro w'
                        go_simp
                        with_reducible rfl
                       rotate_left
                       ·simp only [Act.put, List.setIfInBounds_toArray, List.set_cons_zero, List.set_cons_succ, i64_w, i32_w]
                        rfl
                       refine take_ (i := 1) (N := some 69) (v := ?_) (a' := ?_) #[true, true, false, false, true, false, true, false, false, false, false, false, false, false] rfl rfl (take_ofW HT_.out HW_.out (by kernel_rfl)) (fun _ _ _ h => h) (Or.inl ⟨by rfl, ?_⟩) hHeld ?_ ?_
                       rotate_left
                       ·rintro w' ⟨s0, s1, s2, s3, s4, s5⟩
                        go_simp
                        with_reducible rfl
                       rotate_left
                       ·simp only [Act.put, List.setIfInBounds_toArray, List.set_cons_zero, List.set_cons_succ, i64_w, i32_w]
                        rfl
                       refine pure_ (i := 2) (N := some 70) (v := ?_) (a' := ?_) #[true, true, true, false, true, false, true, false, false, false, false, false, false, false] rfl rfl (any_of HT_.out (by kernel_rfl)) (fun _ _ _ h => h) (Or.inl ⟨by rfl, ?_⟩) ?_ ?_
                       rotate_left
                       ·intro w'
                        go_simp
                        with_reducible rfl
                       rotate_left
                       ·simp only [Act.put, List.setIfInBounds_toArray, List.set_cons_zero, List.set_cons_succ, i64_w, i32_w]
                        rfl
                       refine take_ (i := 3) (N := some 71) (v := ?_) (a' := ?_) #[true, true, true, true, true, false, true, false, false, false, false, false, false, false] rfl rfl (take_ofW HT_.out HW_.out (by kernel_rfl)) (fun _ _ _ h => h) (Or.inl ⟨by rfl, ?_⟩) hHeld ?_ ?_
                       rotate_left
                       ·rintro w' ⟨s0, s1, s2, s3, s4, s5⟩
                        go_simp
                        with_reducible rfl
                       rotate_left
                       ·simp only [Act.put, List.setIfInBounds_toArray, List.set_cons_zero, List.set_cons_succ, i64_w, i32_w]
                        rfl
                       refine pure_ (i := 12) (N := some 16) (v := ?_) (a' := ?_) #[true, true, true, true, true, false, true, false, false, false, false, false, true, false] rfl rfl (any_of HT_.out (by kernel_rfl)) (fun _ _ _ h => h) (Or.inl ⟨by rfl, ?_⟩) ?_ ?_
                       rotate_left
                       ·intro w'
                        go_simp
                        with_reducible rfl
                       rotate_left
                       ·simp only [Act.put, List.setIfInBounds_toArray, List.set_cons_zero, List.set_cons_succ, i64_w, i32_w]
                        rfl
                       refine take_ (i := 5) (N := some 73) (v := ?_) (a' := ?_) #[true, true, true, true, true, true, true, false, false, false, false, false, true, false] rfl rfl (take_ofW HT_.out HW_.out (by kernel_rfl)) (fun _ _ _ h => h) (Or.inl ⟨by rfl, ?_⟩) hHeld ?_ ?_
                       rotate_left
                       ·rintro w' ⟨s0, s1, s2, s3, s4, s5⟩
                        go_simp
                        with_reducible rfl
                       rotate_left
                       ·simp only [Act.put, List.setIfInBounds_toArray, List.set_cons_zero, List.set_cons_succ, i64_w, i32_w]
                        rfl
                       refine take_ (i := 7) (N := some 75) (v := ?_) (a' := ?_) #[true, true, true, true, true, true, true, true, false, false, false, false, true, false] rfl rfl (take_ofW HT_.out HW_.out (by kernel_rfl)) (fun _ _ _ h => h) (Or.inl ⟨by rfl, ?_⟩) hHeld ?_ ?_
                       rotate_left
                       ·rintro w' ⟨s0, s1, s2, s3, s4, s5⟩
                        go_simp
                        with_reducible rfl
                       rotate_left
                       ·simp only [Act.put, List.setIfInBounds_toArray, List.set_cons_zero, List.set_cons_succ, i64_w, i32_w]
                        rfl
                       refine pure_ (i := 8) (N := some 76) (v := ?_) (a' := ?_) #[true, true, true, true, true, true, true, true, true, false, false, false, true, false] rfl rfl (any_of HT_.out (by kernel_rfl)) (fun _ _ _ h => h) (Or.inl ⟨by rfl, ?_⟩) ?_ ?_
                       rotate_left
                       ·intro w'
                        go_simp
                        with_reducible rfl
                       rotate_left
                       ·simp only [Act.put, List.setIfInBounds_toArray, List.set_cons_zero, List.set_cons_succ, i64_w, i32_w]
                        rfl
                       refine pure_ (i := 9) (N := some 77) (v := ?_) (a' := ?_) #[true, true, true, true, true, true, true, true, true, true, false, false, true, false] rfl rfl (any_of HT_.out (by kernel_rfl)) (fun _ _ _ h => h) (Or.inl ⟨by rfl, ?_⟩) ?_ ?_
                       rotate_left
                       ·intro w'
                        go_simp
                        with_reducible rfl
                       rotate_left
                       ·simp only [Act.put, List.setIfInBounds_toArray, List.set_cons_zero, List.set_cons_succ, i64_w, i32_w]
                        rfl
                       refine pure_ (i := 10) (N := some 78) (v := ?_) (a' := ?_) #[true, true, true, true, true, true, true, true, true, true, true, false, true, false] rfl rfl (any_of HT_.out (by kernel_rfl)) (fun _ _ _ h => h) (Or.inl ⟨by rfl, ?_⟩) ?_ ?_
                       rotate_left
                       ·intro w'
                        go_simp
                        with_reducible rfl
                       rotate_left
                       ·simp only [Act.put, List.setIfInBounds_toArray, List.set_cons_zero, List.set_cons_succ, i64_w, i32_w]
                        rfl
                       refine take_ (i := 11) (N := some 79) (v := ?_) (a' := ?_) #[true, true, true, true, true, true, true, true, true, true, true, true, true, false] rfl rfl (take_ofW HT_.out HW_.out (by kernel_rfl)) (fun _ _ _ h => h) (Or.inl ⟨by rfl, ?_⟩) hHeld ?_ ?_
                       rotate_left
                       ·rintro w' ⟨s0, s1, s2, s3, s4, s5⟩
                        go_simp
                        with_reducible rfl
                       rotate_left
                       ·simp only [Act.put, List.setIfInBounds_toArray, List.set_cons_zero, List.set_cons_succ, i64_w, i32_w]
                        rfl
                       refine pure_ (i := 13) (N := some 17) (v := ?_) (a' := ?_) #[true, true, true, true, true, true, true, true, true, true, true, true, true, true] rfl rfl (any_of HT_.out (by kernel_rfl)) (fun _ _ _ h => h) (Or.inl ⟨by rfl, ?_⟩) ?_ ?_
                       rotate_left
                       ·intro w'
                        go_simp
                        with_reducible rfl
                       rotate_left
                       ·simp only [Act.put, List.setIfInBounds_toArray, List.set_cons_zero, List.set_cons_succ, i64_w, i32_w]
                        rfl
                       refine done_ (done_of HT_.out (by kernel_rfl)) ?_
                       obtain ⟨ad207, e207, hx207_0, p207, q207⟩ := atI HR1.out (rd x200000_2 0)
                       cases e207
                       replace hx207_0 := (HB.out.cell (World.block_lt_of_cell? w _ hx207_0)).trans hx207_0
                       have hcz85_0 : w83.cell? ⟨gb199, 0, none⟩ = some (.slice (some ad205) x200000_2.length co84) := (blk_cell BK199.out 0).trans rfl
                       have hcz85_1 : w83.cell? ⟨gb199, 1, none⟩ = some (.int .u8 0) := (blk_cell BK199.out 1).trans rfl
                       have hcz85_2 : w83.cell? ⟨gb199, 2, none⟩ = some (.int .u8 0) := (blk_cell BK199.out 2).trans rfl
                       have hcz85_3 : w83.cell? ⟨gb199, 3, none⟩ = some (.int .u8 0) := (blk_cell BK199.out 3).trans rfl
                       have hfz85_0 := blk_frozen BK199.out 0
                       have hfz85_1 := blk_frozen BK199.out 1
                       have hfz85_2 := blk_frozen BK199.out 2
                       have hfz85_3 := blk_frozen BK199.out 3
                       try go_wp2
                       have n0_ : Aside0 (Kd.S k55 55 (w83.setCell ⟨gb199, 1, none⟩ (.int .u8 (rd l1 (rd x200000_2 0)))) w.heap.size (fun k_ => some k_ ≠ (v190 : Value).ownBlock ∧ some k_ ≠ (.slice (some ad205) x200000_2.length co84 : Value).ownBlock) (.slice (some ad198) t186.length co16) t186) := ⟨by (with_reducible repeat (first | apply Kd.S_alloc | apply Kd.S_drewN | apply Kd.S_drew)); exact Kd.S_mono (Kd.S_far (p := ⟨gb199, 1, none⟩) (Kd.S_types HO_8.out BK199.out (by decide)) (fun _ hk => hk.2) (.int .u8 (rd l1 (rd x200000_2 0)))) (fun _ hk => by first | exact ⟨hk.1.1, hk.1.2⟩ | exact ⟨hk.1.2, hk.1.1⟩)⟩
                       have n1_ : Aside0 (Kd.R (Kd.int .i64) 3 (w83.setCell ⟨gb199, 1, none⟩ (.int .u8 (rd l1 (rd x200000_2 0)))) w.heap.size (fun k_ => some k_ ≠ (.slice (some ad205) x200000_2.length co84 : Value).ownBlock) v190 t189) := ⟨by (with_reducible repeat (first | apply Kd.R_alloc | apply Kd.R_drewN | apply Kd.R_drew)); exact Kd.R_mono (Kd.R_far (p := ⟨gb199, 1, none⟩) (Kd.R_types HO_9.out BK199.out (by decide)) (fun _ hk => hk.2) (.int .u8 (rd l1 (rd x200000_2 0)))) (fun _ hk => hk.1)⟩
                       have n2_ : Aside0 (Kd.R (Kd.int .u8) 5 (w83.setCell ⟨gb199, 1, none⟩ (.int .u8 (rd l1 (rd x200000_2 0)))) w.heap.size (fun k_ => some k_ ≠ (v196 : Value).ownBlock) v194 t192) := ⟨by (with_reducible repeat (first | apply Kd.R_alloc | apply Kd.R_drewN | apply Kd.R_drew)); exact Kd.R_mono (Kd.R_far (p := ⟨gb199, 1, none⟩) (Kd.R_types HO_10.out BK199.out (by decide)) (fun _ hk => hk.2) (.int .u8 (rd l1 (rd x200000_2 0)))) (fun _ hk => hk.1)⟩
                       have n3_ : Aside0 (Kd.R (Kd.int .u8) 5 (w83.setCell ⟨gb199, 1, none⟩ (.int .u8 (rd l1 (rd x200000_2 0)))) w.heap.size (fun k_ => some k_ ≠ (v194 : Value).ownBlock) v196 t193) := ⟨by (with_reducible repeat (first | apply Kd.R_alloc | apply Kd.R_drewN | apply Kd.R_drew)); exact Kd.R_mono (Kd.R_far (p := ⟨gb199, 1, none⟩) (Kd.R_types HO_11.out BK199.out (by decide)) (fun _ hk => hk.2) (.int .u8 (rd l1 (rd x200000_2 0)))) (fun _ hk => hk.1)⟩
                       have n4_ : Aside0 (Kd.S k56 56 (w83.setCell ⟨gb199, 1, none⟩ (.int .u8 (rd l1 (rd x200000_2 0)))) w.heap.size (fun k_ => some k_ ≠ (v190 : Value).ownBlock ∧ some k_ ≠ (.slice (some ad205) x200000_2.length co84 : Value).ownBlock ∧ k_ ≠ gb199) u12 x12_1) := ⟨by (with_reducible repeat (first | apply Kd.S_alloc | apply Kd.S_drewN | apply Kd.S_drew)); exact Kd.S_mono (Kd.S_far (p := ⟨gb199, 1, none⟩) (Kd.S_mono HO_12.out (fun k_ hk => (⟨hk, hk.2.2⟩ : _ ∧ k_ ≠ gb199))) (fun _ hk => hk.2) (.int .u8 (rd l1 (rd x200000_2 0)))) (fun _ hk => by first | exact ⟨hk.1.1, ⟨hk.1.2.1, hk.1.2.2⟩⟩ | exact ⟨hk.1.2.1, ⟨hk.1.1, hk.1.2.2⟩⟩)⟩
                       have n5_ : Aside0 (Kd.R (Kd.int .i64) 3 (w83.setCell ⟨gb199, 1, none⟩ (.int .u8 (rd l1 (rd x200000_2 0)))) w.heap.size (fun k_ => some k_ ≠ (v190 : Value).ownBlock) (.slice (some ad205) x200000_2.length co84) x200000_2) := ⟨by (with_reducible repeat (first | apply Kd.R_alloc | apply Kd.R_drewN | apply Kd.R_drew)); exact Kd.R_mono (Kd.R_far (p := ⟨gb199, 1, none⟩) (Kd.R_types HO_200000.out BK199.out (by decide)) (fun _ hk => hk.2) (.int .u8 (rd l1 (rd x200000_2 0)))) (fun _ hk => hk.1)⟩
                       have n6_ : Aside0 ((w83.setCell ⟨gb199, 1, none⟩ (.int .u8 (rd l1 (rd x200000_2 0)))).heap[gb199]? = some (.cells #[.slice (some ad205) x200000_2.length co84, .int .u8 (rd l1 (rd x200000_2 0)), .int .u8 0, .int .u8 0] 56 (0, 0))) := ⟨by (with_reducible repeat (first | refine blk_drewN ?_ _ | refine blk_drew ?_ | refine blk_alloc ?_ _)); refine blk_put (cs := #[.slice (some ad205) x200000_2.length co84, .int .u8 0, .int .u8 0, .int .u8 0]) ?_ 1 _ rfl; (with_reducible repeat (first | refine blk_drewN ?_ _ | refine blk_drew ?_ | refine blk_alloc ?_ _)); exact BK199.out⟩
                       have n7_ : Aside0 (Below w.heap.size w (w83.setCell ⟨gb199, 1, none⟩ (.int .u8 (rd l1 (rd x200000_2 0))))) := ⟨by repeat (first | (with_reducible first | exact HB.out | apply below_alloc | apply pw_below_drewN | apply below_drew1 | refine below_set ?_ GE199.out) | exact HB.out)⟩
                       (try clear HO_8)
                       (try clear HO_9)
                       (try clear HO_10)
                       (try clear HO_11)
                       (try clear HO_12)
                       (try clear HO_200000)
                       (try clear BK199)
                       (try clear HB)
                       generalize (w83.setCell ⟨gb199, 1, none⟩ (.int .u8 (rd l1 (rd x200000_2 0)))) = w86 at n0_ n1_ n2_ n3_ n4_ n5_ n6_ n7_ ⊢
                       have HO_8 := n0_
                       have HO_9 := n1_
                       have HO_10 := n2_
                       have HO_11 := n3_
                       have HO_12 := n4_
                       have HO_200000 := n5_
                       have BK199 := n6_
                       have HB := n7_
                       clear n0_ n1_ n2_ n3_ n4_ n5_ n6_ n7_
                       have n0_ := Aside0.mk (Kd.S_drew HO_8.out)
                       have n1_ := Aside0.mk (Kd.R_drew HO_9.out)
                       have n2_ := Aside0.mk (Kd.R_drew HO_10.out)
                       have n3_ := Aside0.mk (Kd.R_drew HO_11.out)
                       have n4_ := Aside0.mk (Kd.S_drew HO_12.out)
                       have n5_ := Aside0.mk (Kd.R_drew HO_200000.out)
                       have n6_ := Aside0.mk (blk_drew BK199.out)
                       have n7_ := Aside0.mk (below_drew1 HB.out)
                       clear HO_8
                       clear HO_9
                       clear HO_10
                       clear HO_11
                       clear HO_12
                       clear HO_200000
                       clear BK199
                       clear HB
                       have HO_8 := n0_
                       have HO_9 := n1_
                       have HO_10 := n2_
                       have HO_11 := n3_
                       have HO_12 := n4_
                       have HO_200000 := n5_
                       have BK199 := n6_
                       have HB := n7_
                       clear n0_ n1_ n2_ n3_ n4_ n5_ n6_ n7_
                       obtain ⟨Ao88, co88, eo88⟩ := Kd.R_slice HO_10.out
                       (first | subst eo88 | (injection eo88 with f1_ f2_ f3_; have f4_ := f1_.symm; have f5_ := f3_.symm; clear f1_ f2_ f3_; subst f4_; subst f5_))
                       obtain ⟨ad208, e208, hx208_0, p208, q208⟩ := atI (Kd.R_reads' HO_10.out).2.2 (rd x200000_2 0)
                       cases e208
                       refine start_ (n := 10) (S := fun w' => w'.cell? ⟨gb199, 0, none⟩ = some (.slice (some ad205) x200000_2.length co84) ∧ w'.cell? ⟨gb199, 1, none⟩ = some (.int .u8 (rd l1 (rd x200000_2 0))) ∧ w'.cell? ⟨gb199, 2, none⟩ = some (.int .u8 0) ∧ w'.cell? ⟨gb199, 3, none⟩ = some (.int .u8 0) ∧ w'.cell? (ad208.add ((rd x200000_2 0)).toNat) = some (.int .u8 (rd t192 (rd x200000_2 0)))) (ds := [9]) #[false, false, false, false, false, false, false, false, false, false] (by kernel_rfl) rfl rfl ⟨(blk_cell BK199.out 0).trans rfl, (blk_cell BK199.out 1).trans rfl, (blk_cell BK199.out 2).trans rfl, (blk_cell BK199.out 3).trans rfl, hx208_0⟩ (fun hHeld => ?_); refine with_tabW selvedgeref15_Sequences.tab20 selvedgeref15_Sequences.bits20 (fun HT_ HW_ => ?_)
                       generalize w86.drew = w87 at HO_8 HO_9 HO_10 HO_11 HO_12 HO_200000 BK199 HB hx208_0 hHeld ⊢
                       refine pure_ (i := 0) (N := some 85) (v := ?_) (a' := ?_) #[true, false, false, false, false, false, false, false, false, false] rfl rfl (any_of HT_.out (by kernel_rfl)) (fun _ _ _ h => h) (Or.inl ⟨by rfl, ?_⟩) ?_ ?_
                       rotate_left
                       ·intro w'
                        go_simp
                        with_reducible rfl
                       rotate_left
                       ·simp only [Act.put, List.setIfInBounds_toArray, List.set_cons_zero, List.set_cons_succ, i64_w, i32_w]
                        rfl
                       refine pure_ (i := 2) (N := some 87) (v := ?_) (a' := ?_) #[true, false, true, false, false, false, false, false, false, false] rfl rfl (any_of HT_.out (by kernel_rfl)) (fun _ _ _ h => h) (Or.inl ⟨by rfl, ?_⟩) ?_ ?_
                       rotate_left
                       ·intro w'
                        go_simp
                        with_reducible rfl
                       rotate_left
                       ·simp only [Act.put, List.setIfInBounds_toArray, List.set_cons_zero, List.set_cons_succ, i64_w, i32_w]
                        rfl
                       refine pure_ (i := 3) (N := some 88) (v := ?_) (a' := ?_) #[true, false, true, true, false, false, false, false, false, false] rfl rfl (any_of HT_.out (by kernel_rfl)) (fun _ _ _ h => h) (Or.inl ⟨by rfl, ?_⟩) ?_ ?_
                       rotate_left
                       ·intro w'
                        go_simp
                        with_reducible rfl
                       rotate_left
                       ·simp only [Act.put, List.setIfInBounds_toArray, List.set_cons_zero, List.set_cons_succ, i64_w, i32_w]
                        rfl
                       refine pure_ (i := 4) (N := some 89) (v := ?_) (a' := ?_) #[true, false, true, true, true, false, false, false, false, false] rfl rfl (any_of HT_.out (by kernel_rfl)) (fun _ _ _ h => h) (Or.inl ⟨by rfl, ?_⟩) ?_ ?_
                       rotate_left
                       ·intro w'
                        go_simp
                        with_reducible rfl
                       rotate_left
                       ·simp only [Act.put, List.setIfInBounds_toArray, List.set_cons_zero, List.set_cons_succ, i64_w, i32_w]
                        rfl
                       refine take_ (i := 1) (N := some 86) (v := ?_) (a' := ?_) #[true, true, true, true, true, false, false, false, false, false] rfl rfl (take_ofW HT_.out HW_.out (by kernel_rfl)) (fun _ _ _ h => h) (Or.inl ⟨by rfl, ?_⟩) hHeld ?_ ?_
                       rotate_left
                       ·rintro w' ⟨s0, s1, s2, s3, s4⟩
                        go_simp
                        with_reducible rfl
                       rotate_left
                       ·simp only [Act.put, List.setIfInBounds_toArray, List.set_cons_zero, List.set_cons_succ, i64_w, i32_w]
                        rfl
                       refine take_ (i := 5) (N := some 90) (v := ?_) (a' := ?_) #[true, true, true, true, true, true, false, false, false, false] rfl rfl (take_ofW HT_.out HW_.out (by kernel_rfl)) (fun _ _ _ h => h) (Or.inl ⟨by rfl, ?_⟩) hHeld ?_ ?_
                       rotate_left
                       ·rintro w' ⟨s0, s1, s2, s3, s4⟩
                        go_simp
                        with_reducible rfl
                       rotate_left
                       ·simp only [Act.put, List.setIfInBounds_toArray, List.set_cons_zero, List.set_cons_succ, i64_w, i32_w]
                        rfl
                       refine pure_ (i := 6) (N := some 91) (v := ?_) (a' := ?_) #[true, true, true, true, true, true, true, false, false, false] rfl rfl (any_of HT_.out (by kernel_rfl)) (fun _ _ _ h => h) (Or.inl ⟨by rfl, ?_⟩) ?_ ?_
                       rotate_left
                       ·intro w'
                        go_simp
                        with_reducible rfl
                       rotate_left
                       ·simp only [Act.put, List.setIfInBounds_toArray, List.set_cons_zero, List.set_cons_succ, i64_w, i32_w]
                        rfl
                       refine one_ (i := 7) (N := some 92) #[true, true, true, true, true, true, true, true, false, false] rfl rfl (one_of HT_.out (by kernel_rfl)) (by decide) (fun K hK => ?_)
                       refine goes_ Try.func18 (by kernel_rfl) rfl #[.int .u8 ji34] (by rfl) rfl rfl (by (try simp only [List.map_toArray, List.map_cons, List.map_nil]); first | done | (simp only [hji34]; rfl) | rfl | (simp only [List.length_drop, List.length_take]; rfl)) ?_
                       with_reducible refine (selvedgeref15_side.same ji34 t209 _ A35.out).mono ?_
                       rintro e w' ⟨rfl, hw'⟩; obtain rfl := hw'.symm
                       refine ⟨_, rfl, ?_⟩
                       refine hK.out _ _ ⟨(blk_cell BK199.out 0).trans rfl, (blk_cell BK199.out 1).trans rfl, (blk_cell BK199.out 2).trans rfl, (blk_cell BK199.out 3).trans rfl, hHeld.2.2.2.2⟩ (fun hHeld => ?_)
                       clear hK K
                       refine norm_ (a' := ?_) ?_ ?_
                       rotate_left
                       ·show Act.put _ (some 92) _ = _
                        simp only [Act.put, List.setIfInBounds_toArray, List.set_cons_zero, List.set_cons_succ, i64_w, i32_w]
                        rfl
                       refine pure_ (i := 8) (N := some 93) (v := ?_) (a' := ?_) #[true, true, true, true, true, true, true, true, true, false] rfl rfl (any_of HT_.out (by kernel_rfl)) (fun _ _ _ h => h) (Or.inl ⟨by rfl, ?_⟩) ?_ ?_
                       rotate_left
                       ·intro w'
                        go_simp
                        with_reducible rfl
                       rotate_left
                       ·simp only [Act.put, List.setIfInBounds_toArray, List.set_cons_zero, List.set_cons_succ, i64_w, i32_w]
                        rfl
                       refine last_ (i := 9) (N := none) #[true, true, true, true, true, true, true, true, true, true] rfl rfl (one_of HT_.out (by kernel_rfl)) (by decide) (fun K hK => ?_)
                       have hs89 : w87.cell? ⟨gb199, 2, none⟩ = some (.int .u8 0) := (blk_cell BK199.out 2).trans rfl
                       have hfs89 := blk_frozen BK199.out 2
                       refine skip_ (w1 := ?_) (by rfl) rfl ?_ ?_
                       rotate_left
                       ·go_simp
                        rfl
                       refine hK.out _ _ ?_
                       clear hK K
                       refine done_ (done_of HT_.out (by kernel_rfl)) ?_
                       have n0_ : Aside0 (Kd.S k55 55 (w87.setCell ⟨gb199, 2, none⟩ (.int .u8 t209)) w.heap.size (fun k_ => some k_ ≠ (v190 : Value).ownBlock ∧ some k_ ≠ (.slice (some ad205) x200000_2.length co84 : Value).ownBlock) (.slice (some ad198) t186.length co16) t186) := ⟨by (with_reducible repeat (first | apply Kd.S_alloc | apply Kd.S_drewN | apply Kd.S_drew)); exact Kd.S_mono (Kd.S_far (p := ⟨gb199, 2, none⟩) (Kd.S_types HO_8.out BK199.out (by decide)) (fun _ hk => hk.2) (.int .u8 t209)) (fun _ hk => by first | exact ⟨hk.1.1, hk.1.2⟩ | exact ⟨hk.1.2, hk.1.1⟩)⟩
                       have n1_ : Aside0 (Kd.R (Kd.int .i64) 3 (w87.setCell ⟨gb199, 2, none⟩ (.int .u8 t209)) w.heap.size (fun k_ => some k_ ≠ (.slice (some ad205) x200000_2.length co84 : Value).ownBlock) v190 t189) := ⟨by (with_reducible repeat (first | apply Kd.R_alloc | apply Kd.R_drewN | apply Kd.R_drew)); exact Kd.R_mono (Kd.R_far (p := ⟨gb199, 2, none⟩) (Kd.R_types HO_9.out BK199.out (by decide)) (fun _ hk => hk.2) (.int .u8 t209)) (fun _ hk => hk.1)⟩
                       have n2_ : Aside0 (Kd.R (Kd.int .u8) 5 (w87.setCell ⟨gb199, 2, none⟩ (.int .u8 t209)) w.heap.size (fun k_ => some k_ ≠ (v196 : Value).ownBlock) (.slice (some ad208) t192.length co88) t192) := ⟨by (with_reducible repeat (first | apply Kd.R_alloc | apply Kd.R_drewN | apply Kd.R_drew)); exact Kd.R_mono (Kd.R_far (p := ⟨gb199, 2, none⟩) (Kd.R_types HO_10.out BK199.out (by decide)) (fun _ hk => hk.2) (.int .u8 t209)) (fun _ hk => hk.1)⟩
                       have n3_ : Aside0 (Kd.R (Kd.int .u8) 5 (w87.setCell ⟨gb199, 2, none⟩ (.int .u8 t209)) w.heap.size (fun k_ => some k_ ≠ (.slice (some ad208) t192.length co88 : Value).ownBlock) v196 t193) := ⟨by (with_reducible repeat (first | apply Kd.R_alloc | apply Kd.R_drewN | apply Kd.R_drew)); exact Kd.R_mono (Kd.R_far (p := ⟨gb199, 2, none⟩) (Kd.R_types HO_11.out BK199.out (by decide)) (fun _ hk => hk.2) (.int .u8 t209)) (fun _ hk => hk.1)⟩
                       have n4_ : Aside0 (Kd.S k56 56 (w87.setCell ⟨gb199, 2, none⟩ (.int .u8 t209)) w.heap.size (fun k_ => some k_ ≠ (v190 : Value).ownBlock ∧ some k_ ≠ (.slice (some ad205) x200000_2.length co84 : Value).ownBlock ∧ k_ ≠ gb199) u12 x12_1) := ⟨by (with_reducible repeat (first | apply Kd.S_alloc | apply Kd.S_drewN | apply Kd.S_drew)); exact Kd.S_mono (Kd.S_far (p := ⟨gb199, 2, none⟩) (Kd.S_mono HO_12.out (fun k_ hk => (⟨hk, hk.2.2⟩ : _ ∧ k_ ≠ gb199))) (fun _ hk => hk.2) (.int .u8 t209)) (fun _ hk => by first | exact ⟨hk.1.1, ⟨hk.1.2.1, hk.1.2.2⟩⟩ | exact ⟨hk.1.2.1, ⟨hk.1.1, hk.1.2.2⟩⟩)⟩
                       have n5_ : Aside0 (Kd.R (Kd.int .i64) 3 (w87.setCell ⟨gb199, 2, none⟩ (.int .u8 t209)) w.heap.size (fun k_ => some k_ ≠ (v190 : Value).ownBlock) (.slice (some ad205) x200000_2.length co84) x200000_2) := ⟨by (with_reducible repeat (first | apply Kd.R_alloc | apply Kd.R_drewN | apply Kd.R_drew)); exact Kd.R_mono (Kd.R_far (p := ⟨gb199, 2, none⟩) (Kd.R_types HO_200000.out BK199.out (by decide)) (fun _ hk => hk.2) (.int .u8 t209)) (fun _ hk => hk.1)⟩
                       have n6_ : Aside0 ((w87.setCell ⟨gb199, 2, none⟩ (.int .u8 t209)).heap[gb199]? = some (.cells #[.slice (some ad205) x200000_2.length co84, .int .u8 (rd l1 (rd x200000_2 0)), .int .u8 t209, .int .u8 0] 56 (0, 0))) := ⟨by (with_reducible repeat (first | refine blk_drewN ?_ _ | refine blk_drew ?_ | refine blk_alloc ?_ _)); refine blk_put (cs := #[.slice (some ad205) x200000_2.length co84, .int .u8 (rd l1 (rd x200000_2 0)), .int .u8 0, .int .u8 0]) ?_ 2 _ rfl; (with_reducible repeat (first | refine blk_drewN ?_ _ | refine blk_drew ?_ | refine blk_alloc ?_ _)); exact BK199.out⟩
                       have n7_ : Aside0 (Below w.heap.size w (w87.setCell ⟨gb199, 2, none⟩ (.int .u8 t209))) := ⟨by repeat (first | (with_reducible first | exact HB.out | apply below_alloc | apply pw_below_drewN | apply below_drew1 | refine below_set ?_ GE199.out) | exact HB.out)⟩
                       (try clear HO_8)
                       (try clear HO_9)
                       (try clear HO_10)
                       (try clear HO_11)
                       (try clear HO_12)
                       (try clear HO_200000)
                       (try clear BK199)
                       (try clear HB)
                       generalize (w87.setCell ⟨gb199, 2, none⟩ (.int .u8 t209)) = w90 at n0_ n1_ n2_ n3_ n4_ n5_ n6_ n7_ ⊢
                       have HO_8 := n0_
                       have HO_9 := n1_
                       have HO_10 := n2_
                       have HO_11 := n3_
                       have HO_12 := n4_
                       have HO_200000 := n5_
                       have BK199 := n6_
                       have HB := n7_
                       clear n0_ n1_ n2_ n3_ n4_ n5_ n6_ n7_
                       obtain ⟨Ao91, co91, eo91⟩ := Kd.R_slice HO_11.out
                       subst eo91
                       obtain ⟨ad210, e210, hx210_0, p210, q210⟩ := atI (Kd.R_reads' HO_11.out).2.2 (rd x200000_2 (ji28))
                       cases e210
                       obtain ⟨ad211, e211, hx211_0, p211, q211⟩ := atI HR0.out (rd x200000_2 (ji28))
                       cases e211
                       replace hx211_0 := (HB.out.cell (World.block_lt_of_cell? w _ hx211_0)).trans hx211_0
                       try go_wp2_with (first | ((with_reducible refine gate_callee (f := 19) rfl ?_); refine goesL_ (some 102) rfl rfl Try.func19 (by kernel_rfl) rfl #[.int .u8 (rd l0 (rd x200000_2 (ji28)))] rfl (by (try simp only [List.map_toArray, List.map_cons, List.map_nil]); first | done | (simp only [hji28]; rfl) | rfl | (simp only [List.length_drop, List.length_take]; rfl)) ?_; (with_reducible refine (selvedgeref14_Initiator.calls (rd l0 (rd x200000_2 (ji28))) false _ A39.out).mono ?_); rintro e w' ⟨rfl, ⟨nd, rfl⟩⟩; refine ⟨_, rfl, ?_⟩; (try (rw [drewN_self w90]; generalize hq_ : World.drewN w90 _ = w90; have n0_ : Aside0 (Kd.R (Kd.int .u8) 5 w90 w.heap.size (fun k_ => some k_ ≠ (.slice (some ad210) t193.length co91 : Value).ownBlock) (.slice (some ad208) t192.length co88) t192) := ⟨by rw [← hq_]; exact (mvR HO_10)⟩; have n1_ : Aside0 (Kd.R (Kd.int .u8) 5 w90 w.heap.size (fun k_ => some k_ ≠ (.slice (some ad208) t192.length co88 : Value).ownBlock) (.slice (some ad210) t193.length co91) t193) := ⟨by rw [← hq_]; exact (mvR HO_11)⟩; have n2_ : Aside0 (Kd.S k56 56 w90 w.heap.size (fun k_ => some k_ ≠ (.slice (some ad205) x200000_2.length co84 : Value).ownBlock ∧ some k_ ≠ (v190 : Value).ownBlock ∧ k_ ≠ gb199) u12 x12_1) := ⟨by rw [← hq_]; exact (by (with_reducible repeat (first | apply Kd.S_alloc | apply Kd.S_drewN | apply Kd.S_drew)); exact Kd.S_mono HO_12.out (fun _ hk => ⟨hk.2.1, ⟨hk.1, hk.2.2⟩⟩))⟩; have n3_ : Aside0 (Kd.R (Kd.int .i64) 3 w90 w.heap.size (fun k_ => some k_ ≠ (v190 : Value).ownBlock) (.slice (some ad205) x200000_2.length co84) x200000_2) := ⟨by rw [← hq_]; exact (mvR HO_200000)⟩; have n4_ : Aside0 (Kd.S k55 55 w90 w.heap.size (fun k_ => some k_ ≠ (.slice (some ad205) x200000_2.length co84 : Value).ownBlock ∧ some k_ ≠ (v190 : Value).ownBlock) (.slice (some ad198) t186.length co16) t186) := ⟨by rw [← hq_]; exact (by (with_reducible repeat (first | apply Kd.S_alloc | apply Kd.S_drewN | apply Kd.S_drew)); exact Kd.S_mono HO_8.out (fun _ hk => ⟨hk.2, hk.1⟩))⟩; have n5_ : Aside0 (Kd.R (Kd.int .i64) 3 w90 w.heap.size (fun k_ => some k_ ≠ (.slice (some ad205) x200000_2.length co84 : Value).ownBlock) v190 t189) := ⟨by rw [← hq_]; exact (mvR HO_9)⟩; have n6_ : Aside0 (w90.heap[gb199]? = some (.cells #[.slice (some ad205) x200000_2.length co84, .int .u8 (rd l1 (rd x200000_2 0)), .int .u8 t209, .int .u8 0] 56 (0, 0))) := ⟨by rw [← hq_]; exact (by (with_reducible repeat (first | refine blk_drewN ?_ _ | refine blk_drew ?_ | refine blk_alloc ?_ _)); exact BK199.out)⟩; have n7_ : Aside0 (Below w.heap.size w w90) := ⟨by rw [← hq_]; exact (by repeat (first | (with_reducible first | exact HB.out | apply below_alloc | apply pw_below_drewN | apply below_drew1 | refine below_set ?_ GE199.out) | exact HB.out))⟩; clear HO_10 HO_11 HO_12 HO_200000 HO_8 HO_9 BK199 HB hq_; have HO_10 := n0_; have HO_11 := n1_; have HO_12 := n2_; have HO_200000 := n3_; have HO_8 := n4_; have HO_9 := n5_; have BK199 := n6_; have HB := n7_; clear n0_ n1_ n2_ n3_ n4_ n5_ n6_ n7_)); obtain ⟨ad224, e224, hx224_0, p224, q224⟩ := atI HR1.out (rd x200000_2 (ji28)); obtain rfl : ad207 = ad224 := (by injection e224); replace hx224_0 := (HB.out.cell (World.block_lt_of_cell? w _ hx224_0)).trans hx224_0) | ((with_reducible refine gate_callee (f := 18) rfl ?_); refine goesL_ (some 117) rfl rfl Try.func18 (by kernel_rfl) rfl #[.int .u8 ji80] rfl (by (try simp only [List.map_toArray, List.map_cons, List.map_nil]); first | done | (simp only [hji80]; rfl) | rfl | (simp only [List.length_drop, List.length_take]; rfl)) ?_; (with_reducible refine (selvedgeref15_side.same ji80 t225 _ A81.out).mono ?_); rintro e w' ⟨rfl, hw'⟩; obtain rfl := hw'.symm; refine ⟨_, rfl, ?_⟩; (try (rw [drewN_self w90]; generalize hq_ : World.drewN w90 _ = w90; have n0_ : Aside0 (Kd.R (Kd.int .u8) 5 w90 w.heap.size (fun k_ => some k_ ≠ (.slice (some ad210) t193.length co91 : Value).ownBlock) (.slice (some ad208) t192.length co88) t192) := ⟨by rw [← hq_]; exact (mvR HO_10)⟩; have n1_ : Aside0 (Kd.R (Kd.int .u8) 5 w90 w.heap.size (fun k_ => some k_ ≠ (.slice (some ad208) t192.length co88 : Value).ownBlock) (.slice (some ad210) t193.length co91) t193) := ⟨by rw [← hq_]; exact (mvR HO_11)⟩; have n2_ : Aside0 (Kd.S k56 56 w90 w.heap.size (fun k_ => some k_ ≠ (.slice (some ad205) x200000_2.length co84 : Value).ownBlock ∧ some k_ ≠ (v190 : Value).ownBlock ∧ k_ ≠ gb199) u12 x12_1) := ⟨by rw [← hq_]; exact (by (with_reducible repeat (first | apply Kd.S_alloc | apply Kd.S_drewN | apply Kd.S_drew)); exact Kd.S_mono HO_12.out (fun _ hk => ⟨hk.2.1, ⟨hk.1, hk.2.2⟩⟩))⟩; have n3_ : Aside0 (Kd.R (Kd.int .i64) 3 w90 w.heap.size (fun k_ => some k_ ≠ (v190 : Value).ownBlock) (.slice (some ad205) x200000_2.length co84) x200000_2) := ⟨by rw [← hq_]; exact (mvR HO_200000)⟩; have n4_ : Aside0 (Kd.S k55 55 w90 w.heap.size (fun k_ => some k_ ≠ (.slice (some ad205) x200000_2.length co84 : Value).ownBlock ∧ some k_ ≠ (v190 : Value).ownBlock) (.slice (some ad198) t186.length co16) t186) := ⟨by rw [← hq_]; exact (by (with_reducible repeat (first | apply Kd.S_alloc | apply Kd.S_drewN | apply Kd.S_drew)); exact Kd.S_mono HO_8.out (fun _ hk => ⟨hk.2, hk.1⟩))⟩; have n5_ : Aside0 (Kd.R (Kd.int .i64) 3 w90 w.heap.size (fun k_ => some k_ ≠ (.slice (some ad205) x200000_2.length co84 : Value).ownBlock) v190 t189) := ⟨by rw [← hq_]; exact (mvR HO_9)⟩; have n6_ : Aside0 (w90.heap[gb199]? = some (.cells #[.slice (some ad205) x200000_2.length co84, .int .u8 (rd l1 (rd x200000_2 0)), .int .u8 t209, .int .u8 0] 56 (0, 0))) := ⟨by rw [← hq_]; exact (by (with_reducible repeat (first | refine blk_drewN ?_ _ | refine blk_drew ?_ | refine blk_alloc ?_ _)); exact BK199.out)⟩; have n7_ : Aside0 (Below w.heap.size w w90) := ⟨by rw [← hq_]; exact (by repeat (first | (with_reducible first | exact HB.out | apply below_alloc | apply pw_below_drewN | apply below_drew1 | refine below_set ?_ GE199.out) | exact HB.out))⟩; clear HO_10 HO_11 HO_12 HO_200000 HO_8 HO_9 BK199 HB hq_; have HO_10 := n0_; have HO_11 := n1_; have HO_12 := n2_; have HO_200000 := n3_; have HO_8 := n4_; have HO_9 := n5_; have BK199 := n6_; have HB := n7_; clear n0_ n1_ n2_ n3_ n4_ n5_ n6_ n7_)); have hcz92_0 : w90.cell? ⟨gb199, 0, none⟩ = some (.slice (some ad205) x200000_2.length co84) := (blk_cell BK199.out 0).trans rfl; have hcz92_1 : w90.cell? ⟨gb199, 1, none⟩ = some (.int .u8 (rd l1 (rd x200000_2 0))) := (blk_cell BK199.out 1).trans rfl; have hcz92_2 : w90.cell? ⟨gb199, 2, none⟩ = some (.int .u8 t209) := (blk_cell BK199.out 2).trans rfl; have hcz92_3 : w90.cell? ⟨gb199, 3, none⟩ = some (.int .u8 0) := (blk_cell BK199.out 3).trans rfl; have hfz92_0 := blk_frozen BK199.out 0; have hfz92_1 := blk_frozen BK199.out 1; have hfz92_2 := blk_frozen BK199.out 2; have hfz92_3 := blk_frozen BK199.out 3) | ((with_reducible refine gate_store (t := 34) (p := 118) rfl ?_); refine store_event (t := 34) (p := 118) (v := ?vo_w93) (w1 := (w90.setCell ⟨gb199, 3, none⟩ (.int .u8 t225))) ?hg ?ho ?hn ?hr ?_; (case ho => rfl); (case hg => rfl); (case hn => rfl); (case hr => first | (go_simp; done) | (go_simp; rfl)); intro w93 hw; have n0_ : Aside0 (Kd.S k55 55 w93 w.heap.size (fun k_ => some k_ ≠ (v190 : Value).ownBlock ∧ some k_ ≠ (.slice (some ad205) x200000_2.length co84 : Value).ownBlock) (.slice (some ad198) t186.length co16) t186) := ⟨(by rw [hw]; exact (by (with_reducible repeat (first | apply Kd.S_alloc | apply Kd.S_drewN | apply Kd.S_drew)); exact Kd.S_mono (Kd.S_far (p := ⟨gb199, 3, none⟩) (Kd.S_types HO_8.out BK199.out (by decide)) (fun _ hk => hk.2) (.int .u8 t225)) (fun _ hk => by first | exact ⟨hk.1.1, hk.1.2⟩ | exact ⟨hk.1.2, hk.1.1⟩)))⟩; have n1_ : Aside0 (Kd.R (Kd.int .i64) 3 w93 w.heap.size (fun k_ => some k_ ≠ (.slice (some ad205) x200000_2.length co84 : Value).ownBlock) v190 t189) := ⟨(by rw [hw]; exact (by (with_reducible repeat (first | apply Kd.R_alloc | apply Kd.R_drewN | apply Kd.R_drew)); exact Kd.R_mono (Kd.R_far (p := ⟨gb199, 3, none⟩) (Kd.R_types HO_9.out BK199.out (by decide)) (fun _ hk => hk.2) (.int .u8 t225)) (fun _ hk => hk.1)))⟩; have n2_ : Aside0 (Kd.R (Kd.int .u8) 5 w93 w.heap.size (fun k_ => some k_ ≠ (.slice (some ad210) t193.length co91 : Value).ownBlock) (.slice (some ad208) t192.length co88) t192) := ⟨(by rw [hw]; exact (by (with_reducible repeat (first | apply Kd.R_alloc | apply Kd.R_drewN | apply Kd.R_drew)); exact Kd.R_mono (Kd.R_far (p := ⟨gb199, 3, none⟩) (Kd.R_types HO_10.out BK199.out (by decide)) (fun _ hk => hk.2) (.int .u8 t225)) (fun _ hk => hk.1)))⟩; have n3_ : Aside0 (Kd.R (Kd.int .u8) 5 w93 w.heap.size (fun k_ => some k_ ≠ (.slice (some ad208) t192.length co88 : Value).ownBlock) (.slice (some ad210) t193.length co91) t193) := ⟨(by rw [hw]; exact (by (with_reducible repeat (first | apply Kd.R_alloc | apply Kd.R_drewN | apply Kd.R_drew)); exact Kd.R_mono (Kd.R_far (p := ⟨gb199, 3, none⟩) (Kd.R_types HO_11.out BK199.out (by decide)) (fun _ hk => hk.2) (.int .u8 t225)) (fun _ hk => hk.1)))⟩; have n4_ : Aside0 (Kd.S k56 56 w93 w.heap.size (fun k_ => some k_ ≠ (v190 : Value).ownBlock ∧ some k_ ≠ (.slice (some ad205) x200000_2.length co84 : Value).ownBlock ∧ k_ ≠ gb199) u12 x12_1) := ⟨(by rw [hw]; exact (by (with_reducible repeat (first | apply Kd.S_alloc | apply Kd.S_drewN | apply Kd.S_drew)); exact Kd.S_mono (Kd.S_far (p := ⟨gb199, 3, none⟩) (Kd.S_mono HO_12.out (fun k_ hk => (⟨hk, hk.2.2⟩ : _ ∧ k_ ≠ gb199))) (fun _ hk => hk.2) (.int .u8 t225)) (fun _ hk => by first | exact ⟨hk.1.1, ⟨hk.1.2.1, hk.1.2.2⟩⟩ | exact ⟨hk.1.2.1, ⟨hk.1.1, hk.1.2.2⟩⟩)))⟩; have n5_ : Aside0 (Kd.R (Kd.int .i64) 3 w93 w.heap.size (fun k_ => some k_ ≠ (v190 : Value).ownBlock) (.slice (some ad205) x200000_2.length co84) x200000_2) := ⟨(by rw [hw]; exact (by (with_reducible repeat (first | apply Kd.R_alloc | apply Kd.R_drewN | apply Kd.R_drew)); exact Kd.R_mono (Kd.R_far (p := ⟨gb199, 3, none⟩) (Kd.R_types HO_200000.out BK199.out (by decide)) (fun _ hk => hk.2) (.int .u8 t225)) (fun _ hk => hk.1)))⟩; have n6_ : Aside0 (w93.heap[gb199]? = some (.cells #[.slice (some ad205) x200000_2.length co84, .int .u8 (rd l1 (rd x200000_2 0)), .int .u8 t209, .int .u8 t225] 56 (0, 0))) := ⟨(by rw [hw]; exact (by (with_reducible repeat (first | refine blk_drewN ?_ _ | refine blk_drew ?_ | refine blk_alloc ?_ _)); refine blk_put (cs := #[.slice (some ad205) x200000_2.length co84, .int .u8 (rd l1 (rd x200000_2 0)), .int .u8 t209, .int .u8 0]) ?_ 3 _ rfl; (with_reducible repeat (first | refine blk_drewN ?_ _ | refine blk_drew ?_ | refine blk_alloc ?_ _)); exact BK199.out))⟩; have n7_ : Aside0 (Below w.heap.size w w93) := ⟨(by rw [hw]; exact (by repeat (first | (with_reducible first | exact HB.out | apply below_alloc | apply pw_below_drewN | apply below_drew1 | refine below_set ?_ GE199.out) | exact HB.out)))⟩; clear hw; clear HO_8; clear HO_9; clear HO_10; clear HO_11; clear HO_12; clear HO_200000; clear BK199; clear HB; have HO_8 := n0_; have HO_9 := n1_; have HO_10 := n2_; have HO_11 := n3_; have HO_12 := n4_; have HO_200000 := n5_; have BK199 := n6_; have HB := n7_; clear n0_ n1_ n2_ n3_ n4_ n5_ n6_ n7_; have hcz94_0 : w93.cell? ⟨gb199, 0, none⟩ = some (.slice (some ad205) x200000_2.length co84) := (blk_cell BK199.out 0).trans rfl; have hcz94_1 : w93.cell? ⟨gb199, 1, none⟩ = some (.int .u8 (rd l1 (rd x200000_2 0))) := (blk_cell BK199.out 1).trans rfl; have hcz94_2 : w93.cell? ⟨gb199, 2, none⟩ = some (.int .u8 t209) := (blk_cell BK199.out 2).trans rfl; have hcz94_3 : w93.cell? ⟨gb199, 3, none⟩ = some (.int .u8 t225) := (blk_cell BK199.out 3).trans rfl; have hfz94_0 := blk_frozen BK199.out 0; have hfz94_1 := blk_frozen BK199.out 1; have hfz94_2 := blk_frozen BK199.out 2; have hfz94_3 := blk_frozen BK199.out 3) | ((with_reducible refine gate_builtin (b := .append) (xs := #[.tmp 119, .tmp 121]) rfl ?_); at_builtin; refine Kd.S_append k56 (w0 := w) w.heap.size rfl (.tmp 119) (.tmp 121) 25 56 (.agg #[(.slice none 0 0), (.int .u8 0), (.int .u8 0), (.int .u8 0)]) 32 rfl Try.underlying25 info56 rfl (by decide) (by omega) u12 x12_1 (⟨x200000_2, rd l1 (rd x200000_2 0), t209, t225⟩ : S56) [.slice (some ad205) x200000_2.length co84, .int .u8 (rd l1 (rd x200000_2 0)), .int .u8 t209, .int .u8 t225] (fun k_ => some k_ ≠ (v190 : Value).ownBlock ∧ k_ ≠ gb199) (fun k_ => some k_ = (.slice (some ad205) x200000_2.length co84 : Value).ownBlock) rfl rfl ?aP (fun k_ hk_ => ((Kd.R_mono (ok' := fun k_ => ((fun k_ => some k_ ≠ (v190 : Value).ownBlock ∧ k_ ≠ gb199)) k_ ∧ some k_ ≠ (u12 : Value).ownBlock) (Kd.R_types (Kd.R_apart' (HO_200000.out) (Kd.S_typed HO_12.out) (by decide)) BK199.out (by decide)) (fun k_ hk => ⟨⟨hk.1.1, hk.2⟩, hk.1.2⟩))).1 k_ hk_.symm) ?aF ?aO ?aB ?aS ?aL ?_; (case aP => exact k56_mkM _ _ _ (⟨x200000_2, rd l1 (rd x200000_2 0), t209, t225⟩ : S56) (Kd.R_mono (Kd.R_tight rfl (Kd.R_mono (ok' := fun k_ => ((fun k_ => some k_ ≠ (v190 : Value).ownBlock ∧ k_ ≠ gb199)) k_ ∧ some k_ ≠ (u12 : Value).ownBlock) (Kd.R_types (Kd.R_apart' (HO_200000.out) (Kd.S_typed HO_12.out) (by decide)) BK199.out (by decide)) (fun k_ hk => ⟨⟨hk.1.1, hk.2⟩, hk.1.2⟩))) (fun _ h_ => h_))); (case aB => exact (by repeat (first | (with_reducible first | exact HB.out | apply below_alloc | apply pw_below_drewN | apply below_drew1 | refine below_set ?_ GE199.out) | exact HB.out))); (case aF => exact (fun k_ hk => ⟨Kd.fresh' (Kd.R_lt (mvR HO_9)) k_ hk, Kd.freshB (g := gb199) (o := .cells #[.slice (some ad205) x200000_2.length co84, .int .u8 (rd l1 (rd x200000_2 0)), .int .u8 t209, .int .u8 t225] 56 (0, 0)) (by (with_reducible repeat (first | refine blk_drewN ?_ _ | refine blk_drew ?_ | refine blk_alloc ?_ _)); exact BK199.out) k_ hk⟩)); (case aO => exact (by (with_reducible repeat (first | apply Kd.S_alloc | apply Kd.S_drewN | apply Kd.S_drew)); exact Kd.S_mono HO_12.out (fun k_ hk => ⟨⟨hk.1, hk.2.2⟩, fun e_ => hk.2.1 e_⟩))); (case aS => exact (below_size (by repeat (first | (with_reducible first | exact HB.out | apply below_alloc | apply pw_below_drewN | apply below_drew1 | refine below_set ?_ GE199.out) | exact HB.out)))); (case aL => have := LMc82.out; omega); intro v227 w95 ho hb hg hat; rw [← Ny226.out] at ho; have n0_ := Aside0.mk (Kd.S_over' (by (with_reducible repeat (first | apply Kd.S_alloc | apply Kd.S_drewN | apply Kd.S_drew)); exact HO_8.out) (Kd.S_typed (by (with_reducible repeat (first | apply Kd.S_alloc | apply Kd.S_drewN | apply Kd.S_drew)); exact HO_12.out)) (by decide) hg); have n1_ := Aside0.mk (Kd.R_over' (mvR HO_9) (Kd.S_typed (by (with_reducible repeat (first | apply Kd.S_alloc | apply Kd.S_drewN | apply Kd.S_drew)); exact HO_12.out)) (by decide) hg); have n2_ := Aside0.mk (Kd.R_over' (mvR HO_10) (Kd.S_typed (by (with_reducible repeat (first | apply Kd.S_alloc | apply Kd.S_drewN | apply Kd.S_drew)); exact HO_12.out)) (by decide) hg); have n3_ := Aside0.mk (Kd.R_over' (mvR HO_11) (Kd.S_typed (by (with_reducible repeat (first | apply Kd.S_alloc | apply Kd.S_drewN | apply Kd.S_drew)); exact HO_12.out)) (by decide) hg); have n4_ := Aside0.mk (blk_grown (g := gb199) (o := .cells #[.slice (some ad205) x200000_2.length co84, .int .u8 (rd l1 (rd x200000_2 0)), .int .u8 t209, .int .u8 t225] 56 (0, 0)) (by (with_reducible repeat (first | refine blk_drewN ?_ _ | refine blk_drew ?_ | refine blk_alloc ?_ _)); exact BK199.out) hg (Kd.S_away HO_12.out (fun _ hk => hk.2.2))); have n5_ := Aside0.mk (hb); have n6_ := Aside0.mk (ho); clear HO_8; clear HO_9; clear HO_10; clear HO_11; clear BK199; clear HB; clear HO_12; clear HO_200000; have HO_8 := n0_; have HO_9 := n1_; have HO_10 := n2_; have HO_11 := n3_; have BK199 := n4_; have HB := n5_; have HO228 := n6_; clear n0_ n1_ n2_ n3_ n4_ n5_ n6_; clear ho hb hg hat))
                       go_roundg k2
                       case measure => have := HK1.out; have := HK2.out; omega
                       case rel => exact ⟨(y226), (wrap64 (x13_1 + 1)), (by first | rfl | (simp; done) | (simp [*]; done)), H', ⟨by have := HK1.out; have := HK2.out; omega⟩, ⟨by (with_reducible repeat (first | apply Kd.S_alloc | apply Kd.S_drewN | apply Kd.S_drew)); exact Kd.S_mono HO_8.out (fun _ hk => hk.1)⟩, ⟨by (with_reducible repeat (first | apply Kd.R_alloc | apply Kd.R_drewN | apply Kd.R_drew)); exact Kd.R_mono HO_9.out (fun _ hk => trivial)⟩, ⟨mvR HO_10⟩, ⟨mvR HO_11⟩, ⟨by (with_reducible repeat (first | apply Kd.S_alloc | apply Kd.S_drewN | apply Kd.S_drew)); exact Kd.S_mono HO228.out (fun _ hk => hk.1)⟩, ⟨by repeat (first | (with_reducible first | exact HB.out | apply below_alloc | apply pw_below_drewN | apply below_drew1 | refine below_set ?_ GE199.out) | exact HB.out)⟩⟩
                      ·rw [if_neg c82] at H
                       exact absurd H (by simp)
                     ·rw [if_neg c79] at H
                      exact absurd H (by simp)
                   ·rw [if_neg c38] at H
                    exact absurd H (by simp)
                  ·rw [if_neg c37] at H
                   exact absurd H (by simp)
                 ·rw [if_neg c36] at H
                  exact absurd H (by simp)
                ·rw [if_neg c33] at H
                 exact absurd H (by simp)
               ·rw [if_neg c32] at H
                exact absurd H (by simp)
              ·rw [if_neg c31] at H
               exact absurd H (by simp)
             ·rw [if_neg c30] at H
              exact absurd H (by simp)
            ·rw [if_neg c29] at H
             exact absurd H (by simp)
           ·rw [if_neg c27] at H
            exact absurd H (by simp)
      ·rw [if_neg c13] at H
       exact absurd H (by simp)
     ·rw [if_neg c12] at H
      have c12b0 : decide (x13_1 < (t186.length : Int)) = false := decide_eq_false c12
      clear c12
      simp only [Option.some.injEq, Prod.mk.injEq] at H
      obtain ⟨rfl, rfl⟩ := H
      obtain ⟨Ao96, co96, eo96⟩ := Kd.S_slice HO_8.out
      subst eo96
      go_wp2
      go_ret2
      exact ⟨_, by first | rfl | (simp [errW_none, errW_some] <;> rfl) | (simp [*, errW_none, errW_some] <;> rfl), by (with_reducible repeat (first | apply Kd.S_alloc | apply Kd.S_drewN | apply Kd.S_drew)); exact Kd.S_mono HO_12.out (fun _ hk => trivial), mvB HB⟩
  ·rw [if_neg c5] at H
   have c5b0 : ((l0.length : Int) == (l1.length : Int)) = false := beq_eq_false_iff_ne.mpr c5
   have c5b1 : ((l0.length : Int) != (l1.length : Int)) = true := bne_iff_ne.mpr c5
   have c5b2 : (l0.length == l1.length) = false := by first | simpa using c5 | (simp at c5 ⊢; omega)
   simp only [Option.some.injEq, Prod.mk.injEq] at H
   obtain ⟨rfl, rfl⟩ := H
   go_enter Try.func9, Try.ntmps9
   go_wp2
   go_ret2
   exact ⟨_, by first | rfl | (simp [errW_none, errW_some] <;> rfl) | (simp [*, errW_none, errW_some] <;> rfl), by first | exact Kd.S_nil _ _ _ _ _ | exact Kd.N_nil _ _ _ _ _ | exact Kd.V_nil _ _ _ _ _ | exact Kd.Q_nil _ _ _ _ _ | exact Kd.R_nil _ _ _ _ _, mvB HB⟩

end Go.Proofs.Ytofiflhjlohakaa.X
