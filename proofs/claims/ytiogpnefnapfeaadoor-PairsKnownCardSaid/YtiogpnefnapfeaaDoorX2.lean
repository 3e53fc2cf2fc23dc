-- by xprint.py: the kit's printer over texts of this session
import Derived.Test.YtiogpnefnapfeaaDoorX0
import Derived.Test.YtiogpnefnapfeaaDoorX1
import Derived.Test.YtiogpnefnapfeaaDoorX1b
namespace Go.Proofs.YtiogpnefnapfeaaDoor.X
open Go.RowKit Go.Proofs.YtiogpnefnapfeaaDoorW.PrintWords Go.Proofs.YtiogpnefnapfeaaDoorW.PrintLast Go.Proofs.YtiogpnefnapfeaaDoorW.PrintMore
attribute [local go_sem] max2_int min2_int max_two min_two max_three min_three max_four min_four   -- for this text's walks alone
set_option linter.unusedVariables false
set_option linter.unusedSimpArgs false

/-! ### selvedgeref01_Bracket: function 14 -/
mutual
def selvedgeref01_Bracket.l0 : Nat → Int → List (S64) → Int → Option (Int × Bool × Bool)
 | 0, _, _, _ => none
 | k + 1, x0, x5, x6 => if x6 < (x5.length : Int) then (if 0 ≤ x6 then (if x0 = ((rd_T64 x5 x6).f0) then (selvedgeref01_Bracket.j1 k x0 x5 x6 false) else (selvedgeref01_Bracket.j1 k x0 x5 x6 (x0 != ((rd_T64 x5 x6).f1)))) else (none)) else (some (0, false, false))
def selvedgeref01_Bracket.j1 : Nat → Int → List (S64) → Int → Bool → Option (Int × Bool × Bool)
 | 0, _, _, _, _ => none
 | k + 1, x0, x5, x6, x29 => if x29 = true then (selvedgeref01_Bracket.l0 k x0 x5 (wrap64 (x6 + 1))) else (if 0 ≤ x6 then (if x6 < (x5.length : Int) then (if ((rd_T64 x5 x6).f1) = 9002 then (some (12297, (x0 == ((rd_T64 x5 x6).f0)), true)) else (some ((rd_T64 x5 x6).f1, (x0 == ((rd_T64 x5 x6).f0)), true))) else (none)) else (none))
end
def selvedgeref01_Bracket.f (k : Nat) (a0 : Int) : Option (Int × Bool × Bool) := (selvedgeref01_Brackets.f).bind fun t125 => (selvedgeref01_Bracket.l0 k a0 t125 0)
theorem selvedgeref01_Bracket.mono_l : ∀ k, (∀ y0 y1 y2, LeO (selvedgeref01_Bracket.l0 k y0 y1 y2) (selvedgeref01_Bracket.l0 (k + 1) y0 y1 y2)) ∧ (∀ y0 y1 y2 y3, LeO (selvedgeref01_Bracket.j1 k y0 y1 y2 y3) (selvedgeref01_Bracket.j1 (k + 1) y0 y1 y2 y3))
 | 0 => ⟨fun _ _ _ r h => by simp [selvedgeref01_Bracket.l0] at h, fun _ _ _ _ r h => by simp [selvedgeref01_Bracket.j1] at h⟩
 | k + 1 => by
  obtain ⟨ih0, ih1⟩ := selvedgeref01_Bracket.mono_l k
  refine ⟨?_, ?_⟩
  ·intro y0 y1 y2
   unfold selvedgeref01_Bracket.l0
   repeat' first
   | (with_reducible exact ih0 _ _ _)
   | (with_reducible exact ih1 _ _ _ _)
   | (with_reducible exact LeO.refl _)
   | (with_reducible exact LeO.none _)
   | (with_reducible refine LeO.ite ?_ ?_)
   | (with_reducible refine LeO.bind ?_ (fun _ => ?_))
   | exact ih0 _ _ _
   | exact ih1 _ _ _ _
   | exact LeO.none _
   | refine LeO.ite ?_ ?_
   | refine LeO.bind ?_ (fun _ => ?_)
  ·intro y0 y1 y2 y3
   unfold selvedgeref01_Bracket.j1
   repeat' first
   | (with_reducible exact ih0 _ _ _)
   | (with_reducible exact ih1 _ _ _ _)
   | (with_reducible exact LeO.refl _)
   | (with_reducible exact LeO.none _)
   | (with_reducible refine LeO.ite ?_ ?_)
   | (with_reducible refine LeO.bind ?_ (fun _ => ?_))
   | exact ih0 _ _ _
   | exact ih1 _ _ _ _
   | exact LeO.none _
   | refine LeO.ite ?_ ?_
   | refine LeO.bind ?_ (fun _ => ?_)
theorem selvedgeref01_Bracket.mono : ∀ a0 k, LeO (selvedgeref01_Bracket.f k a0) (selvedgeref01_Bracket.f (k + 1) a0) := by
 intro a0 k
 obtain ⟨ih0, ih1⟩ := selvedgeref01_Bracket.mono_l k
 unfold selvedgeref01_Bracket.f
 repeat' first
   | (with_reducible exact ih0 _ _ _)
   | (with_reducible exact ih1 _ _ _ _)
   | (with_reducible exact LeO.refl _)
   | (with_reducible exact LeO.none _)
   | (with_reducible refine LeO.ite ?_ ?_)
   | (with_reducible refine LeO.bind ?_ (fun _ => ?_))
   | exact ih0 _ _ _
   | exact ih1 _ _ _ _
   | exact LeO.none _
   | refine LeO.ite ?_ ?_
   | refine LeO.bind ?_ (fun _ => ?_)
set_option maxHeartbeats 8000000 in
set_option maxRecDepth 100000 in
theorem selvedgeref01_Bracket.calls (k : Nat) (a0 : Int) (r1 : Int) (r2 : Bool) (r3 : Bool) (w : World) (h : selvedgeref01_Bracket.f k a0 = some (r1, r2, r3)) :
  Calls Tryd.prog 14 #[.int .i32 a0] w fun e w' => e = .returned (.tuple #[.int .i32 r1, .bool r2, .bool r3]) ∧ Below w.heap.size w w' := by
 have HB := Aside0.mk (Below.refl w.heap.size w)
 have H : ((selvedgeref01_Brackets.f).bind fun t125 => (selvedgeref01_Bracket.l0 k a0 t125 0)) = some (r1, r2, r3) := h
 clear h
 replace H := Option.bind_eq_some_iff.mp H
 obtain ⟨t125, A20, H⟩ := H
 replace H : (selvedgeref01_Bracket.l0 k a0 t125 0) = some (r1, r2, r3) := H
 have A2 := Aside0.mk A20
 clear A20
 have H' := Aside0.mk H
 clear H
 go_enter Tryd.func14, Tryd.ntmps14
 go_wp2_with (first | (go_at_call 28; (with_reducible refine (selvedgeref01_Brackets.calls  t125 _ A2.out).mono ?_); rintro e w3 ⟨v126, rfl, ho0, hb⟩; have n0_ := Aside0.mk (Kd.R_lower ho0 (below_size (mvB HB))); have n1_ := Aside0.mk (below_step (mvB HB) hb); clear HB; have HO127 := n0_; have HB := n1_; clear n0_ n1_; (try clear hb); (try clear hb2); (try clear hk); (try clear hi); (try clear ho0)))
 repeat (go_quiet (first | (go_at_call 28; (with_reducible refine (selvedgeref01_Brackets.calls  t125 _ A2.out).mono ?_); rintro e w3 ⟨v126, rfl, ho0, hb⟩; have n0_ := Aside0.mk (Kd.R_lower ho0 (below_size (mvB HB))); have n1_ := Aside0.mk (below_step (mvB HB) hb); clear HB; have HO127 := n0_; have HB := n1_; clear n0_ n1_; (try clear hb); (try clear hb2); (try clear hk); (try clear hi); (try clear ho0))); try go_wp2_with (first | (go_at_call 28; (with_reducible refine (selvedgeref01_Brackets.calls  t125 _ A2.out).mono ?_); rintro e w3 ⟨v126, rfl, ho0, hb⟩; have n0_ := Aside0.mk (Kd.R_lower ho0 (below_size (mvB HB))); have n1_ := Aside0.mk (below_step (mvB HB) hb); clear HB; have HO127 := n0_; have HB := n1_; clear n0_ n1_; (try clear hb); (try clear hb2); (try clear hk); (try clear hi); (try clear ho0))))
 go_loopg [6] k (fun kq v6 w' => ∃ (x6_1 : Int), v6 = .int .i64 x6_1 ∧ Aside0 (selvedgeref01_Bracket.l0 kq a0 t125 x6_1 = some (r1, r2, r3)) ∧ Aside0 (kq ≤ k) ∧ Aside0 (Kd.R k64 64 w' w.heap.size (fun _ => True) v126 t125) ∧ Aside0 (Below w.heap.size w w'))
 case atStart => exact ⟨(0), (by first | rfl | (simp; done) | (simp [*]; done)), H', ⟨Nat.le_refl _⟩, ⟨mvR HO127⟩, ⟨mvB HB⟩⟩
 case round =>
  clear H'
  try clear c1
  try clear p2
  obtain ⟨x6_1, rfl, HA, HK1, HO_5, HB⟩ := hrel
  cases gk with
  | zero => exact absurd HA.out (by simp [selvedgeref01_Bracket.l0])
  | succ k1 =>
   have H := HA.out
   clear HA
   simp only [selvedgeref01_Bracket.l0] at H
   by_cases c4 : x6_1 < (t125.length : Int)
   ·rw [if_pos c4] at H
    have c4b0 : decide (x6_1 < (t125.length : Int)) = true := decide_eq_true c4
    clear c4
    have HC5 := Aside0.mk H
    clear H
    obtain ⟨Ao6, co6, eo6⟩ := Kd.R_slice HO_5.out
    subst eo6
    go_upto_region 5 with (fail)
    repeat (go_quiet (fail); go_upto_region 5 with (fail))
    go_cut [29] (fun v29 wc => ∃ (kq : Nat) (x29_4 : Bool), v29 = .bool x29_4 ∧ Aside0 (selvedgeref01_Bracket.j1 kq a0 t125 x6_1 x29_4 = some (r1, r2, r3)) ∧ Aside0 (kq ≤ k1) ∧ Aside0 (Kd.R k64 64 wc w.heap.size (fun _ => True) (.slice Ao6 t125.length co6) t125) ∧ Aside0 (Below w.heap.size w wc))
    case first =>
     have H := HC5.out
     clear HC5
     by_cases c7 : 0 ≤ x6_1
     ·rw [if_pos c7] at H
      have c7b0 : decide (0 ≤ x6_1) = true := decide_eq_true c7
      clear c7
      (first | rw [c7b0] | (simp only [i64_w, i32_w]; rw [c7b0]) | skip)
      by_cases c8 : a0 = ((rd_T64 t125 x6_1).f0)
      ·rw [if_pos c8] at H
       have c8b0 : (a0 == ((rd_T64 t125 x6_1).f0)) = true := beq_iff_eq.mpr c8
       have c8b1 : (a0 != ((rd_T64 t125 x6_1).f0)) = false := bne_eq_false_iff_eq.mpr c8
       clear c8
       have H' := Aside0.mk H
       clear H
       have p128 := dT (0 ≤ (x6_1 : Int))
       have q128 := dT (x6_1 < (t125.length : Int))
       obtain ⟨ad128, e128, hx128_0, hx128_1⟩ := at_T64 (Kd.R_reads' HO_5.out).2.2 x6_1 p128 q128
       cases e128
       replace p128 := eq_true p128
       replace q128 := eq_true q128
       go_wp2
       repeat (go_quiet (fail); try go_wp2)
       go_meet
       case rel => exact ⟨_, (false), (by first | rfl | (simp; done) | (simp [*]; done)), H', ⟨by have := HK1.out; first | omega | exact Nat.le_refl _⟩, ⟨mvR HO_5⟩, ⟨mvB HB⟩⟩
      ·rw [if_neg c8] at H
       have c8b0 : (a0 == ((rd_T64 t125 x6_1).f0)) = false := beq_eq_false_iff_ne.mpr c8
       have c8b1 : (a0 != ((rd_T64 t125 x6_1).f0)) = true := bne_iff_ne.mpr c8
       have H' := Aside0.mk H
       clear H
       have p128 := dT (0 ≤ (x6_1 : Int))
       have q128 := dT (x6_1 < (t125.length : Int))
       obtain ⟨ad128, e128, hx128_0, hx128_1⟩ := at_T64 (Kd.R_reads' HO_5.out).2.2 x6_1 p128 q128
       cases e128
       replace p128 := eq_true p128
       replace q128 := eq_true q128
       have p129 := dT (0 ≤ (x6_1 : Int))
       have q129 := dT (x6_1 < (t125.length : Int))
       obtain ⟨ad129, e129, hx129_0, hx129_1⟩ := at_T64 (Kd.R_reads' HO_5.out).2.2 x6_1 p129 q129
       obtain rfl : ad128 = ad129 := (by injection e129)
       replace p129 := eq_true p129
       replace q129 := eq_true q129
       go_wp2
       repeat (go_quiet (fail); try go_wp2)
       go_meet
       case rel => exact ⟨_, ((a0 != ((rd_T64 t125 x6_1).f1))), (by first | rfl | (simp; done) | (simp [*]; done)), H', ⟨by have := HK1.out; first | omega | exact Nat.le_refl _⟩, ⟨mvR HO_5⟩, ⟨mvB HB⟩⟩
     ·rw [if_neg c7] at H
      exact absurd H (by simp)
    case rest =>
     clear HC5
     try clear c1
     try clear p1
     try clear q1
     try clear hx1
     try clear p2
     try clear c4
     try clear c4b0
     try clear c7
     try clear c7b0
     try clear c8
     try clear c8b0
     try clear c8b1
     try clear hx128_0
     try clear hx128_1
     try clear hx129_0
     try clear hx129_1
     try clear p128
     try clear p129
     try clear p2
     try clear q128
     try clear q129
     obtain ⟨kq, x29_4, rfl, HA, HJ4, HO_5, HB⟩ := hcut
     cases kq with
     | zero => exact absurd HA.out (by simp [selvedgeref01_Bracket.j1])
     | succ kj4 =>
      have H := HA.out
      clear HA
      simp only [selvedgeref01_Bracket.j1] at H
      by_cases c9 : x29_4 = true
      ·subst c9
       have H1 : (selvedgeref01_Bracket.l0 kj4 a0 t125 (wrap64 (x6_1 + 1))) = some (r1, r2, r3) := by rw [if_pos rfl] at H; exact H
       clear H
       have H := H1
       clear H1
       have H' := Aside0.mk H
       clear H
       go_wp2
       repeat (go_quiet (fail); try go_wp2)
       go_roundg kj4
       case measure => have := HK1.out; have := HJ4.out; omega
       case rel => exact ⟨(wrap64 (x6_1 + 1)), (by first | rfl | (simp; done) | (simp [*]; done)), H', ⟨by have := HK1.out; have := HJ4.out; omega⟩, ⟨mvR HO_5⟩, ⟨mvB HB⟩⟩
      ·replace c9 := Bool.eq_false_iff.mpr c9
       subst c9
       have H1 : (if 0 ≤ x6_1 then (if x6_1 < (t125.length : Int) then (if ((rd_T64 t125 x6_1).f1) = 9002 then (some (12297, (a0 == ((rd_T64 t125 x6_1).f0)), true)) else (some ((rd_T64 t125 x6_1).f1, (a0 == ((rd_T64 t125 x6_1).f0)), true))) else (none)) else (none)) = some (r1, r2, r3) := by rw [if_neg (show ¬ (false = true) by decide)] at H; exact H
       clear H
       have H := H1
       clear H1
       by_cases c10 : 0 ≤ x6_1
       ·rw [if_pos c10] at H
        have c10b0 : decide (0 ≤ x6_1) = true := decide_eq_true c10
        clear c10
        by_cases c11 : x6_1 < (t125.length : Int)
        ·rw [if_pos c11] at H
         have c11b0 : decide (x6_1 < (t125.length : Int)) = true := decide_eq_true c11
         clear c11
         by_cases c12 : ((rd_T64 t125 x6_1).f1) = 9002
         ·rw [if_pos c12] at H
          have c12b0 : (((rd_T64 t125 x6_1).f1) == 9002) = true := beq_iff_eq.mpr c12
          have c12b1 : (((rd_T64 t125 x6_1).f1) != 9002) = false := bne_eq_false_iff_eq.mpr c12
          clear c12
          simp only [Option.some.injEq, Prod.mk.injEq] at H
          obtain ⟨rfl, rfl, rfl⟩ := H
          have p130 := dT (0 ≤ (x6_1 : Int))
          have q130 := dT (x6_1 < (t125.length : Int))
          obtain ⟨ad130, e130, hx130_0, hx130_1⟩ := at_T64 (Kd.R_reads' HO_5.out).2.2 x6_1 p130 q130
          cases e130
          replace p130 := eq_true p130
          replace q130 := eq_true q130
          have p131 := dT (0 ≤ (x6_1 : Int))
          have q131 := dT (x6_1 < (t125.length : Int))
          obtain ⟨ad131, e131, hx131_0, hx131_1⟩ := at_T64 (Kd.R_reads' HO_5.out).2.2 x6_1 p131 q131
          obtain rfl : ad130 = ad131 := (by injection e131)
          replace p131 := eq_true p131
          replace q131 := eq_true q131
          go_wp2
          repeat (go_quiet (fail); try go_wp2)
          go_ret3
          exact ⟨by first | rfl | (simp [errW_none, errW_some] <;> rfl) | (simp [*, errW_none, errW_some] <;> rfl), mvB HB⟩
         ·rw [if_neg c12] at H
          have c12b0 : (((rd_T64 t125 x6_1).f1) == 9002) = false := beq_eq_false_iff_ne.mpr c12
          have c12b1 : (((rd_T64 t125 x6_1).f1) != 9002) = true := bne_iff_ne.mpr c12
          simp only [Option.some.injEq, Prod.mk.injEq] at H
          obtain ⟨rfl, rfl, rfl⟩ := H
          have p130 := dT (0 ≤ (x6_1 : Int))
          have q130 := dT (x6_1 < (t125.length : Int))
          obtain ⟨ad130, e130, hx130_0, hx130_1⟩ := at_T64 (Kd.R_reads' HO_5.out).2.2 x6_1 p130 q130
          cases e130
          replace p130 := eq_true p130
          replace q130 := eq_true q130
          have p132 := dT (0 ≤ (x6_1 : Int))
          have q132 := dT (x6_1 < (t125.length : Int))
          obtain ⟨ad132, e132, hx132_0, hx132_1⟩ := at_T64 (Kd.R_reads' HO_5.out).2.2 x6_1 p132 q132
          obtain rfl : ad130 = ad132 := (by injection e132)
          replace p132 := eq_true p132
          replace q132 := eq_true q132
          have p133 := dT (0 ≤ (x6_1 : Int))
          have q133 := dT (x6_1 < (t125.length : Int))
          obtain ⟨ad133, e133, hx133_0, hx133_1⟩ := at_T64 (Kd.R_reads' HO_5.out).2.2 x6_1 p133 q133
          obtain rfl : ad130 = ad133 := (by injection e133)
          replace p133 := eq_true p133
          replace q133 := eq_true q133
          go_wp2
          repeat (go_quiet (fail); try go_wp2)
          go_ret3
          exact ⟨by first | rfl | (simp [errW_none, errW_some] <;> rfl) | (simp [*, errW_none, errW_some] <;> rfl), mvB HB⟩
        ·rw [if_neg c11] at H
         exact absurd H (by simp)
       ·rw [if_neg c10] at H
        exact absurd H (by simp)
   ·rw [if_neg c4] at H
    have c4b0 : decide (x6_1 < (t125.length : Int)) = false := decide_eq_false c4
    clear c4
    simp only [Option.some.injEq, Prod.mk.injEq] at H
    obtain ⟨rfl, rfl, rfl⟩ := H
    obtain ⟨Ao13, co13, eo13⟩ := Kd.R_slice HO_5.out
    subst eo13
    go_wp2
    repeat (go_quiet (fail); try go_wp2)
    go_ret3
    exact ⟨by first | rfl | (simp [errW_none, errW_some] <;> rfl) | (simp [*, errW_none, errW_some] <;> rfl), mvB HB⟩

end Go.Proofs.YtiogpnefnapfeaaDoor.X
