-- by xprint.py: the kit's printer over texts of this session
import Derived.Test.YtnpcfiahmadkjaaX0
namespace Go.Proofs.Ytnpcfiahmadkjaa.X
open Go.RowKit Go.Proofs.YtnpcfiahmadkjaaW.PrintWords Go.Proofs.YtnpcfiahmadkjaaW.PrintLast Go.Proofs.YtnpcfiahmadkjaaW.PrintMore
attribute [local go_sem] max2_int min2_int max_two min_two max_three min_three max_four min_four   -- for this text's walks alone
set_option linter.unusedVariables false
set_option linter.unusedSimpArgs false

/-! ### selvedgeref16_w5: function 21 -/
mutual
def selvedgeref16_w5.l0 : Nat → List Int → Int → Option (List Int)
 | 0, _, _ => none
 | k + 1, x0, x2 => if x2 < (x0.length : Int) then (if 0 ≤ x2 then (if (rd x0 x2) = 6 then (selvedgeref16_w5.l1 k x0 x2 x2) else (selvedgeref16_w5.l0 k x0 (wrap64 (x2 + 1)))) else (none)) else (selvedgeref16_w5.l3 k x0 0)
def selvedgeref16_w5.j2 : Nat → List Int → Int → Int → Option (List Int)
 | 0, _, _, _ => none
 | k + 1, x0, x2, x3 => if x2 > 0 then (if 0 ≤ (wrap64 (x2 - 1)) then (if (wrap64 (x2 - 1)) < (x0.length : Int) then (if (rd x0 (wrap64 (x2 - 1))) = 4 then (selvedgeref16_w5.j3 k x0 x2 x3 true) else (if x3 < (x0.length : Int) then (if 0 ≤ x3 then (selvedgeref16_w5.j3 k x0 x2 x3 ((rd x0 x3) == 4)) else (none)) else (selvedgeref16_w5.j3 k x0 x2 x3 false))) else (none)) else (none)) else (if x3 < (x0.length : Int) then (if 0 ≤ x3 then (selvedgeref16_w5.j3 k x0 x2 x3 ((rd x0 x3) == 4)) else (none)) else (selvedgeref16_w5.j3 k x0 x2 x3 false))
def selvedgeref16_w5.j3 : Nat → List Int → Int → Int → Bool → Option (List Int)
 | 0, _, _, _, _ => none
 | k + 1, x0, x2, x3, x52 => if x52 = true then (selvedgeref16_w5.l2 k x0 x2 x3) else (selvedgeref16_w5.l0 k x0 (wrap64 ((wrap64 (x3 - 1)) + 1)))
def selvedgeref16_w5.l2 : Nat → List Int → Int → Int → Option (List Int)
 | 0, _, _, _ => none
 | k + 1, x0, x2, x3 => if x2 < x3 then (if 0 ≤ x2 then (if x2 < (x0.length : Int) then (selvedgeref16_w5.l2 k (x0.set (x2 : Int).toNat 4) (wrap64 (x2 + 1)) x3) else (none)) else (none)) else (selvedgeref16_w5.l0 k x0 (wrap64 ((wrap64 (x3 - 1)) + 1)))
def selvedgeref16_w5.l1 : Nat → List Int → Int → Int → Option (List Int)
 | 0, _, _, _ => none
 | k + 1, x0, x2, x3 => if x3 < (x0.length : Int) then (if 0 ≤ x3 then (if (rd x0 x3) = 6 then (selvedgeref16_w5.l1 k x0 x2 (wrap64 (x3 + 1))) else (selvedgeref16_w5.j2 k x0 x2 x3)) else (none)) else (selvedgeref16_w5.j2 k x0 x2 x3)
def selvedgeref16_w5.l3 : Nat → List Int → Int → Option (List Int)
 | 0, _, _ => none
 | k + 1, x0, x4 => if x4 < (x0.length : Int) then (if 0 ≤ x4 then (if (rd x0 x4) = 5 then (selvedgeref16_w5.l3 k (x0.set (x4 : Int).toNat 14) (wrap64 (x4 + 1))) else (if (rd x0 x4) = 6 then (selvedgeref16_w5.l3 k (x0.set (x4 : Int).toNat 14) (wrap64 (x4 + 1))) else (if (rd x0 x4) = 8 then (selvedgeref16_w5.l3 k (x0.set (x4 : Int).toNat 14) (wrap64 (x4 + 1))) else (selvedgeref16_w5.l3 k x0 (wrap64 (x4 + 1)))))) else (none)) else (some x0)
end
def selvedgeref16_w5.f (k : Nat) (l0 : List Int) : Option (List Int) := selvedgeref16_w5.l0 k l0 0
theorem selvedgeref16_w5.mono_l : ∀ k, (∀ y0 y1, LeO (selvedgeref16_w5.l0 k y0 y1) (selvedgeref16_w5.l0 (k + 1) y0 y1)) ∧ (∀ y0 y1 y2, LeO (selvedgeref16_w5.j2 k y0 y1 y2) (selvedgeref16_w5.j2 (k + 1) y0 y1 y2)) ∧ (∀ y0 y1 y2 y3, LeO (selvedgeref16_w5.j3 k y0 y1 y2 y3) (selvedgeref16_w5.j3 (k + 1) y0 y1 y2 y3)) ∧ (∀ y0 y1 y2, LeO (selvedgeref16_w5.l2 k y0 y1 y2) (selvedgeref16_w5.l2 (k + 1) y0 y1 y2)) ∧ (∀ y0 y1 y2, LeO (selvedgeref16_w5.l1 k y0 y1 y2) (selvedgeref16_w5.l1 (k + 1) y0 y1 y2)) ∧ (∀ y0 y1, LeO (selvedgeref16_w5.l3 k y0 y1) (selvedgeref16_w5.l3 (k + 1) y0 y1))
 | 0 => ⟨fun _ _ r h => by simp [selvedgeref16_w5.l0] at h, fun _ _ _ r h => by simp [selvedgeref16_w5.j2] at h, fun _ _ _ _ r h => by simp [selvedgeref16_w5.j3] at h, fun _ _ _ r h => by simp [selvedgeref16_w5.l2] at h, fun _ _ _ r h => by simp [selvedgeref16_w5.l1] at h, fun _ _ r h => by simp [selvedgeref16_w5.l3] at h⟩
 | k + 1 => by
  obtain ⟨ih0, ih1, ih2, ih3, ih4, ih5⟩ := selvedgeref16_w5.mono_l k
  refine ⟨?_, ?_, ?_, ?_, ?_, ?_⟩
  ·intro y0 y1
   unfold selvedgeref16_w5.l0
   repeat' first
   | (with_reducible exact ih0 _ _)
   | (with_reducible exact ih1 _ _ _)
   | (with_reducible exact ih2 _ _ _ _)
   | (with_reducible exact ih3 _ _ _)
   | (with_reducible exact ih4 _ _ _)
   | (with_reducible exact ih5 _ _)
   | (with_reducible exact LeO.refl _)
   | (with_reducible exact LeO.none _)
   | (with_reducible refine LeO.ite ?_ ?_)
   | (with_reducible refine LeO.bind ?_ (fun _ => ?_))
   | exact ih0 _ _
   | exact ih1 _ _ _
   | exact ih2 _ _ _ _
   | exact ih3 _ _ _
   | exact ih4 _ _ _
   | exact ih5 _ _
   | exact LeO.none _
   | refine LeO.ite ?_ ?_
   | refine LeO.bind ?_ (fun _ => ?_)
  ·intro y0 y1 y2
   unfold selvedgeref16_w5.j2
   repeat' first
   | (with_reducible exact ih0 _ _)
   | (with_reducible exact ih1 _ _ _)
   | (with_reducible exact ih2 _ _ _ _)
   | (with_reducible exact ih3 _ _ _)
   | (with_reducible exact ih4 _ _ _)
   | (with_reducible exact ih5 _ _)
   | (with_reducible exact LeO.refl _)
   | (with_reducible exact LeO.none _)
   | (with_reducible refine LeO.ite ?_ ?_)
   | (with_reducible refine LeO.bind ?_ (fun _ => ?_))
   | exact ih0 _ _
   | exact ih1 _ _ _
   | exact ih2 _ _ _ _
   | exact ih3 _ _ _
   | exact ih4 _ _ _
   | exact ih5 _ _
   | exact LeO.none _
   | refine LeO.ite ?_ ?_
   | refine LeO.bind ?_ (fun _ => ?_)
  ·intro y0 y1 y2 y3
   unfold selvedgeref16_w5.j3
   repeat' first
   | (with_reducible exact ih0 _ _)
   | (with_reducible exact ih1 _ _ _)
   | (with_reducible exact ih2 _ _ _ _)
   | (with_reducible exact ih3 _ _ _)
   | (with_reducible exact ih4 _ _ _)
   | (with_reducible exact ih5 _ _)
   | (with_reducible exact LeO.refl _)
   | (with_reducible exact LeO.none _)
   | (with_reducible refine LeO.ite ?_ ?_)
   | (with_reducible refine LeO.bind ?_ (fun _ => ?_))
   | exact ih0 _ _
   | exact ih1 _ _ _
   | exact ih2 _ _ _ _
   | exact ih3 _ _ _
   | exact ih4 _ _ _
   | exact ih5 _ _
   | exact LeO.none _
   | refine LeO.ite ?_ ?_
   | refine LeO.bind ?_ (fun _ => ?_)
  ·intro y0 y1 y2
   unfold selvedgeref16_w5.l2
   repeat' first
   | (with_reducible exact ih0 _ _)
   | (with_reducible exact ih1 _ _ _)
   | (with_reducible exact ih2 _ _ _ _)
   | (with_reducible exact ih3 _ _ _)
   | (with_reducible exact ih4 _ _ _)
   | (with_reducible exact ih5 _ _)
   | (with_reducible exact LeO.refl _)
   | (with_reducible exact LeO.none _)
   | (with_reducible refine LeO.ite ?_ ?_)
   | (with_reducible refine LeO.bind ?_ (fun _ => ?_))
   | exact ih0 _ _
   | exact ih1 _ _ _
   | exact ih2 _ _ _ _
   | exact ih3 _ _ _
   | exact ih4 _ _ _
   | exact ih5 _ _
   | exact LeO.none _
   | refine LeO.ite ?_ ?_
   | refine LeO.bind ?_ (fun _ => ?_)
  ·intro y0 y1 y2
   unfold selvedgeref16_w5.l1
   repeat' first
   | (with_reducible exact ih0 _ _)
   | (with_reducible exact ih1 _ _ _)
   | (with_reducible exact ih2 _ _ _ _)
   | (with_reducible exact ih3 _ _ _)
   | (with_reducible exact ih4 _ _ _)
   | (with_reducible exact ih5 _ _)
   | (with_reducible exact LeO.refl _)
   | (with_reducible exact LeO.none _)
   | (with_reducible refine LeO.ite ?_ ?_)
   | (with_reducible refine LeO.bind ?_ (fun _ => ?_))
   | exact ih0 _ _
   | exact ih1 _ _ _
   | exact ih2 _ _ _ _
   | exact ih3 _ _ _
   | exact ih4 _ _ _
   | exact ih5 _ _
   | exact LeO.none _
   | refine LeO.ite ?_ ?_
   | refine LeO.bind ?_ (fun _ => ?_)
  ·intro y0 y1
   unfold selvedgeref16_w5.l3
   repeat' first
   | (with_reducible exact ih0 _ _)
   | (with_reducible exact ih1 _ _ _)
   | (with_reducible exact ih2 _ _ _ _)
   | (with_reducible exact ih3 _ _ _)
   | (with_reducible exact ih4 _ _ _)
   | (with_reducible exact ih5 _ _)
   | (with_reducible exact LeO.refl _)
   | (with_reducible exact LeO.none _)
   | (with_reducible refine LeO.ite ?_ ?_)
   | (with_reducible refine LeO.bind ?_ (fun _ => ?_))
   | exact ih0 _ _
   | exact ih1 _ _ _
   | exact ih2 _ _ _ _
   | exact ih3 _ _ _
   | exact ih4 _ _ _
   | exact ih5 _ _
   | exact LeO.none _
   | refine LeO.ite ?_ ?_
   | refine LeO.bind ?_ (fun _ => ?_)
theorem selvedgeref16_w5.mono : ∀ a0 k, LeO (selvedgeref16_w5.f k a0) (selvedgeref16_w5.f (k + 1) a0) := by
 intro a0 k
 obtain ⟨ih0, ih1, ih2, ih3, ih4, ih5⟩ := selvedgeref16_w5.mono_l k
 unfold selvedgeref16_w5.f
 repeat' first
   | (with_reducible exact ih0 _ _)
   | (with_reducible exact ih1 _ _ _)
   | (with_reducible exact ih2 _ _ _ _)
   | (with_reducible exact ih3 _ _ _)
   | (with_reducible exact ih4 _ _ _)
   | (with_reducible exact ih5 _ _)
   | (with_reducible exact LeO.refl _)
   | (with_reducible exact LeO.none _)
   | (with_reducible refine LeO.ite ?_ ?_)
   | (with_reducible refine LeO.bind ?_ (fun _ => ?_))
   | exact ih0 _ _
   | exact ih1 _ _ _
   | exact ih2 _ _ _ _
   | exact ih3 _ _ _
   | exact ih4 _ _ _
   | exact ih5 _ _
   | exact LeO.none _
   | refine LeO.ite ?_ ?_
   | refine LeO.bind ?_ (fun _ => ?_)
set_option maxHeartbeats 8000000 in
set_option maxRecDepth 100000 in
theorem selvedgeref16_w5.calls (k : Nat) (P0_ : Nat → Prop) (u9000_ : Value) (l0 : List Int) (r : List Int) (w0 w : World) (hB : Below w0.heap.size w0 w) (ho0 : Kd.R (Kd.int .u8) 23 w w0.heap.size P0_ u9000_ l0) (h : selvedgeref16_w5.f k l0 = some r) :
  Calls Try.prog 21 #[u9000_] w fun e w' => e = .returned (.tuple #[]) ∧ Kd.R (Kd.int .u8) 23 w' w0.heap.size (fun k_ => (P0_ k_ ∨ w.heap.size ≤ k_)) u9000_ r ∧ Below w0.heap.size w0 w' ∧ Kept w w' (fun k_ => P0_ k_) := by
 have HO0 := Aside0.mk (show Kd.R (Kd.int .u8) 23 w w0.heap.size (fun k_ => (P0_ k_ ∨ w.heap.size ≤ k_)) u9000_ l0 from Kd.R_mono ho0 (fun k_ hk => (.inl hk)))
 have HK := Aside0.mk (Kept.refl w (fun k_ => P0_ k_))
 have HW0 := Aside0.mk hB.size
 have HB := Aside0.mk hB
 clear hB
 have H : (selvedgeref16_w5.l0 k l0 0) = some r := h
 clear h
 have H' := Aside0.mk H
 clear H
 go_enter Try.func21, Try.ntmps21
 go_wp2
 go_loopg [2] k (fun kq v2 w' => ∃ (x0_1 : List Int) (x2_1 : Int), v2 = .int .i64 x2_1 ∧ Aside0 (selvedgeref16_w5.l0 kq x0_1 x2_1 = some r) ∧ Aside0 (kq ≤ k) ∧ Aside0 (Kd.R (Kd.int .u8) 23 w' w0.heap.size (fun k_ => (P0_ k_ ∨ w.heap.size ≤ k_)) u9000_ x0_1) ∧ Aside0 (Kept w w' (fun k_ => P0_ k_)) ∧ Aside0 (Below w0.heap.size w0 w'))
 case atStart => exact ⟨(l0), (0), (by first | rfl | (simp; done) | (simp [*]; done)), H', ⟨Nat.le_refl _⟩, ⟨mvR HO0⟩, ⟨by repeat (first | (with_reducible first | exact HK.out | apply Kept.alloc | apply Kept.drewN | apply Kept.drew) | exact HK.out)⟩, ⟨mvB HB⟩⟩
 case round =>
  clear H'
  obtain ⟨x0_1, x2_1, rfl, HA, HK1, HO_0, HK, HB⟩ := hrel
  cases gk with
  | zero => exact absurd HA.out (by simp [selvedgeref16_w5.l0])
  | succ k1 =>
   have H := HA.out
   clear HA
   simp only [selvedgeref16_w5.l0] at H
   by_cases c2 : x2_1 < (x0_1.length : Int)
   ·rw [if_pos c2] at H
    have c2b0 : decide (x2_1 < (x0_1.length : Int)) = true := decide_eq_true c2
    clear c2
    by_cases c3 : 0 ≤ x2_1
    ·rw [if_pos c3] at H
     have c3b0 : decide (0 ≤ x2_1) = true := decide_eq_true c3
     clear c3
     by_cases c4 : (rd x0_1 x2_1) = 6
     ·rw [if_pos c4] at H
      have c4b0 : ((rd x0_1 x2_1) == 6) = true := beq_iff_eq.mpr c4
      have c4b1 : ((rd x0_1 x2_1) != 6) = false := bne_eq_false_iff_eq.mpr c4
      clear c4
      have HC5 := Aside0.mk H
      clear H
      obtain ⟨Ao6, co6, eo6⟩ := Kd.R_slice HO_0.out
      subst eo6
      obtain ⟨ad146, e146, hx146_0, p146, q146⟩ := atI (Kd.R_reads' HO_0.out).2.2 x2_1
      cases e146
      go_upto_block 2 with (fail)
      go_cut [3] (fun v3 wc => ∃ (kq : Nat) (x3_4 : Int), v3 = .int .i64 x3_4 ∧ Aside0 (selvedgeref16_w5.j2 kq x0_1 x2_1 x3_4 = some r) ∧ Aside0 (kq ≤ k1) ∧ Aside0 (Kd.R (Kd.int .u8) 23 wc w0.heap.size (fun k_ => (P0_ k_ ∨ w.heap.size ≤ k_)) (.slice (some ad146) x0_1.length co6) x0_1) ∧ Aside0 (Kept w wc (fun k_ => P0_ k_)) ∧ Aside0 (Below w0.heap.size w0 wc))
      case first =>
       have H := HC5.out
       clear HC5
       have H' := Aside0.mk H
       clear H
       go_wp2
       go_loopg [3] k1 (fun kq v3 w' => ∃ (x3_2 : Int), v3 = .int .i64 x3_2 ∧ Aside0 (selvedgeref16_w5.l1 kq x0_1 x2_1 x3_2 = some r) ∧ Aside0 (kq ≤ k1) ∧ Aside0 (Kd.R (Kd.int .u8) 23 w' w0.heap.size (fun k_ => (P0_ k_ ∨ w.heap.size ≤ k_)) (.slice (some ad146) x0_1.length co6) x0_1) ∧ Aside0 (Kept w w' (fun k_ => P0_ k_)) ∧ Aside0 (Below w0.heap.size w0 w'))
       case atStart => exact ⟨(x2_1), (by first | rfl | (simp; done) | (simp [*]; done)), H', ⟨Nat.le_refl _⟩, ⟨mvR HO_0⟩, ⟨by repeat (first | (with_reducible first | exact HK.out | apply Kept.alloc | apply Kept.drewN | apply Kept.drew) | exact HK.out)⟩, ⟨mvB HB⟩⟩
       case round =>
        clear H'
        try clear p1
        try clear q1
        try clear hx1
        try clear c2
        try clear c2b0
        try clear p2
        try clear c3
        try clear c3b0
        try clear c4
        try clear c4b0
        try clear c4b1
        try clear hx146_0
        try clear p146
        try clear q146
        obtain ⟨x3_2, rfl, HA, HK2, HO_0, HK, HB⟩ := hrel
        cases gk with
        | zero => exact absurd HA.out (by simp [selvedgeref16_w5.l1])
        | succ k2 =>
         have H := HA.out
         clear HA
         simp only [selvedgeref16_w5.l1] at H
         by_cases c7 : x3_2 < (x0_1.length : Int)
         ·rw [if_pos c7] at H
          have c7b0 : decide (x3_2 < (x0_1.length : Int)) = true := decide_eq_true c7
          clear c7
          (first | rw [c7b0] | (simp only [i64_w, i32_w]; rw [c7b0]) | skip)
          by_cases c8 : 0 ≤ x3_2
          ·rw [if_pos c8] at H
           have c8b0 : decide (0 ≤ x3_2) = true := decide_eq_true c8
           clear c8
           by_cases c9 : (rd x0_1 x3_2) = 6
           ·rw [if_pos c9] at H
            have c9b0 : ((rd x0_1 x3_2) == 6) = true := beq_iff_eq.mpr c9
            have c9b1 : ((rd x0_1 x3_2) != 6) = false := bne_eq_false_iff_eq.mpr c9
            clear c9
            have H' := Aside0.mk H
            clear H
            obtain ⟨ad147, e147, hx147_0, p147, q147⟩ := atI (Kd.R_reads' HO_0.out).2.2 x3_2
            obtain rfl : ad146 = ad147 := (by injection e147)
            go_wp2
            go_roundg k2
            case measure => have := HK1.out; have := HK2.out; omega
            case rel => exact ⟨(wrap64 (x3_2 + 1)), (by first | rfl | (simp; done) | (simp [*]; done)), H', ⟨by have := HK1.out; have := HK2.out; omega⟩, ⟨mvR HO_0⟩, ⟨by repeat (first | (with_reducible first | exact HK.out | apply Kept.alloc | apply Kept.drewN | apply Kept.drew) | exact HK.out)⟩, ⟨mvB HB⟩⟩
           ·rw [if_neg c9] at H
            have c9b0 : ((rd x0_1 x3_2) == 6) = false := beq_eq_false_iff_ne.mpr c9
            have c9b1 : ((rd x0_1 x3_2) != 6) = true := bne_iff_ne.mpr c9
            have H' := Aside0.mk H
            clear H
            obtain ⟨ad147, e147, hx147_0, p147, q147⟩ := atI (Kd.R_reads' HO_0.out).2.2 x3_2
            obtain rfl : ad146 = ad147 := (by injection e147)
            go_wp2
            go_meet
            case rel => exact ⟨_, (x3_2), (by first | rfl | (simp; done) | (simp [*]; done)), H', ⟨by have := HK1.out; have := HK2.out; first | omega | exact Nat.le_refl _⟩, ⟨mvR HO_0⟩, ⟨by repeat (first | (with_reducible first | exact HK.out | apply Kept.alloc | apply Kept.drewN | apply Kept.drew) | exact HK.out)⟩, ⟨mvB HB⟩⟩
          ·rw [if_neg c8] at H
           exact absurd H (by simp)
         ·rw [if_neg c7] at H
          have c7b0 : decide (x3_2 < (x0_1.length : Int)) = false := decide_eq_false c7
          clear c7
          (first | rw [c7b0] | (simp only [i64_w, i32_w]; rw [c7b0]) | skip)
          have H' := Aside0.mk H
          clear H
          go_wp2
          go_meet
          case rel => exact ⟨_, (x3_2), (by first | rfl | (simp; done) | (simp [*]; done)), H', ⟨by have := HK1.out; have := HK2.out; first | omega | exact Nat.le_refl _⟩, ⟨mvR HO_0⟩, ⟨by repeat (first | (with_reducible first | exact HK.out | apply Kept.alloc | apply Kept.drewN | apply Kept.drew) | exact HK.out)⟩, ⟨mvB HB⟩⟩
      case rest =>
       clear HC5
       try clear p1
       try clear q1
       try clear hx1
       try clear c2
       try clear c2b0
       try clear p2
       try clear c3
       try clear c3b0
       try clear c4
       try clear c4b0
       try clear c4b1
       try clear p6
       try clear c7
       try clear c7b0
       try clear c8
       try clear c8b0
       try clear c9
       try clear c9b0
       try clear c9b1
       try clear hx146_0
       try clear hx147_0
       try clear p1
       try clear p146
       try clear p147
       try clear p2
       try clear q1
       try clear q146
       try clear q147
       obtain ⟨kq, x3_4, rfl, HA, HJ4, HO_0, HK, HB⟩ := hcut
       cases kq with
       | zero => exact absurd HA.out (by simp [selvedgeref16_w5.j2])
       | succ kj4 =>
        have H := HA.out
        clear HA
        simp only [selvedgeref16_w5.j2] at H
        have HC10 := Aside0.mk H
        clear H
        go_upto_region 7 with (fail)
        go_cut [52] (fun v52 wc => ∃ (kq : Nat) (x52_9 : Bool), v52 = .bool x52_9 ∧ Aside0 (selvedgeref16_w5.j3 kq x0_1 x2_1 x3_4 x52_9 = some r) ∧ Aside0 (kq ≤ kj4) ∧ Aside0 (Kd.R (Kd.int .u8) 23 wc w0.heap.size (fun k_ => (P0_ k_ ∨ w.heap.size ≤ k_)) (.slice (some ad146) x0_1.length co6) x0_1) ∧ Aside0 (Kept w wc (fun k_ => P0_ k_)) ∧ Aside0 (Below w0.heap.size w0 wc))
        case first =>
         have H := HC10.out
         clear HC10
         by_cases c11 : x2_1 > 0
         ·rw [if_pos c11] at H
          have c11b0 : decide (0 < x2_1) = true := decide_eq_true c11
          clear c11
          (first | rw [c11b0] | (simp only [i64_w, i32_w]; rw [c11b0]) | skip)
          obtain ⟨ji12, hji12⟩ : ∃ j_ : Int, (wrap64 (x2_1 - 1)) = j_ := ⟨_, rfl⟩
          replace H : (if 0 ≤ (ji12) then (if (ji12) < (x0_1.length : Int) then (if (rd x0_1 (ji12)) = 4 then (selvedgeref16_w5.j3 kj4 x0_1 x2_1 x3_4 true) else (if x3_4 < (x0_1.length : Int) then (if 0 ≤ x3_4 then (selvedgeref16_w5.j3 kj4 x0_1 x2_1 x3_4 ((rd x0_1 x3_4) == 4)) else (none)) else (selvedgeref16_w5.j3 kj4 x0_1 x2_1 x3_4 false))) else (none)) else (none)) = some r := by first | (rw [hji12] at H; exact H) | (simp only [hji12] at H ⊢; exact H)
          have hji12w : (IntKind.i64.wrap (x2_1 - 1)) = ji12 := (i64_w _).trans hji12
          by_cases c13 : 0 ≤ (ji12)
          ·rw [if_pos c13] at H
           have c13b0 : decide (0 ≤ (ji12)) = true := decide_eq_true c13
           clear c13
           by_cases c14 : (ji12) < (x0_1.length : Int)
           ·rw [if_pos c14] at H
            have c14b0 : decide ((ji12) < (x0_1.length : Int)) = true := decide_eq_true c14
            clear c14
            by_cases c15 : (rd x0_1 (ji12)) = 4
            ·rw [if_pos c15] at H
             have c15b0 : ((rd x0_1 (ji12)) == 4) = true := beq_iff_eq.mpr c15
             have c15b1 : ((rd x0_1 (ji12)) != 4) = false := bne_eq_false_iff_eq.mpr c15
             clear c15
             have H' := Aside0.mk H
             clear H
             obtain ⟨ad148, e148, hx148_0, p148, q148⟩ := atI (Kd.R_reads' HO_0.out).2.2 (ji12)
             obtain rfl : ad146 = ad148 := (by injection e148)
             go_wp2
             go_meet
             case rel => exact ⟨_, (true), (by first | rfl | (simp; done) | (simp [*]; done)), H', ⟨by have := HK1.out; have := HJ4.out; first | omega | exact Nat.le_refl _⟩, ⟨mvR HO_0⟩, ⟨by repeat (first | (with_reducible first | exact HK.out | apply Kept.alloc | apply Kept.drewN | apply Kept.drew) | exact HK.out)⟩, ⟨mvB HB⟩⟩
            ·rw [if_neg c15] at H
             have c15b0 : ((rd x0_1 (ji12)) == 4) = false := beq_eq_false_iff_ne.mpr c15
             have c15b1 : ((rd x0_1 (ji12)) != 4) = true := bne_iff_ne.mpr c15
             by_cases c16 : x3_4 < (x0_1.length : Int)
             ·rw [if_pos c16] at H
              have c16b0 : decide (x3_4 < (x0_1.length : Int)) = true := decide_eq_true c16
              clear c16
              by_cases c17 : 0 ≤ x3_4
              ·rw [if_pos c17] at H
               have c17b0 : decide (0 ≤ x3_4) = true := decide_eq_true c17
               clear c17
               have H' := Aside0.mk H
               clear H
               obtain ⟨ad148, e148, hx148_0, p148, q148⟩ := atI (Kd.R_reads' HO_0.out).2.2 (ji12)
               obtain rfl : ad146 = ad148 := (by injection e148)
               obtain ⟨ad149, e149, hx149_0, p149, q149⟩ := atI (Kd.R_reads' HO_0.out).2.2 x3_4
               obtain rfl : ad146 = ad149 := (by injection e149)
               go_wp2
               go_meet
               case rel => exact ⟨_, (((rd x0_1 x3_4) == 4)), (by first | rfl | (simp; done) | (simp [*]; done)), H', ⟨by have := HK1.out; have := HJ4.out; first | omega | exact Nat.le_refl _⟩, ⟨mvR HO_0⟩, ⟨by repeat (first | (with_reducible first | exact HK.out | apply Kept.alloc | apply Kept.drewN | apply Kept.drew) | exact HK.out)⟩, ⟨mvB HB⟩⟩
              ·rw [if_neg c17] at H
               exact absurd H (by simp)
             ·rw [if_neg c16] at H
              have c16b0 : decide (x3_4 < (x0_1.length : Int)) = false := decide_eq_false c16
              clear c16
              have H' := Aside0.mk H
              clear H
              obtain ⟨ad148, e148, hx148_0, p148, q148⟩ := atI (Kd.R_reads' HO_0.out).2.2 (ji12)
              obtain rfl : ad146 = ad148 := (by injection e148)
              go_wp2
              go_meet
              case rel => exact ⟨_, (false), (by first | rfl | (simp; done) | (simp [*]; done)), H', ⟨by have := HK1.out; have := HJ4.out; first | omega | exact Nat.le_refl _⟩, ⟨mvR HO_0⟩, ⟨by repeat (first | (with_reducible first | exact HK.out | apply Kept.alloc | apply Kept.drewN | apply Kept.drew) | exact HK.out)⟩, ⟨mvB HB⟩⟩
           ·rw [if_neg c14] at H
            exact absurd H (by simp)
          ·rw [if_neg c13] at H
           exact absurd H (by simp)
         ·rw [if_neg c11] at H
          have c11b0 : decide (0 < x2_1) = false := decide_eq_false c11
          clear c11
          (first | rw [c11b0] | (simp only [i64_w, i32_w]; rw [c11b0]) | skip)
          by_cases c18 : x3_4 < (x0_1.length : Int)
          ·rw [if_pos c18] at H
           have c18b0 : decide (x3_4 < (x0_1.length : Int)) = true := decide_eq_true c18
           clear c18
           by_cases c19 : 0 ≤ x3_4
           ·rw [if_pos c19] at H
            have c19b0 : decide (0 ≤ x3_4) = true := decide_eq_true c19
            clear c19
            have H' := Aside0.mk H
            clear H
            obtain ⟨ad150, e150, hx150_0, p150, q150⟩ := atI (Kd.R_reads' HO_0.out).2.2 x3_4
            obtain rfl : ad146 = ad150 := (by injection e150)
            go_wp2
            go_meet
            case rel => exact ⟨_, (((rd x0_1 x3_4) == 4)), (by first | rfl | (simp; done) | (simp [*]; done)), H', ⟨by have := HK1.out; have := HJ4.out; first | omega | exact Nat.le_refl _⟩, ⟨mvR HO_0⟩, ⟨by repeat (first | (with_reducible first | exact HK.out | apply Kept.alloc | apply Kept.drewN | apply Kept.drew) | exact HK.out)⟩, ⟨mvB HB⟩⟩
           ·rw [if_neg c19] at H
            exact absurd H (by simp)
          ·rw [if_neg c18] at H
           have c18b0 : decide (x3_4 < (x0_1.length : Int)) = false := decide_eq_false c18
           clear c18
           have H' := Aside0.mk H
           clear H
           go_wp2
           go_meet
           case rel => exact ⟨_, (false), (by first | rfl | (simp; done) | (simp [*]; done)), H', ⟨by have := HK1.out; have := HJ4.out; first | omega | exact Nat.le_refl _⟩, ⟨mvR HO_0⟩, ⟨by repeat (first | (with_reducible first | exact HK.out | apply Kept.alloc | apply Kept.drewN | apply Kept.drew) | exact HK.out)⟩, ⟨mvB HB⟩⟩
        case rest =>
         clear HC10
         try clear c1
         try clear p1
         try clear q1
         try clear hx1
         try clear c2
         try clear c2b0
         try clear p2
         try clear c3
         try clear c3b0
         try clear c4
         try clear c4b0
         try clear c4b1
         try clear p6
         try clear c7
         try clear c7b0
         try clear c8
         try clear c8b0
         try clear c9
         try clear c9b0
         try clear c9b1
         try clear c11
         try clear c11b0
         try clear c13
         try clear c13b0
         try clear c14
         try clear c14b0
         try clear p14
         try clear q14
         try clear hx14
         try clear c15
         try clear c15b0
         try clear c15b1
         try clear p15
         try clear q15
         try clear hx15
         try clear c16
         try clear c16b0
         try clear c17
         try clear c17b0
         try clear c18
         try clear c18b0
         try clear c19
         try clear c19b0
         try clear hx146_0
         try clear hx147_0
         try clear hx148_0
         try clear hx149_0
         try clear hx150_0
         try clear p1
         try clear p146
         try clear p147
         try clear p148
         try clear p149
         try clear p150
         try clear p2
         try clear p6
         try clear q1
         try clear q146
         try clear q147
         try clear q148
         try clear q149
         try clear q150
         obtain ⟨kq, x52_9, rfl, HA, HJ9, HO_0, HK, HB⟩ := hcut
         cases kq with
         | zero => exact absurd HA.out (by simp [selvedgeref16_w5.j3])
         | succ kj9 =>
          have H := HA.out
          clear HA
          simp only [selvedgeref16_w5.j3] at H
          by_cases c20 : x52_9 = true
          ·subst c20
           have H1 : (selvedgeref16_w5.l2 kj9 x0_1 x2_1 x3_4) = some r := by rw [if_pos rfl] at H; exact H
           clear H
           have H := H1
           clear H1
           have H' := Aside0.mk H
           clear H
           go_wp2
           go_loopg [2] kj9 (fun kq v2 w' => ∃ (x0_4 : List Int) (x2_4 : Int), v2 = .int .i64 x2_4 ∧ Aside0 (selvedgeref16_w5.l2 kq x0_4 x2_4 x3_4 = some r) ∧ Aside0 (kq ≤ kj9) ∧ Aside0 (Kd.R (Kd.int .u8) 23 w' w0.heap.size (fun k_ => (P0_ k_ ∨ w.heap.size ≤ k_)) (.slice (some ad146) x0_1.length co6) x0_4) ∧ Aside0 (Kept w w' (fun k_ => P0_ k_)) ∧ Aside0 (Below w0.heap.size w0 w'))
           case atStart => exact ⟨(x0_1), (x2_1), (by first | rfl | (simp; done) | (simp [*]; done)), H', ⟨Nat.le_refl _⟩, ⟨mvR HO_0⟩, ⟨by repeat (first | (with_reducible first | exact HK.out | apply Kept.alloc | apply Kept.drewN | apply Kept.drew) | exact HK.out)⟩, ⟨mvB HB⟩⟩
           case round =>
            clear H'
            try clear c1
            try clear p1
            try clear q1
            try clear hx1
            try clear c2
            try clear c2b0
            try clear p2
            try clear c3
            try clear c3b0
            try clear c4
            try clear c4b0
            try clear c4b1
            try clear p6
            try clear c7
            try clear c7b0
            try clear c8
            try clear c8b0
            try clear c9
            try clear c9b0
            try clear c9b1
            try clear c11
            try clear c11b0
            try clear c13
            try clear c13b0
            try clear c14
            try clear c14b0
            try clear p14
            try clear q14
            try clear hx14
            try clear c15
            try clear c15b0
            try clear c15b1
            try clear p15
            try clear q15
            try clear hx15
            try clear c16
            try clear c16b0
            try clear c17
            try clear c17b0
            try clear c18
            try clear c18b0
            try clear c19
            try clear c19b0
            try clear c20
            try clear hx146_0
            try clear hx147_0
            try clear hx148_0
            try clear hx149_0
            try clear hx150_0
            try clear p1
            try clear p14
            try clear p146
            try clear p147
            try clear p148
            try clear p149
            try clear p15
            try clear p150
            try clear p2
            try clear p6
            try clear q1
            try clear q14
            try clear q146
            try clear q147
            try clear q148
            try clear q149
            try clear q15
            try clear q150
            obtain ⟨x0_4, x2_4, rfl, HA, HK4, HO_0, HK, HB⟩ := hrel
            have hl0_4 := (Kd.R_reads' HO_0.out).1
            rw [hl0_4] at HO_0
            (try simp only [hl0_4])
            cases gk with
            | zero => exact absurd HA.out (by simp [selvedgeref16_w5.l2])
            | succ k4 =>
             have H := HA.out
             clear HA
             simp only [selvedgeref16_w5.l2] at H
             by_cases c21 : x2_4 < x3_4
             ·rw [if_pos c21] at H
              have c21b0 : decide (x2_4 < x3_4) = true := decide_eq_true c21
              clear c21
              by_cases c22 : 0 ≤ x2_4
              ·rw [if_pos c22] at H
               have c22b0 : decide (0 ≤ x2_4) = true := decide_eq_true c22
               clear c22
               by_cases c23 : x2_4 < (x0_4.length : Int)
               ·rw [if_pos c23] at H
                have c23b0 : decide (x2_4 < (x0_4.length : Int)) = true := decide_eq_true c23
                clear c23
                obtain ⟨y151, hy151⟩ : ∃ y_ : List Int, y_ = (x0_4.set (x2_4 : Int).toNat 4) := ⟨_, rfl⟩
                replace H : (selvedgeref16_w5.l2 k4 y151 (wrap64 (x2_4 + 1)) x3_4) = some r := by first | (rw [hy151]; with_reducible exact H) | (have H2_ := (Option.bind_some _ _).symm.trans H; rw [hy151]; with_reducible exact H2_) | (have H2_ := (Option.bind_some _ _).symm.trans H; with_reducible exact H2_) | with_reducible exact H | (rw [hy151]; exact H) | exact H
                have Ny151 := Aside0.mk hy151
                clear hy151
                have H' := Aside0.mk H
                clear H
                have p24 := dT (0 ≤ (x2_4 : Int))
                have q24 : (x2_4 : Int) < ((x0_4.length : Int) : Int) := of_decide_eq_true (by first | (with_reducible assumption) | assumption)
                obtain ⟨go24, co24, eo24, gb24, gl24, cl24, HG24⟩ := Kd.R_form HO_0.out (by omega)
                (first | cases eo24 | (injection eo24 with ea_ en_ ec_; (first | subst ea_ | (injection ea_ with ea_; subst ea_)); subst ec_; clear en_))
                have GB24 := Aside0.mk gb24
                have GG24 := Aside0.mk HG24
                clear gb24 gl24 HG24
                have HMgo24 := Aside0.mk (show (P0_ go24 ∨ w.heap.size ≤ go24) from (HO_0.out.1 _ rfl))
                (first | simp only [add_plain] at hx146_0 | skip)
                (first | simp only [add_plain] at hx147_0 | skip)
                (first | simp only [add_plain] at hx148_0 | skip)
                (first | simp only [add_plain] at hx149_0 | skip)
                (first | simp only [add_plain] at hx150_0 | skip)
                obtain ⟨hx24_0, hf24_0⟩ := Kd.R_celln 0 HO_0.out (x2_4 : Int) p24 q24
                replace p24 := eq_true p24
                replace q24 := eq_true q24
                have HP25 := Kd.R_putg HO_0.out (x2_4 : Int) 4
                go_wp2_with (first | ((with_reducible refine gate_store (t := 23) (p := 60) rfl ?_); refine store_event (t := 23) (p := 60) (v := ?vo_w26) (w1 := (wr.setCell ⟨go24, (x2_4 : Int).toNat, none⟩ (.int .u8 4))) ?hg ?ho ?hn ?hr ?_; (case ho => rfl); (case hg => rfl); (case hn => rfl); (case hr => first | (go_simp; done) | (go_simp; rfl)); intro w26 hw; have hg : wr.grownBy w26 (some go24) := (by rw [hw]; exact HP25.2); have hp_ : Kd.R (Kd.int .u8) 23 w26 w0.heap.size (fun k_ => (P0_ k_ ∨ w.heap.size ≤ k_)) (.slice (some ⟨go24, 0, none⟩) x0_4.length co6) y151 := (by rw [hw, Ny151.out]; exact HP25.1); clear HP25; have n0_ := Aside0.mk (hp_); have n1_ := Aside0.mk ((by rw [hw]; exact below_set (HB.out) GB24.out : Below w0.heap.size w0 w26)); have n2_ := Aside0.mk (Kept.of_grown (S := (fun k_ => P0_ k_)) hg (by repeat (first | (with_reducible first | exact HK.out | apply Kept.alloc | apply Kept.drewN | apply Kept.drew) | exact HK.out)) (fun k_ e_ => (HO_0.out.1 k_ e_))); clear HO_0; clear HB; clear HK; have HO_0 := n0_; have HB := n1_; have HK := n2_; clear n0_ n1_ n2_; clear hg hw hp_))
                (try simp only [← hl0_4])
                go_roundg k4
                case measure => have := HK1.out; have := HJ4.out; have := HJ9.out; have := HK4.out; omega
                case rel => exact ⟨(y151), (wrap64 (x2_4 + 1)), (by first | rfl | (simp; done) | (simp [*]; done)), H', ⟨by have := HK1.out; have := HJ4.out; have := HJ9.out; have := HK4.out; omega⟩, ⟨by (try simp only [hl0_4]); (with_reducible repeat (first | apply Kd.R_alloc | apply Kd.R_drewN | apply Kd.R_drew)); exact HO_0.out⟩, ⟨by repeat (first | (with_reducible first | exact HK.out | apply Kept.alloc | apply Kept.drewN | apply Kept.drew) | exact HK.out)⟩, ⟨mvB HB⟩⟩
               ·rw [if_neg c23] at H
                exact absurd H (by simp)
              ·rw [if_neg c22] at H
               exact absurd H (by simp)
             ·rw [if_neg c21] at H
              have c21b0 : decide (x2_4 < x3_4) = false := decide_eq_false c21
              clear c21
              have H' := Aside0.mk H
              clear H
              go_wp2
              (try simp only [← hl0_4])
              go_roundg k4
              case measure => have := HK1.out; have := HJ4.out; have := HJ9.out; have := HK4.out; omega
              case rel => exact ⟨(x0_4), (wrap64 ((wrap64 (x3_4 - 1)) + 1)), (by first | rfl | (simp; done) | (simp [*]; done)), H', ⟨by have := HK1.out; have := HJ4.out; have := HJ9.out; have := HK4.out; omega⟩, ⟨by (try simp only [hl0_4]); (with_reducible repeat (first | apply Kd.R_alloc | apply Kd.R_drewN | apply Kd.R_drew)); exact HO_0.out⟩, ⟨by repeat (first | (with_reducible first | exact HK.out | apply Kept.alloc | apply Kept.drewN | apply Kept.drew) | exact HK.out)⟩, ⟨mvB HB⟩⟩
          ·replace c20 := Bool.eq_false_iff.mpr c20
           subst c20
           have H1 : (selvedgeref16_w5.l0 kj9 x0_1 (wrap64 ((wrap64 (x3_4 - 1)) + 1))) = some r := by rw [if_neg (show ¬ (false = true) by decide)] at H; exact H
           clear H
           have H := H1
           clear H1
           have H' := Aside0.mk H
           clear H
           go_wp2
           go_roundg kj9
           case measure => have := HK1.out; have := HJ4.out; have := HJ9.out; omega
           case rel => exact ⟨(x0_1), (wrap64 ((wrap64 (x3_4 - 1)) + 1)), (by first | rfl | (simp; done) | (simp [*]; done)), H', ⟨by have := HK1.out; have := HJ4.out; have := HJ9.out; omega⟩, ⟨mvR HO_0⟩, ⟨by repeat (first | (with_reducible first | exact HK.out | apply Kept.alloc | apply Kept.drewN | apply Kept.drew) | exact HK.out)⟩, ⟨mvB HB⟩⟩
     ·rw [if_neg c4] at H
      have c4b0 : ((rd x0_1 x2_1) == 6) = false := beq_eq_false_iff_ne.mpr c4
      have c4b1 : ((rd x0_1 x2_1) != 6) = true := bne_iff_ne.mpr c4
      have H' := Aside0.mk H
      clear H
      obtain ⟨Ao27, co27, eo27⟩ := Kd.R_slice HO_0.out
      subst eo27
      obtain ⟨ad146, e146, hx146_0, p146, q146⟩ := atI (Kd.R_reads' HO_0.out).2.2 x2_1
      cases e146
      go_wp2
      go_roundg k1
      case measure => have := HK1.out; omega
      case rel => exact ⟨(x0_1), (wrap64 (x2_1 + 1)), (by first | rfl | (simp; done) | (simp [*]; done)), H', ⟨by have := HK1.out; omega⟩, ⟨mvR HO_0⟩, ⟨by repeat (first | (with_reducible first | exact HK.out | apply Kept.alloc | apply Kept.drewN | apply Kept.drew) | exact HK.out)⟩, ⟨mvB HB⟩⟩
    ·rw [if_neg c3] at H
     exact absurd H (by simp)
   ·rw [if_neg c2] at H
    have c2b0 : decide (x2_1 < (x0_1.length : Int)) = false := decide_eq_false c2
    clear c2
    have H' := Aside0.mk H
    clear H
    obtain ⟨Ao28, co28, eo28⟩ := Kd.R_slice HO_0.out
    subst eo28
    go_wp2
    go_loopg [4] k1 (fun kq v4 w' => ∃ (x0_2 : List Int) (x4_2 : Int), v4 = .int .i64 x4_2 ∧ Aside0 (selvedgeref16_w5.l3 kq x0_2 x4_2 = some r) ∧ Aside0 (kq ≤ k1) ∧ Aside0 (Kd.R (Kd.int .u8) 23 w' w0.heap.size (fun k_ => (P0_ k_ ∨ w.heap.size ≤ k_)) (.slice Ao28 x0_1.length co28) x0_2) ∧ Aside0 (Kept w w' (fun k_ => P0_ k_)) ∧ Aside0 (Below w0.heap.size w0 w'))
    case atStart => exact ⟨(x0_1), (0), (by first | rfl | (simp; done) | (simp [*]; done)), H', ⟨Nat.le_refl _⟩, ⟨mvR HO_0⟩, ⟨by repeat (first | (with_reducible first | exact HK.out | apply Kept.alloc | apply Kept.drewN | apply Kept.drew) | exact HK.out)⟩, ⟨mvB HB⟩⟩
    case round =>
     clear H'
     try clear c1
     try clear p1
     try clear q1
     try clear hx1
     try clear c2
     try clear c2b0
     try clear p2
     try clear q2
     try clear hx2
     try clear hf2
     try clear c3
     try clear c3b0
     try clear c4
     try clear c4b0
     try clear c4b1
     try clear p6
     try clear c7
     try clear c7b0
     try clear c8
     try clear c8b0
     try clear c9
     try clear c9b0
     try clear c9b1
     try clear c11
     try clear c11b0
     try clear c13
     try clear c13b0
     try clear c14
     try clear c14b0
     try clear p14
     try clear q14
     try clear hx14
     try clear c15
     try clear c15b0
     try clear c15b1
     try clear p15
     try clear q15
     try clear hx15
     try clear c16
     try clear c16b0
     try clear c17
     try clear c17b0
     try clear c18
     try clear c18b0
     try clear c19
     try clear c19b0
     try clear c20
     try clear c21
     try clear c21b0
     try clear c22
     try clear c22b0
     try clear c23
     try clear c23b0
     try clear p24
     try clear q24
     try clear hx24
     try clear hf24
     try clear hx146_0
     try clear hx147_0
     try clear hx148_0
     try clear hx149_0
     try clear hx150_0
     try clear hx24_0
     try clear p1
     try clear p14
     try clear p146
     try clear p147
     try clear p148
     try clear p149
     try clear p15
     try clear p150
     try clear p2
     try clear p24
     try clear p6
     try clear q1
     try clear q14
     try clear q146
     try clear q147
     try clear q148
     try clear q149
     try clear q15
     try clear q150
     try clear q24
     obtain ⟨x0_2, x4_2, rfl, HA, HK2, HO_0, HK, HB⟩ := hrel
     have hl0_2 := (Kd.R_reads' HO_0.out).1
     rw [hl0_2] at HO_0
     (try simp only [hl0_2])
     cases gk with
     | zero => exact absurd HA.out (by simp [selvedgeref16_w5.l3])
     | succ k2 =>
      have H := HA.out
      clear HA
      simp only [selvedgeref16_w5.l3] at H
      by_cases c29 : x4_2 < (x0_2.length : Int)
      ·rw [if_pos c29] at H
       have c29b0 : decide (x4_2 < (x0_2.length : Int)) = true := decide_eq_true c29
       clear c29
       by_cases c30 : 0 ≤ x4_2
       ·rw [if_pos c30] at H
        have c30b0 : decide (0 ≤ x4_2) = true := decide_eq_true c30
        clear c30
        by_cases c31 : (rd x0_2 x4_2) = 5
        ·rw [if_pos c31] at H
         have c31b0 : ((rd x0_2 x4_2) == 5) = true := beq_iff_eq.mpr c31
         have c31b1 : ((rd x0_2 x4_2) != 5) = false := bne_eq_false_iff_eq.mpr c31
         clear c31
         obtain ⟨y153, hy153⟩ : ∃ y_ : List Int, y_ = (x0_2.set (x4_2 : Int).toNat 14) := ⟨_, rfl⟩
         replace H : (selvedgeref16_w5.l3 k2 y153 (wrap64 (x4_2 + 1))) = some r := by first | (rw [hy153]; with_reducible exact H) | (have H2_ := (Option.bind_some _ _).symm.trans H; rw [hy153]; with_reducible exact H2_) | (have H2_ := (Option.bind_some _ _).symm.trans H; with_reducible exact H2_) | with_reducible exact H | (rw [hy153]; exact H) | exact H
         have Ny153 := Aside0.mk hy153
         clear hy153
         have H' := Aside0.mk H
         clear H
         obtain ⟨ad152, e152, hx152_0, p152, q152⟩ := atI (Kd.R_reads' HO_0.out).2.2 x4_2
         cases e152
         have p32 := dT (0 ≤ (x4_2 : Int))
         have q32 : (x4_2 : Int) < ((x0_2.length : Int) : Int) := of_decide_eq_true (by first | (with_reducible assumption) | assumption)
         obtain ⟨go32, co32, eo32, gb32, gl32, cl32, HG32⟩ := Kd.R_form HO_0.out (by omega)
         (first | cases eo32 | (injection eo32 with ea_ en_ ec_; (first | subst ea_ | (injection ea_ with ea_; subst ea_)); subst ec_; clear en_))
         have GB32 := Aside0.mk gb32
         have GG32 := Aside0.mk HG32
         clear gb32 gl32 HG32
         have HMgo32 := Aside0.mk (show (P0_ go32 ∨ w.heap.size ≤ go32) from (HO_0.out.1 _ rfl))
         (first | simp only [add_plain] at hx152_0 | skip)
         obtain ⟨hx32_0, hf32_0⟩ := Kd.R_celln 0 HO_0.out (x4_2 : Int) p32 q32
         replace p32 := eq_true p32
         replace q32 := eq_true q32
         have HP33 := Kd.R_putg HO_0.out (x4_2 : Int) 14
         go_wp2_with (first | ((with_reducible refine gate_store (t := 23) (p := 90) rfl ?_); refine store_event (t := 23) (p := 90) (v := ?vo_w34) (w1 := (wr.setCell ⟨go32, (x4_2 : Int).toNat, none⟩ (.int .u8 14))) ?hg ?ho ?hn ?hr ?_; (case ho => rfl); (case hg => rfl); (case hn => rfl); (case hr => first | (go_simp; done) | (go_simp; rfl)); intro w34 hw; have hg : wr.grownBy w34 (some go32) := (by rw [hw]; exact HP33.2); have hp_ : Kd.R (Kd.int .u8) 23 w34 w0.heap.size (fun k_ => (P0_ k_ ∨ w.heap.size ≤ k_)) (.slice (some ⟨go32, 0, none⟩) x0_2.length co28) y153 := (by rw [hw, Ny153.out]; exact HP33.1); clear HP33; have n0_ := Aside0.mk (hp_); have n1_ := Aside0.mk ((by rw [hw]; exact below_set (HB.out) GB32.out : Below w0.heap.size w0 w34)); have n2_ := Aside0.mk (Kept.of_grown (S := (fun k_ => P0_ k_)) hg (by repeat (first | (with_reducible first | exact HK.out | apply Kept.alloc | apply Kept.drewN | apply Kept.drew) | exact HK.out)) (fun k_ e_ => (HO_0.out.1 k_ e_))); clear HO_0; clear HB; clear HK; have HO_0 := n0_; have HB := n1_; have HK := n2_; clear n0_ n1_ n2_; clear hg hw hp_))
         (try simp only [← hl0_2])
         go_roundg k2
         case measure => have := HK1.out; have := HK2.out; omega
         case rel => exact ⟨(y153), (wrap64 (x4_2 + 1)), (by first | rfl | (simp; done) | (simp [*]; done)), H', ⟨by have := HK1.out; have := HK2.out; omega⟩, ⟨by (try simp only [hl0_2]); (with_reducible repeat (first | apply Kd.R_alloc | apply Kd.R_drewN | apply Kd.R_drew)); exact HO_0.out⟩, ⟨by repeat (first | (with_reducible first | exact HK.out | apply Kept.alloc | apply Kept.drewN | apply Kept.drew) | exact HK.out)⟩, ⟨mvB HB⟩⟩
        ·rw [if_neg c31] at H
         have c31b0 : ((rd x0_2 x4_2) == 5) = false := beq_eq_false_iff_ne.mpr c31
         have c31b1 : ((rd x0_2 x4_2) != 5) = true := bne_iff_ne.mpr c31
         by_cases c35 : (rd x0_2 x4_2) = 6
         ·rw [if_pos c35] at H
          have c35b0 : ((rd x0_2 x4_2) == 6) = true := beq_iff_eq.mpr c35
          have c35b1 : ((rd x0_2 x4_2) != 6) = false := bne_eq_false_iff_eq.mpr c35
          clear c35
          obtain ⟨y155, hy155⟩ : ∃ y_ : List Int, y_ = (x0_2.set (x4_2 : Int).toNat 14) := ⟨_, rfl⟩
          replace H : (selvedgeref16_w5.l3 k2 y155 (wrap64 (x4_2 + 1))) = some r := by first | (rw [hy155]; with_reducible exact H) | (have H2_ := (Option.bind_some _ _).symm.trans H; rw [hy155]; with_reducible exact H2_) | (have H2_ := (Option.bind_some _ _).symm.trans H; with_reducible exact H2_) | with_reducible exact H | (rw [hy155]; exact H) | exact H
          have Ny155 := Aside0.mk hy155
          clear hy155
          have H' := Aside0.mk H
          clear H
          obtain ⟨ad152, e152, hx152_0, p152, q152⟩ := atI (Kd.R_reads' HO_0.out).2.2 x4_2
          cases e152
          obtain ⟨ad154, e154, hx154_0, p154, q154⟩ := atI (Kd.R_reads' HO_0.out).2.2 x4_2
          obtain rfl : ad152 = ad154 := (by injection e154)
          have p36 := dT (0 ≤ (x4_2 : Int))
          have q36 : (x4_2 : Int) < ((x0_2.length : Int) : Int) := of_decide_eq_true (by first | (with_reducible assumption) | assumption)
          obtain ⟨go36, co36, eo36, gb36, gl36, cl36, HG36⟩ := Kd.R_form HO_0.out (by omega)
          (first | cases eo36 | (injection eo36 with ea_ en_ ec_; (first | subst ea_ | (injection ea_ with ea_; subst ea_)); subst ec_; clear en_))
          have GB36 := Aside0.mk gb36
          have GG36 := Aside0.mk HG36
          clear gb36 gl36 HG36
          have HMgo36 := Aside0.mk (show (P0_ go36 ∨ w.heap.size ≤ go36) from (HO_0.out.1 _ rfl))
          (first | simp only [add_plain] at hx152_0 | skip)
          (first | simp only [add_plain] at hx154_0 | skip)
          obtain ⟨hx36_0, hf36_0⟩ := Kd.R_celln 0 HO_0.out (x4_2 : Int) p36 q36
          replace p36 := eq_true p36
          replace q36 := eq_true q36
          have HP37 := Kd.R_putg HO_0.out (x4_2 : Int) 14
          go_wp2_with (first | ((with_reducible refine gate_store (t := 23) (p := 90) rfl ?_); refine store_event (t := 23) (p := 90) (v := ?vo_w38) (w1 := (wr.setCell ⟨go36, (x4_2 : Int).toNat, none⟩ (.int .u8 14))) ?hg ?ho ?hn ?hr ?_; (case ho => rfl); (case hg => rfl); (case hn => rfl); (case hr => first | (go_simp; done) | (go_simp; rfl)); intro w38 hw; have hg : wr.grownBy w38 (some go36) := (by rw [hw]; exact HP37.2); have hp_ : Kd.R (Kd.int .u8) 23 w38 w0.heap.size (fun k_ => (P0_ k_ ∨ w.heap.size ≤ k_)) (.slice (some ⟨go36, 0, none⟩) x0_2.length co28) y155 := (by rw [hw, Ny155.out]; exact HP37.1); clear HP37; have n0_ := Aside0.mk (hp_); have n1_ := Aside0.mk ((by rw [hw]; exact below_set (HB.out) GB36.out : Below w0.heap.size w0 w38)); have n2_ := Aside0.mk (Kept.of_grown (S := (fun k_ => P0_ k_)) hg (by repeat (first | (with_reducible first | exact HK.out | apply Kept.alloc | apply Kept.drewN | apply Kept.drew) | exact HK.out)) (fun k_ e_ => (HO_0.out.1 k_ e_))); clear HO_0; clear HB; clear HK; have HO_0 := n0_; have HB := n1_; have HK := n2_; clear n0_ n1_ n2_; clear hg hw hp_))
          (try simp only [← hl0_2])
          go_roundg k2
          case measure => have := HK1.out; have := HK2.out; omega
          case rel => exact ⟨(y155), (wrap64 (x4_2 + 1)), (by first | rfl | (simp; done) | (simp [*]; done)), H', ⟨by have := HK1.out; have := HK2.out; omega⟩, ⟨by (try simp only [hl0_2]); (with_reducible repeat (first | apply Kd.R_alloc | apply Kd.R_drewN | apply Kd.R_drew)); exact HO_0.out⟩, ⟨by repeat (first | (with_reducible first | exact HK.out | apply Kept.alloc | apply Kept.drewN | apply Kept.drew) | exact HK.out)⟩, ⟨mvB HB⟩⟩
         ·rw [if_neg c35] at H
          have c35b0 : ((rd x0_2 x4_2) == 6) = false := beq_eq_false_iff_ne.mpr c35
          have c35b1 : ((rd x0_2 x4_2) != 6) = true := bne_iff_ne.mpr c35
          by_cases c39 : (rd x0_2 x4_2) = 8
          ·rw [if_pos c39] at H
           have c39b0 : ((rd x0_2 x4_2) == 8) = true := beq_iff_eq.mpr c39
           have c39b1 : ((rd x0_2 x4_2) != 8) = false := bne_eq_false_iff_eq.mpr c39
           clear c39
           obtain ⟨y157, hy157⟩ : ∃ y_ : List Int, y_ = (x0_2.set (x4_2 : Int).toNat 14) := ⟨_, rfl⟩
           replace H : (selvedgeref16_w5.l3 k2 y157 (wrap64 (x4_2 + 1))) = some r := by first | (rw [hy157]; with_reducible exact H) | (have H2_ := (Option.bind_some _ _).symm.trans H; rw [hy157]; with_reducible exact H2_) | (have H2_ := (Option.bind_some _ _).symm.trans H; with_reducible exact H2_) | with_reducible exact H | (rw [hy157]; exact H) | exact H
           have Ny157 := Aside0.mk hy157
           clear hy157
           have H' := Aside0.mk H
           clear H
           obtain ⟨ad152, e152, hx152_0, p152, q152⟩ := atI (Kd.R_reads' HO_0.out).2.2 x4_2
           cases e152
           obtain ⟨ad154, e154, hx154_0, p154, q154⟩ := atI (Kd.R_reads' HO_0.out).2.2 x4_2
           obtain rfl : ad152 = ad154 := (by injection e154)
           obtain ⟨ad156, e156, hx156_0, p156, q156⟩ := atI (Kd.R_reads' HO_0.out).2.2 x4_2
           obtain rfl : ad152 = ad156 := (by injection e156)
           have p40 := dT (0 ≤ (x4_2 : Int))
           have q40 : (x4_2 : Int) < ((x0_2.length : Int) : Int) := of_decide_eq_true (by first | (with_reducible assumption) | assumption)
           obtain ⟨go40, co40, eo40, gb40, gl40, cl40, HG40⟩ := Kd.R_form HO_0.out (by omega)
           (first | cases eo40 | (injection eo40 with ea_ en_ ec_; (first | subst ea_ | (injection ea_ with ea_; subst ea_)); subst ec_; clear en_))
           have GB40 := Aside0.mk gb40
           have GG40 := Aside0.mk HG40
           clear gb40 gl40 HG40
           have HMgo40 := Aside0.mk (show (P0_ go40 ∨ w.heap.size ≤ go40) from (HO_0.out.1 _ rfl))
           (first | simp only [add_plain] at hx152_0 | skip)
           (first | simp only [add_plain] at hx154_0 | skip)
           (first | simp only [add_plain] at hx156_0 | skip)
           obtain ⟨hx40_0, hf40_0⟩ := Kd.R_celln 0 HO_0.out (x4_2 : Int) p40 q40
           replace p40 := eq_true p40
           replace q40 := eq_true q40
           have HP41 := Kd.R_putg HO_0.out (x4_2 : Int) 14
           go_wp2_with (first | ((with_reducible refine gate_store (t := 23) (p := 90) rfl ?_); refine store_event (t := 23) (p := 90) (v := ?vo_w42) (w1 := (wr.setCell ⟨go40, (x4_2 : Int).toNat, none⟩ (.int .u8 14))) ?hg ?ho ?hn ?hr ?_; (case ho => rfl); (case hg => rfl); (case hn => rfl); (case hr => first | (go_simp; done) | (go_simp; rfl)); intro w42 hw; have hg : wr.grownBy w42 (some go40) := (by rw [hw]; exact HP41.2); have hp_ : Kd.R (Kd.int .u8) 23 w42 w0.heap.size (fun k_ => (P0_ k_ ∨ w.heap.size ≤ k_)) (.slice (some ⟨go40, 0, none⟩) x0_2.length co28) y157 := (by rw [hw, Ny157.out]; exact HP41.1); clear HP41; have n0_ := Aside0.mk (hp_); have n1_ := Aside0.mk ((by rw [hw]; exact below_set (HB.out) GB40.out : Below w0.heap.size w0 w42)); have n2_ := Aside0.mk (Kept.of_grown (S := (fun k_ => P0_ k_)) hg (by repeat (first | (with_reducible first | exact HK.out | apply Kept.alloc | apply Kept.drewN | apply Kept.drew) | exact HK.out)) (fun k_ e_ => (HO_0.out.1 k_ e_))); clear HO_0; clear HB; clear HK; have HO_0 := n0_; have HB := n1_; have HK := n2_; clear n0_ n1_ n2_; clear hg hw hp_))
           (try simp only [← hl0_2])
           go_roundg k2
           case measure => have := HK1.out; have := HK2.out; omega
           case rel => exact ⟨(y157), (wrap64 (x4_2 + 1)), (by first | rfl | (simp; done) | (simp [*]; done)), H', ⟨by have := HK1.out; have := HK2.out; omega⟩, ⟨by (try simp only [hl0_2]); (with_reducible repeat (first | apply Kd.R_alloc | apply Kd.R_drewN | apply Kd.R_drew)); exact HO_0.out⟩, ⟨by repeat (first | (with_reducible first | exact HK.out | apply Kept.alloc | apply Kept.drewN | apply Kept.drew) | exact HK.out)⟩, ⟨mvB HB⟩⟩
          ·rw [if_neg c39] at H
           have c39b0 : ((rd x0_2 x4_2) == 8) = false := beq_eq_false_iff_ne.mpr c39
           have c39b1 : ((rd x0_2 x4_2) != 8) = true := bne_iff_ne.mpr c39
           have H' := Aside0.mk H
           clear H
           obtain ⟨ad152, e152, hx152_0, p152, q152⟩ := atI (Kd.R_reads' HO_0.out).2.2 x4_2
           cases e152
           obtain ⟨ad154, e154, hx154_0, p154, q154⟩ := atI (Kd.R_reads' HO_0.out).2.2 x4_2
           obtain rfl : ad152 = ad154 := (by injection e154)
           obtain ⟨ad156, e156, hx156_0, p156, q156⟩ := atI (Kd.R_reads' HO_0.out).2.2 x4_2
           obtain rfl : ad152 = ad156 := (by injection e156)
           go_wp2
           (try simp only [← hl0_2])
           go_roundg k2
           case measure => have := HK1.out; have := HK2.out; omega
           case rel => exact ⟨(x0_2), (wrap64 (x4_2 + 1)), (by first | rfl | (simp; done) | (simp [*]; done)), H', ⟨by have := HK1.out; have := HK2.out; omega⟩, ⟨by (try simp only [hl0_2]); (with_reducible repeat (first | apply Kd.R_alloc | apply Kd.R_drewN | apply Kd.R_drew)); exact HO_0.out⟩, ⟨by repeat (first | (with_reducible first | exact HK.out | apply Kept.alloc | apply Kept.drewN | apply Kept.drew) | exact HK.out)⟩, ⟨mvB HB⟩⟩
       ·rw [if_neg c30] at H
        exact absurd H (by simp)
      ·rw [if_neg c29] at H
       have c29b0 : decide (x4_2 < (x0_2.length : Int)) = false := decide_eq_false c29
       clear c29
       obtain rfl := Option.some.inj H
       go_wp2
       first | go_end0 | ((try simp only [Exit.inBlock, Exit.then]); refine bodyPost_ret (results_none rfl _ _ _) rfl ?_)
       exact ⟨by first | rfl | (simp [errW_none, errW_some] <;> rfl) | (simp [*, errW_none, errW_some] <;> rfl), (by first | exact (mvR HO_0) | (simp only [hl0_2]; exact (mvR HO_0))), mvB HB, by repeat (first | (with_reducible first | exact HK.out | apply Kept.alloc | apply Kept.drewN | apply Kept.drew) | exact HK.out)⟩

end Go.Proofs.Ytnpcfiahmadkjaa.X
