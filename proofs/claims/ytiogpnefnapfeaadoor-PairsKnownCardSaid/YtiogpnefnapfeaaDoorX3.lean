-- by xprint.py: the kit's printer over texts of this session
import Derived.Test.YtiogpnefnapfeaaDoorX0
import Derived.Test.YtiogpnefnapfeaaDoorX2
namespace Go.Proofs.YtiogpnefnapfeaaDoor.X
open Go.RowKit Go.Proofs.YtiogpnefnapfeaaDoorW.PrintWords Go.Proofs.YtiogpnefnapfeaaDoorW.PrintLast Go.Proofs.YtiogpnefnapfeaaDoorW.PrintMore
attribute [local go_sem] max2_int min2_int max_two min_two max_three min_three max_four min_four   -- for this text's walks alone
set_option linter.unusedVariables false
set_option linter.unusedSimpArgs false

/-! ### selvedgeref17_Pairs: function 10 -/
mutual
def selvedgeref17_Pairs.j4 : Nat → List Int → List Int → Option ((List (S31)))
 | 0, _, _ => none
 | k + 1, x0, x5 => selvedgeref17_Pairs.l2 k x0 x5 ([] : List (S31)) 0
def selvedgeref17_Pairs.l2 : Nat → List Int → List Int → List (S31) → Int → Option ((List (S31)))
 | 0, _, _, _, _ => none
 | k + 1, x0, x5, x12, x13 => if x13 < (x0.length : Int) then (if 0 ≤ x13 then (if x13 < (x5.length : Int) then (if (rd x5 x13) > 0 then (if x12.length < 8796093022208 then (selvedgeref17_Pairs.l2 k x0 x5 (x12 ++ [(⟨x13, rd x5 x13⟩ : S31)]) (wrap64 (x13 + 1))) else (none)) else (selvedgeref17_Pairs.l2 k x0 x5 x12 (wrap64 (x13 + 1)))) else (none)) else (none)) else (some x12)
def selvedgeref17_Pairs.l0 : Nat → List Int → List Int → List Int → List (S54) → Int → Option ((List (S31)))
 | 0, _, _, _, _, _ => none
 | k + 1, x0, x1, x5, x6, x7 => if x7 < (x0.length : Int) then (selvedgeref17_Pairs.j1 k x0 x1 x5 x6 x7 (decide (x7 < (x1.length : Int)))) else (selvedgeref17_Pairs.j1 k x0 x1 x5 x6 x7 false)
def selvedgeref17_Pairs.j1 : Nat → List Int → List Int → List Int → List (S54) → Int → Bool → Option ((List (S31)))
 | 0, _, _, _, _, _, _ => none
 | k + 1, x0, x1, x5, x6, x7, x26 => if x26 = true then (if 0 ≤ x7 then (if x7 < (x0.length : Int) then ((selvedgeref01_Bracket.f k (rd x0 x7)).bind fun bt138 => (if bt138.2.2 = true then (if x7 < (x1.length : Int) then (selvedgeref17_Pairs.j2 k x0 x1 x5 x6 x7 bt138.1 bt138.2.1 ((rd x1 x7) != 14)) else (none)) else (selvedgeref17_Pairs.j2 k x0 x1 x5 x6 x7 bt138.1 bt138.2.1 true))) else (none)) else (none)) else (selvedgeref17_Pairs.j4 k x0 x5)
def selvedgeref17_Pairs.j2 : Nat → List Int → List Int → List Int → List (S54) → Int → Int → Bool → Bool → Option ((List (S31)))
 | 0, _, _, _, _, _, _, _, _ => none
 | k + 1, x0, x1, x5, x6, x7, x8, x9, x46 => if x46 = true then (selvedgeref17_Pairs.l0 k x0 x1 x5 x6 (wrap64 (x7 + 1))) else (if x9 = true then (if (x6.length : Int) = 63 then (selvedgeref17_Pairs.j4 k x0 x5) else (if x6.length < 8796093022208 then (selvedgeref17_Pairs.l0 k x0 x1 x5 (x6 ++ [(⟨x8, x7⟩ : S54)]) (wrap64 (x7 + 1))) else (none))) else (selvedgeref17_Pairs.l1 k x0 x1 x5 x6 x7 x8 (wrap64 ((x6.length : Int) - 1))))
def selvedgeref17_Pairs.l1 : Nat → List Int → List Int → List Int → List (S54) → Int → Int → Int → Option ((List (S31)))
 | 0, _, _, _, _, _, _, _ => none
 | k + 1, x0, x1, x5, x6, x7, x8, x11 => if x11 ≥ 0 then (if 0 ≤ x11 then (if x11 < (x6.length : Int) then (if ((rd_T54 x6 x11).f0) = x8 then (if 0 ≤ ((rd_T54 x6 x11).f1) then (if ((rd_T54 x6 x11).f1) < (x5.length : Int) then (if x11 ≤ (x6.length : Int) then (selvedgeref17_Pairs.l0 k x0 x1 (x5.set (((rd_T54 x6 x11).f1) : Int).toNat x7) (x6.take (x11 : Int).toNat) (wrap64 (x7 + 1))) else (none)) else (none)) else (none)) else (selvedgeref17_Pairs.l1 k x0 x1 x5 x6 x7 x8 (wrap64 (x11 - 1)))) else (none)) else (none)) else (selvedgeref17_Pairs.l0 k x0 x1 x5 x6 (wrap64 (x7 + 1)))
end
def selvedgeref17_Pairs.f (k : Nat) (l0 : List Int) (l1 : List Int) : Option ((List (S31))) := if 0 ≤ (l0.length : Int) then (if ((l0.length : Int) : Int).toNat ≤ 35184372088832 then (selvedgeref17_Pairs.l0 k l0 l1 (List.replicate ((l0.length : Int) : Int).toNat 0) ([] : List (S54)) 0) else (none)) else (none)
theorem selvedgeref17_Pairs.mono_l : ∀ k, (∀ y0 y1, LeO (selvedgeref17_Pairs.j4 k y0 y1) (selvedgeref17_Pairs.j4 (k + 1) y0 y1)) ∧ (∀ y0 y1 y2 y3, LeO (selvedgeref17_Pairs.l2 k y0 y1 y2 y3) (selvedgeref17_Pairs.l2 (k + 1) y0 y1 y2 y3)) ∧ (∀ y0 y1 y2 y3 y4, LeO (selvedgeref17_Pairs.l0 k y0 y1 y2 y3 y4) (selvedgeref17_Pairs.l0 (k + 1) y0 y1 y2 y3 y4)) ∧ (∀ y0 y1 y2 y3 y4 y5, LeO (selvedgeref17_Pairs.j1 k y0 y1 y2 y3 y4 y5) (selvedgeref17_Pairs.j1 (k + 1) y0 y1 y2 y3 y4 y5)) ∧ (∀ y0 y1 y2 y3 y4 y5 y6 y7, LeO (selvedgeref17_Pairs.j2 k y0 y1 y2 y3 y4 y5 y6 y7) (selvedgeref17_Pairs.j2 (k + 1) y0 y1 y2 y3 y4 y5 y6 y7)) ∧ (∀ y0 y1 y2 y3 y4 y5 y6, LeO (selvedgeref17_Pairs.l1 k y0 y1 y2 y3 y4 y5 y6) (selvedgeref17_Pairs.l1 (k + 1) y0 y1 y2 y3 y4 y5 y6))
 | 0 => ⟨fun _ _ r h => by simp [selvedgeref17_Pairs.j4] at h, fun _ _ _ _ r h => by simp [selvedgeref17_Pairs.l2] at h, fun _ _ _ _ _ r h => by simp [selvedgeref17_Pairs.l0] at h, fun _ _ _ _ _ _ r h => by simp [selvedgeref17_Pairs.j1] at h, fun _ _ _ _ _ _ _ _ r h => by simp [selvedgeref17_Pairs.j2] at h, fun _ _ _ _ _ _ _ r h => by simp [selvedgeref17_Pairs.l1] at h⟩
 | k + 1 => by
  obtain ⟨ih0, ih1, ih2, ih3, ih4, ih5⟩ := selvedgeref17_Pairs.mono_l k
  refine ⟨?_, ?_, ?_, ?_, ?_, ?_⟩
  ·intro y0 y1
   unfold selvedgeref17_Pairs.j4
   repeat' first
   | (with_reducible exact ih0 _ _)
   | (with_reducible exact ih1 _ _ _ _)
   | (with_reducible exact ih2 _ _ _ _ _)
   | (with_reducible exact ih3 _ _ _ _ _ _)
   | (with_reducible exact ih4 _ _ _ _ _ _ _ _)
   | (with_reducible exact ih5 _ _ _ _ _ _ _)
   | (with_reducible exact selvedgeref01_Bracket.mono _ _)
   | (with_reducible exact LeO.refl _)
   | (with_reducible exact LeO.none _)
   | (with_reducible refine LeO.ite ?_ ?_)
   | (with_reducible refine LeO.bind ?_ (fun _ => ?_))
   | exact ih0 _ _
   | exact ih1 _ _ _ _
   | exact ih2 _ _ _ _ _
   | exact ih3 _ _ _ _ _ _
   | exact ih4 _ _ _ _ _ _ _ _
   | exact ih5 _ _ _ _ _ _ _
   | exact selvedgeref01_Bracket.mono _ _
   | exact LeO.none _
   | refine LeO.ite ?_ ?_
   | refine LeO.bind ?_ (fun _ => ?_)
  ·intro y0 y1 y2 y3
   unfold selvedgeref17_Pairs.l2
   repeat' first
   | (with_reducible exact ih0 _ _)
   | (with_reducible exact ih1 _ _ _ _)
   | (with_reducible exact ih2 _ _ _ _ _)
   | (with_reducible exact ih3 _ _ _ _ _ _)
   | (with_reducible exact ih4 _ _ _ _ _ _ _ _)
   | (with_reducible exact ih5 _ _ _ _ _ _ _)
   | (with_reducible exact selvedgeref01_Bracket.mono _ _)
   | (with_reducible exact LeO.refl _)
   | (with_reducible exact LeO.none _)
   | (with_reducible refine LeO.ite ?_ ?_)
   | (with_reducible refine LeO.bind ?_ (fun _ => ?_))
   | exact ih0 _ _
   | exact ih1 _ _ _ _
   | exact ih2 _ _ _ _ _
   | exact ih3 _ _ _ _ _ _
   | exact ih4 _ _ _ _ _ _ _ _
   | exact ih5 _ _ _ _ _ _ _
   | exact selvedgeref01_Bracket.mono _ _
   | exact LeO.none _
   | refine LeO.ite ?_ ?_
   | refine LeO.bind ?_ (fun _ => ?_)
  ·intro y0 y1 y2 y3 y4
   unfold selvedgeref17_Pairs.l0
   repeat' first
   | (with_reducible exact ih0 _ _)
   | (with_reducible exact ih1 _ _ _ _)
   | (with_reducible exact ih2 _ _ _ _ _)
   | (with_reducible exact ih3 _ _ _ _ _ _)
   | (with_reducible exact ih4 _ _ _ _ _ _ _ _)
   | (with_reducible exact ih5 _ _ _ _ _ _ _)
   | (with_reducible exact selvedgeref01_Bracket.mono _ _)
   | (with_reducible exact LeO.refl _)
   | (with_reducible exact LeO.none _)
   | (with_reducible refine LeO.ite ?_ ?_)
   | (with_reducible refine LeO.bind ?_ (fun _ => ?_))
   | exact ih0 _ _
   | exact ih1 _ _ _ _
   | exact ih2 _ _ _ _ _
   | exact ih3 _ _ _ _ _ _
   | exact ih4 _ _ _ _ _ _ _ _
   | exact ih5 _ _ _ _ _ _ _
   | exact selvedgeref01_Bracket.mono _ _
   | exact LeO.none _
   | refine LeO.ite ?_ ?_
   | refine LeO.bind ?_ (fun _ => ?_)
  ·intro y0 y1 y2 y3 y4 y5
   unfold selvedgeref17_Pairs.j1
   repeat' first
   | (with_reducible exact ih0 _ _)
   | (with_reducible exact ih1 _ _ _ _)
   | (with_reducible exact ih2 _ _ _ _ _)
   | (with_reducible exact ih3 _ _ _ _ _ _)
   | (with_reducible exact ih4 _ _ _ _ _ _ _ _)
   | (with_reducible exact ih5 _ _ _ _ _ _ _)
   | (with_reducible exact selvedgeref01_Bracket.mono _ _)
   | (with_reducible exact LeO.refl _)
   | (with_reducible exact LeO.none _)
   | (with_reducible refine LeO.ite ?_ ?_)
   | (with_reducible refine LeO.bind ?_ (fun _ => ?_))
   | exact ih0 _ _
   | exact ih1 _ _ _ _
   | exact ih2 _ _ _ _ _
   | exact ih3 _ _ _ _ _ _
   | exact ih4 _ _ _ _ _ _ _ _
   | exact ih5 _ _ _ _ _ _ _
   | exact selvedgeref01_Bracket.mono _ _
   | exact LeO.none _
   | refine LeO.ite ?_ ?_
   | refine LeO.bind ?_ (fun _ => ?_)
  ·intro y0 y1 y2 y3 y4 y5 y6 y7
   unfold selvedgeref17_Pairs.j2
   repeat' first
   | (with_reducible exact ih0 _ _)
   | (with_reducible exact ih1 _ _ _ _)
   | (with_reducible exact ih2 _ _ _ _ _)
   | (with_reducible exact ih3 _ _ _ _ _ _)
   | (with_reducible exact ih4 _ _ _ _ _ _ _ _)
   | (with_reducible exact ih5 _ _ _ _ _ _ _)
   | (with_reducible exact selvedgeref01_Bracket.mono _ _)
   | (with_reducible exact LeO.refl _)
   | (with_reducible exact LeO.none _)
   | (with_reducible refine LeO.ite ?_ ?_)
   | (with_reducible refine LeO.bind ?_ (fun _ => ?_))
   | exact ih0 _ _
   | exact ih1 _ _ _ _
   | exact ih2 _ _ _ _ _
   | exact ih3 _ _ _ _ _ _
   | exact ih4 _ _ _ _ _ _ _ _
   | exact ih5 _ _ _ _ _ _ _
   | exact selvedgeref01_Bracket.mono _ _
   | exact LeO.none _
   | refine LeO.ite ?_ ?_
   | refine LeO.bind ?_ (fun _ => ?_)
  ·intro y0 y1 y2 y3 y4 y5 y6
   unfold selvedgeref17_Pairs.l1
   repeat' first
   | (with_reducible exact ih0 _ _)
   | (with_reducible exact ih1 _ _ _ _)
   | (with_reducible exact ih2 _ _ _ _ _)
   | (with_reducible exact ih3 _ _ _ _ _ _)
   | (with_reducible exact ih4 _ _ _ _ _ _ _ _)
   | (with_reducible exact ih5 _ _ _ _ _ _ _)
   | (with_reducible exact selvedgeref01_Bracket.mono _ _)
   | (with_reducible exact LeO.refl _)
   | (with_reducible exact LeO.none _)
   | (with_reducible refine LeO.ite ?_ ?_)
   | (with_reducible refine LeO.bind ?_ (fun _ => ?_))
   | exact ih0 _ _
   | exact ih1 _ _ _ _
   | exact ih2 _ _ _ _ _
   | exact ih3 _ _ _ _ _ _
   | exact ih4 _ _ _ _ _ _ _ _
   | exact ih5 _ _ _ _ _ _ _
   | exact selvedgeref01_Bracket.mono _ _
   | exact LeO.none _
   | refine LeO.ite ?_ ?_
   | refine LeO.bind ?_ (fun _ => ?_)
theorem selvedgeref17_Pairs.mono : ∀ a0 a1 k, LeO (selvedgeref17_Pairs.f k a0 a1) (selvedgeref17_Pairs.f (k + 1) a0 a1) := by
 intro a0 a1 k
 obtain ⟨ih0, ih1, ih2, ih3, ih4, ih5⟩ := selvedgeref17_Pairs.mono_l k
 unfold selvedgeref17_Pairs.f
 repeat' first
   | (with_reducible exact ih0 _ _)
   | (with_reducible exact ih1 _ _ _ _)
   | (with_reducible exact ih2 _ _ _ _ _)
   | (with_reducible exact ih3 _ _ _ _ _ _)
   | (with_reducible exact ih4 _ _ _ _ _ _ _ _)
   | (with_reducible exact ih5 _ _ _ _ _ _ _)
   | (with_reducible exact selvedgeref01_Bracket.mono _ _)
   | (with_reducible exact LeO.refl _)
   | (with_reducible exact LeO.none _)
   | (with_reducible refine LeO.ite ?_ ?_)
   | (with_reducible refine LeO.bind ?_ (fun _ => ?_))
   | exact ih0 _ _
   | exact ih1 _ _ _ _
   | exact ih2 _ _ _ _ _
   | exact ih3 _ _ _ _ _ _
   | exact ih4 _ _ _ _ _ _ _ _
   | exact ih5 _ _ _ _ _ _ _
   | exact selvedgeref01_Bracket.mono _ _
   | exact LeO.none _
   | refine LeO.ite ?_ ?_
   | refine LeO.bind ?_ (fun _ => ?_)
set_option maxHeartbeats 8000000 in
set_option maxRecDepth 100000 in
theorem selvedgeref17_Pairs.calls (k : Nat) (A0 : Option Addr) (c0 : Nat) (l0 : List Int) (A1 : Option Addr) (c1 : Nat) (l1 : List Int) (r : List (S31)) (w : World) (hr0 : Kd.C (Kd.int .i32) w A0 l0.length l0) (hc0 : l0.length ≤ c0) (hr1 : Kd.C (Kd.int .u8) w A1 l1.length l1) (hc1 : l1.length ≤ c1) (h : selvedgeref17_Pairs.f k l0 l1 = some r) :
  Calls Tryd.prog 10 #[.slice A0 l0.length c0, .slice A1 l1.length c1] w fun e w' => ∃ v0_ : Value, e = .returned (v0_) ∧ Kd.R k31 31 w' w.heap.size (fun _ => True) v0_ r ∧ Below w.heap.size w w' := by
 have hu54 := Tryd.underlying54
 have hu31 := Tryd.underlying31
 have HR0 := Aside0.mk hr0
 have HC0 := Aside0.mk hc0
 clear hr0 hc0
 have HR1 := Aside0.mk hr1
 have HC1 := Aside0.mk hc1
 clear hr1 hc1
 have HB := Aside0.mk (Below.refl w.heap.size w)
 have H : (if 0 ≤ (l0.length : Int) then (if ((l0.length : Int) : Int).toNat ≤ 35184372088832 then (selvedgeref17_Pairs.l0 k l0 l1 (List.replicate ((l0.length : Int) : Int).toNat 0) ([] : List (S54)) 0) else (none)) else (none)) = some r := h
 clear h
 by_cases c3 : 0 ≤ (l0.length : Int)
 ·rw [if_pos c3] at H
  have c3b0 := eq_true c3
  have c3b1 : decide (0 ≤ (l0.length : Int)) = true := decide_eq_true c3
  clear c3
  by_cases c4 : ((l0.length : Int) : Int).toNat ≤ 35184372088832
  ·rw [if_pos c4] at H
   have c4b0 := eq_true c4
   have c4b1 : decide (((l0.length : Int) : Int).toNat ≤ 35184372088832) = true := decide_eq_true c4
   clear c4
   obtain ⟨y134, hy134⟩ : ∃ y_ : List Int, y_ = (List.replicate ((l0.length : Int) : Int).toNat 0) := ⟨_, rfl⟩
   replace H : (selvedgeref17_Pairs.l0 k l0 l1 y134 ([] : List (S54)) 0) = some r := by first | (rw [hy134]; with_reducible exact H) | (have H2_ := (Option.bind_some _ _).symm.trans H; rw [hy134]; with_reducible exact H2_) | (have H2_ := (Option.bind_some _ _).symm.trans H; with_reducible exact H2_) | with_reducible exact H | (rw [hy134]; exact H) | exact H
   have Ny134 := Aside0.mk hy134
   clear hy134
   have HC5 := Aside0.mk H
   clear H
   go_enter Tryd.func10, Tryd.ntmps10
   go_upto_block 0 with (first | ((with_reducible refine gate_dst (N := 16) rfl ?_); (try (refine gate_guard (by rfl) ?_; dsimp only)); refine Kd.R_make (Kd.int .i64) _ 3 rfl (N := 16) rfl 51 _ _ rfl (l0.length : Int) rfl rfl Tryd.underlying51 (.int .i64 0) 8 info3 rfl (by decide) (by omega) 0 (ok := fun _ => True) (okp := fun _ => True) rfl (fun _ hk => hk) trivial (of_decide_eq_true (by first | (with_reducible assumption) | assumption)) (Nat.le_trans (Nat.mul_le_mul_right _ (of_decide_eq_true (by first | (with_reducible assumption) | assumption) : (l0.length : Int).toNat ≤ 35184372088832)) (by omega)) (Below.refl _ _) (Nat.le_refl _) ?_; intro v135 w6 ho7 hb hg_ hnew_; clear hg_ hnew_; (first | rw [← Ny134.out] at ho7 | (simp only [Int.reduceToNat] at ho7; rw [← Ny134.out] at ho7)); have n0_ := Aside0.mk (Kd.R_lower ho7 (below_size (mvB HB))); have n1_ := Aside0.mk (below_step (mvB HB) hb); clear HB; have HO136 := n0_; have HB := n1_; clear n0_ n1_; clear hb ho7))
   (try simp only [Act.put, List.setIfInBounds_toArray, List.set_cons_zero, List.set_cons_succ])
   go_cut [] (fun wc => ∃ (kq : Nat) (x5_4 : List Int), Aside0 (selvedgeref17_Pairs.j4 kq l0 x5_4 = some r) ∧ Aside0 (kq ≤ k) ∧ Aside0 (Kd.R (Kd.int .i64) 3 wc w.heap.size (fun _ => True) v135 x5_4) ∧ Aside0 (Below w.heap.size w wc))
   case first =>
    have H := HC5.out
    clear HC5
    have H' := Aside0.mk H
    clear H
    go_wp2
    go_loopg [6, 7] k (fun kq v6 v7 w' => ∃ (x5_1 : List Int) (x6_1 : List (S54)) (x7_1 : Int), v7 = .int .i64 x7_1 ∧ Aside0 (selvedgeref17_Pairs.l0 kq l0 l1 x5_1 x6_1 x7_1 = some r) ∧ Aside0 (kq ≤ k) ∧ Aside0 (Kd.R (Kd.int .i64) 3 w' w.heap.size (fun _ => True) v135 x5_1) ∧ Aside0 (Kd.R k54 54 w' w.heap.size (fun _ => True) v6 x6_1) ∧ Aside0 (Below w.heap.size w w'))
    case atStart => exact ⟨(y134), (([] : List (S54))), (0), (by first | rfl | (simp; done) | (simp [*]; done)), H', ⟨Nat.le_refl _⟩, ⟨mvR HO136⟩, ⟨by first | exact Kd.R_nil _ _ _ _ _ | exact Kd.N_nil _ _ _ _ _ | exact Kd.V_nil _ _ _ _ _ | exact Kd.Q_nil _ _ _ _ _ | exact Kd.S_nil _ _ _ _ _⟩, ⟨mvB HB⟩⟩
    case round =>
     clear H'
     try clear c1
     try clear p2
     try clear c3
     try clear c3b0
     try clear c3b1
     try clear c4
     try clear c4b0
     try clear c4b1
     obtain ⟨x5_1, x6_1, x7_1, rfl, HA, HK1, HO_5, HO_6, HB⟩ := hrel
     cases gk with
     | zero => exact absurd HA.out (by simp [selvedgeref17_Pairs.l0])
     | succ k1 =>
      have H := HA.out
      clear HA
      simp only [selvedgeref17_Pairs.l0] at H
      have HC8 := Aside0.mk H
      clear H
      go_upto_region 4 with (fail)
      go_cut [26] (fun v26 wc => ∃ (kq : Nat) (x26_7 : Bool), v26 = .bool x26_7 ∧ Aside0 (selvedgeref17_Pairs.j1 kq l0 l1 x5_1 x6_1 x7_1 x26_7 = some r) ∧ Aside0 (kq ≤ k1) ∧ Aside0 (Kd.R (Kd.int .i64) 3 wc w.heap.size (fun _ => True) v135 x5_1) ∧ Aside0 (Kd.R k54 54 wc w.heap.size (fun _ => True) u6 x6_1) ∧ Aside0 (Below w.heap.size w wc))
      case first =>
       have H := HC8.out
       clear HC8
       by_cases c9 : x7_1 < (l0.length : Int)
       ·rw [if_pos c9] at H
        have c9b0 : decide (x7_1 < (l0.length : Int)) = true := decide_eq_true c9
        clear c9
        (first | rw [c9b0] | (simp only [i64_w, i32_w]; rw [c9b0]) | skip)
        have H' := Aside0.mk H
        clear H
        go_wp2
        go_meet
        case rel => exact ⟨_, (decide (x7_1 < (l1.length : Int))), (by first | rfl | (simp; done) | (simp [*]; done)), H', ⟨by have := HK1.out; first | omega | exact Nat.le_refl _⟩, ⟨mvR HO_5⟩, ⟨mvR HO_6⟩, ⟨mvB HB⟩⟩
       ·rw [if_neg c9] at H
        have c9b0 : decide (x7_1 < (l0.length : Int)) = false := decide_eq_false c9
        clear c9
        (first | rw [c9b0] | (simp only [i64_w, i32_w]; rw [c9b0]) | skip)
        have H' := Aside0.mk H
        clear H
        go_wp2
        go_meet
        case rel => exact ⟨_, (false), (by first | rfl | (simp; done) | (simp [*]; done)), H', ⟨by have := HK1.out; first | omega | exact Nat.le_refl _⟩, ⟨mvR HO_5⟩, ⟨mvR HO_6⟩, ⟨mvB HB⟩⟩
      case rest =>
       clear HC8
       try clear c1
       try clear p2
       try clear c3
       try clear c3b0
       try clear c3b1
       try clear c4
       try clear c4b0
       try clear c4b1
       try clear c9
       try clear c9b0
       try clear p2
       obtain ⟨kq, x26_7, rfl, HA, HJ7, HO_5, HO_6, HB⟩ := hcut
       cases kq with
       | zero => exact absurd HA.out (by simp [selvedgeref17_Pairs.j1])
       | succ kj7 =>
        have H := HA.out
        clear HA
        simp only [selvedgeref17_Pairs.j1] at H
        by_cases c10 : x26_7 = true
        ·subst c10
         have H1 : (if 0 ≤ x7_1 then (if x7_1 < (l0.length : Int) then ((selvedgeref01_Bracket.f kj7 (rd l0 x7_1)).bind fun bt138 => (if bt138.2.2 = true then (if x7_1 < (l1.length : Int) then (selvedgeref17_Pairs.j2 kj7 l0 l1 x5_1 x6_1 x7_1 bt138.1 bt138.2.1 ((rd l1 x7_1) != 14)) else (none)) else (selvedgeref17_Pairs.j2 kj7 l0 l1 x5_1 x6_1 x7_1 bt138.1 bt138.2.1 true))) else (none)) else (none)) = some r := by rw [if_pos rfl] at H; exact H
         clear H
         have H := H1
         clear H1
         by_cases c11 : 0 ≤ x7_1
         ·rw [if_pos c11] at H
          have c11b0 : decide (0 ≤ x7_1) = true := decide_eq_true c11
          clear c11
          by_cases c12 : x7_1 < (l0.length : Int)
          ·rw [if_pos c12] at H
           have c12b0 : decide (x7_1 < (l0.length : Int)) = true := decide_eq_true c12
           clear c12
           replace H := Option.bind_eq_some_iff.mp H
           obtain ⟨⟨t138, t139, t140⟩, A130, H⟩ := H
           replace H : (if t140 = true then (if x7_1 < (l1.length : Int) then (selvedgeref17_Pairs.j2 kj7 l0 l1 x5_1 x6_1 x7_1 t138 t139 ((rd l1 x7_1) != 14)) else (none)) else (selvedgeref17_Pairs.j2 kj7 l0 l1 x5_1 x6_1 x7_1 t138 t139 true)) = some r := H
           have A13 := Aside0.mk A130
           clear A130
           have HC14 := Aside0.mk H
           clear H
           obtain ⟨ad137, e137, hx137_0, p137, q137⟩ := atI HR0.out x7_1
           cases e137
           replace hx137_0 := (HB.out.cell (World.block_lt_of_cell? w _ hx137_0)).trans hx137_0
           go_upto_region 7 with (first | ((with_reducible refine gate_callee (f := 14) rfl ?_); refine goesL_ (some 34) rfl rfl Tryd.func14 (by kernel_rfl) rfl #[.int .i32 (rd l0 x7_1)] rfl (by (try simp only [List.map_toArray, List.map_cons, List.map_nil]); first | done | rfl | (simp only [List.length_drop, List.length_take]; rfl)) ?_; (with_reducible refine (selvedgeref01_Bracket.calls kj7 (rd l0 x7_1) t138 t139 t140 _ A13.out).mono ?_); rintro e w15 ⟨rfl, hb⟩; refine ⟨_, rfl, ?_⟩; have n0_ := Aside0.mk (Kd.R_below (mvR HO_5) hb); have n1_ := Aside0.mk (Kd.R_below (mvR HO_6) hb); have n2_ := Aside0.mk (below_step (mvB HB) hb); clear HO_5; clear HO_6; clear HB; have HO_5 := n0_; have HO_6 := n1_; have HB := n2_; clear n0_ n1_ n2_; (try clear hb); (try clear hb2); (try clear hk); (try clear hi)))
           (try simp only [Act.put, List.setIfInBounds_toArray, List.set_cons_zero, List.set_cons_succ])
           go_cut [46] (fun v46 wc => ∃ (kq : Nat) (x46_13 : Bool), v46 = .bool x46_13 ∧ Aside0 (selvedgeref17_Pairs.j2 kq l0 l1 x5_1 x6_1 x7_1 t138 t139 x46_13 = some r) ∧ Aside0 (kq ≤ kj7) ∧ Aside0 (Kd.R (Kd.int .i64) 3 wc w.heap.size (fun _ => True) v135 x5_1) ∧ Aside0 (Kd.R k54 54 wc w.heap.size (fun _ => True) u6 x6_1) ∧ Aside0 (Below w.heap.size w wc))
           case first =>
            have H := HC14.out
            clear HC14
            by_cases c16 : t140 = true
            ·subst c16
             have H1 : (if x7_1 < (l1.length : Int) then (selvedgeref17_Pairs.j2 kj7 l0 l1 x5_1 x6_1 x7_1 t138 t139 ((rd l1 x7_1) != 14)) else (none)) = some r := by rw [if_pos rfl] at H; exact H
             clear H
             have H := H1
             clear H1
             by_cases c17 : x7_1 < (l1.length : Int)
             ·rw [if_pos c17] at H
              have c17b0 : decide (x7_1 < (l1.length : Int)) = true := decide_eq_true c17
              clear c17
              (first | rw [c17b0] | (simp only [i64_w, i32_w]; rw [c17b0]) | skip)
              have H' := Aside0.mk H
              clear H
              obtain ⟨ad141, e141, hx141_0, p141, q141⟩ := atI HR1.out x7_1
              cases e141
              replace hx141_0 := (HB.out.cell (World.block_lt_of_cell? w _ hx141_0)).trans hx141_0
              go_wp2
              go_meet
              case rel => exact ⟨_, (((rd l1 x7_1) != 14)), (by first | rfl | (simp; done) | (simp [*]; done)), H', ⟨by have := HK1.out; have := HJ7.out; first | omega | exact Nat.le_refl _⟩, ⟨mvR HO_5⟩, ⟨mvR HO_6⟩, ⟨mvB HB⟩⟩
             ·rw [if_neg c17] at H
              exact absurd H (by simp)
            ·replace c16 := Bool.eq_false_iff.mpr c16
             subst c16
             have H1 : (selvedgeref17_Pairs.j2 kj7 l0 l1 x5_1 x6_1 x7_1 t138 t139 true) = some r := by rw [if_neg (show ¬ (false = true) by decide)] at H; exact H
             clear H
             have H := H1
             clear H1
             have H' := Aside0.mk H
             clear H
             go_wp2
             go_meet
             case rel => exact ⟨_, (true), (by first | rfl | (simp; done) | (simp [*]; done)), H', ⟨by have := HK1.out; have := HJ7.out; first | omega | exact Nat.le_refl _⟩, ⟨mvR HO_5⟩, ⟨mvR HO_6⟩, ⟨mvB HB⟩⟩
           case rest =>
            clear HC14
            try clear c1
            try clear p1
            try clear q1
            try clear hx1
            try clear p2
            try clear c3
            try clear c3b0
            try clear c3b1
            try clear c4
            try clear c4b0
            try clear c4b1
            try clear c9
            try clear c9b0
            try clear c10
            try clear c11
            try clear c11b0
            try clear c12
            try clear c12b0
            try clear p13
            try clear q13
            try clear hx13
            try clear c14
            try clear p14
            try clear q14
            try clear hx14
            try clear c16
            try clear c17
            try clear c17b0
            try clear hx137_0
            try clear hx141_0
            try clear p137
            try clear p141
            try clear p2
            try clear q137
            try clear q141
            obtain ⟨kq, x46_13, rfl, HA, HJ13, HO_5, HO_6, HB⟩ := hcut
            cases kq with
            | zero => exact absurd HA.out (by simp [selvedgeref17_Pairs.j2])
            | succ kj13 =>
             have H := HA.out
             clear HA
             simp only [selvedgeref17_Pairs.j2] at H
             by_cases c18 : x46_13 = true
             ·subst c18
              have H1 : (selvedgeref17_Pairs.l0 kj13 l0 l1 x5_1 x6_1 (wrap64 (x7_1 + 1))) = some r := by rw [if_pos rfl] at H; exact H
              clear H
              have H := H1
              clear H1
              have H' := Aside0.mk H
              clear H
              go_wp2
              go_roundg kj13
              case measure => have := HK1.out; have := HJ7.out; have := HJ13.out; omega
              case rel => exact ⟨(x5_1), (x6_1), (wrap64 (x7_1 + 1)), (by first | rfl | (simp; done) | (simp [*]; done)), H', ⟨by have := HK1.out; have := HJ7.out; have := HJ13.out; omega⟩, ⟨mvR HO_5⟩, ⟨mvR HO_6⟩, ⟨mvB HB⟩⟩
             ·replace c18 := Bool.eq_false_iff.mpr c18
              subst c18
              have H1 : (if t139 = true then (if (x6_1.length : Int) = 63 then (selvedgeref17_Pairs.j4 kj13 l0 x5_1) else (if x6_1.length < 8796093022208 then (selvedgeref17_Pairs.l0 kj13 l0 l1 x5_1 (x6_1 ++ [(⟨t138, x7_1⟩ : S54)]) (wrap64 (x7_1 + 1))) else (none))) else (selvedgeref17_Pairs.l1 kj13 l0 l1 x5_1 x6_1 x7_1 t138 (wrap64 ((x6_1.length : Int) - 1)))) = some r := by rw [if_neg (show ¬ (false = true) by decide)] at H; exact H
              clear H
              have H := H1
              clear H1
              by_cases c19 : t139 = true
              ·subst c19
               have H1 : (if (x6_1.length : Int) = 63 then (selvedgeref17_Pairs.j4 kj13 l0 x5_1) else (if x6_1.length < 8796093022208 then (selvedgeref17_Pairs.l0 kj13 l0 l1 x5_1 (x6_1 ++ [(⟨t138, x7_1⟩ : S54)]) (wrap64 (x7_1 + 1))) else (none))) = some r := by rw [if_pos rfl] at H; exact H
               clear H
               have H := H1
               clear H1
               by_cases c20 : (x6_1.length : Int) = 63
               ·rw [if_pos c20] at H
                have c20b0 : ((x6_1.length : Int) == 63) = true := beq_iff_eq.mpr c20
                have c20b1 : ((x6_1.length : Int) != 63) = false := bne_eq_false_iff_eq.mpr c20
                clear c20
                have H' := Aside0.mk H
                clear H
                obtain ⟨Ao21, co21, eo21⟩ := Kd.R_slice HO_6.out
                subst eo21
                go_wp2
                go_meet
                case rel => exact ⟨_, (x5_1), H', ⟨by have := HK1.out; have := HJ7.out; have := HJ13.out; first | omega | exact Nat.le_refl _⟩, ⟨mvR HO_5⟩, ⟨mvB HB⟩⟩
               ·rw [if_neg c20] at H
                have c20b0 : ((x6_1.length : Int) == 63) = false := beq_eq_false_iff_ne.mpr c20
                have c20b1 : ((x6_1.length : Int) != 63) = true := bne_iff_ne.mpr c20
                by_cases c22 : x6_1.length < 8796093022208
                ·rw [if_pos c22] at H
                 have LMc22 := Aside0.mk c22
                 clear c22
                 obtain ⟨y142, hy142⟩ : ∃ y_ : List (S54), y_ = (x6_1 ++ [(⟨t138, x7_1⟩ : S54)]) := ⟨_, rfl⟩
                 replace H : (selvedgeref17_Pairs.l0 kj13 l0 l1 x5_1 y142 (wrap64 (x7_1 + 1))) = some r := by first | (rw [hy142]; with_reducible exact H) | (have H2_ := (Option.bind_some _ _).symm.trans H; rw [hy142]; with_reducible exact H2_) | (have H2_ := (Option.bind_some _ _).symm.trans H; with_reducible exact H2_) | with_reducible exact H | (rw [hy142]; exact H) | exact H
                 have Ny142 := Aside0.mk hy142
                 clear hy142
                 have H' := Aside0.mk H
                 clear H
                 obtain ⟨Ao23, co23, eo23⟩ := Kd.R_slice HO_6.out
                 subst eo23
                 go_wp2_with (first | ((with_reducible refine gate_builtin (b := .append) (xs := #[.tmp 51, .tmp 55]) rfl ?_); (try (refine gate_guard (by rfl) ?_; dsimp only)); at_builtin; refine Kd.R_append k54 (w0 := w) w.heap.size rfl (.tmp 51) (.tmp 55) 52 54 (.agg #[(.int .i32 0), (.int .i64 0)]) 16 rfl Tryd.underlying52 info54 rfl (by decide) (by omega) (.slice Ao23 x6_1.length co23) x6_1 (⟨t138, x7_1⟩ : S54) [.int .i32 t138, .int .i64 x7_1] (fun _ => True) (fun _ => False) rfl rfl ?aP (fun _ hk => hk.elim) ?aF ?aO ?aB ?aS ?aL ?_; (case aP => exact k54_mkM _ _ _ (⟨t138, x7_1⟩ : S54)); (case aB => exact (mvB HB)); (case aF => exact (fun _ _ => trivial)); (case aO => exact (mvR HO_6)); (case aS => exact (below_size (mvB HB))); (case aL => have := LMc22.out; omega); intro v143 w24 ho hb hg hat; rw [← Ny142.out] at ho; have n0_ := Aside0.mk (Kd.R_over' (mvR HO_5) (Kd.R_typed (mvR HO_6)) (by decide) hg); have n1_ := Aside0.mk (hb); have n2_ := Aside0.mk (ho); clear HO_5; clear HB; clear HO_6; have HO_5 := n0_; have HB := n1_; have HO144 := n2_; clear n0_ n1_ n2_; clear ho hb hg hat))
                 go_roundg kj13
                 case measure => have := HK1.out; have := HJ7.out; have := HJ13.out; omega
                 case rel => exact ⟨(x5_1), (y142), (wrap64 (x7_1 + 1)), (by first | rfl | (simp; done) | (simp [*]; done)), H', ⟨by have := HK1.out; have := HJ7.out; have := HJ13.out; omega⟩, ⟨mvR HO_5⟩, ⟨mvR HO144⟩, ⟨mvB HB⟩⟩
                ·rw [if_neg c22] at H
                 exact absurd H (by simp)
              ·replace c19 := Bool.eq_false_iff.mpr c19
               subst c19
               have H1 : (selvedgeref17_Pairs.l1 kj13 l0 l1 x5_1 x6_1 x7_1 t138 (wrap64 ((x6_1.length : Int) - 1))) = some r := by rw [if_neg (show ¬ (false = true) by decide)] at H; exact H
               clear H
               have H := H1
               clear H1
               have H' := Aside0.mk H
               clear H
               obtain ⟨Ao25, co25, eo25⟩ := Kd.R_slice HO_6.out
               subst eo25
               go_wp2
               go_loopg [6, 11] kj13 (fun kq v6 v11 w' => ∃ (x5_4 : List Int) (x6_4 : List (S54)) (x11_4 : Int), v11 = .int .i64 x11_4 ∧ Aside0 (selvedgeref17_Pairs.l1 kq l0 l1 x5_4 x6_4 x7_1 t138 x11_4 = some r) ∧ Aside0 (kq ≤ kj13) ∧ Aside0 (Kd.R (Kd.int .i64) 3 w' w.heap.size (fun _ => True) v135 x5_4) ∧ Aside0 (Kd.R k54 54 w' w.heap.size (fun _ => True) v6 x6_4) ∧ Aside0 (Below w.heap.size w w'))
               case atStart => exact ⟨(x5_1), (x6_1), (wrap64 ((x6_1.length : Int) - 1)), (by first | rfl | (simp; done) | (simp [*]; done)), H', ⟨Nat.le_refl _⟩, ⟨mvR HO_5⟩, ⟨mvR HO_6⟩, ⟨mvB HB⟩⟩
               case round =>
                clear H'
                try clear c1
                try clear p1
                try clear q1
                try clear hx1
                try clear c2
                try clear p2
                try clear c3
                try clear c3b0
                try clear c3b1
                try clear c4
                try clear c4b0
                try clear c4b1
                try clear p6
                try clear c9
                try clear c9b0
                try clear c10
                try clear c11
                try clear c11b0
                try clear c12
                try clear c12b0
                try clear p13
                try clear q13
                try clear hx13
                try clear c14
                try clear p14
                try clear q14
                try clear hx14
                try clear c16
                try clear c17
                try clear c17b0
                try clear c18
                try clear c19
                try clear c20
                try clear c20b0
                try clear c20b1
                try clear c22
                try clear hx137_0
                try clear hx141_0
                try clear p1
                try clear p13
                try clear p137
                try clear p14
                try clear p141
                try clear p2
                try clear q1
                try clear q13
                try clear q137
                try clear q14
                try clear q141
                obtain ⟨x5_4, x6_4, x11_4, rfl, HA, HK4, HO_5, HO_6, HB⟩ := hrel
                cases gk with
                | zero => exact absurd HA.out (by simp [selvedgeref17_Pairs.l1])
                | succ k4 =>
                 have H := HA.out
                 clear HA
                 simp only [selvedgeref17_Pairs.l1] at H
                 by_cases c26 : x11_4 ≥ 0
                 ·rw [if_pos c26] at H
                  have c26b0 : decide (0 ≤ x11_4) = true := decide_eq_true c26
                  clear c26
                  by_cases c27 : 0 ≤ x11_4
                  ·rw [if_pos c27] at H
                   have c27b0 : decide (0 ≤ x11_4) = true := decide_eq_true c27
                   clear c27
                   by_cases c28 : x11_4 < (x6_4.length : Int)
                   ·rw [if_pos c28] at H
                    have c28b0 : decide (x11_4 < (x6_4.length : Int)) = true := decide_eq_true c28
                    clear c28
                    by_cases c29 : ((rd_T54 x6_4 x11_4).f0) = t138
                    ·rw [if_pos c29] at H
                     have c29b0 : (((rd_T54 x6_4 x11_4).f0) == t138) = true := beq_iff_eq.mpr c29
                     have c29b1 : (((rd_T54 x6_4 x11_4).f0) != t138) = false := bne_eq_false_iff_eq.mpr c29
                     clear c29
                     by_cases c30 : 0 ≤ ((rd_T54 x6_4 x11_4).f1)
                     ·rw [if_pos c30] at H
                      have c30b0 : decide (0 ≤ ((rd_T54 x6_4 x11_4).f1)) = true := decide_eq_true c30
                      clear c30
                      by_cases c31 : ((rd_T54 x6_4 x11_4).f1) < (x5_4.length : Int)
                      ·rw [if_pos c31] at H
                       have c31b0 : decide (((rd_T54 x6_4 x11_4).f1) < (x5_4.length : Int)) = true := decide_eq_true c31
                       clear c31
                       obtain ⟨y147, hy147⟩ : ∃ y_ : List Int, y_ = (x5_4.set (((rd_T54 x6_4 x11_4).f1) : Int).toNat x7_1) := ⟨_, rfl⟩
                       replace H : (if x11_4 ≤ (x6_4.length : Int) then (selvedgeref17_Pairs.l0 k4 l0 l1 y147 (x6_4.take (x11_4 : Int).toNat) (wrap64 (x7_1 + 1))) else (none)) = some r := by first | (rw [hy147]; with_reducible exact H) | (have H2_ := (Option.bind_some _ _).symm.trans H; rw [hy147]; with_reducible exact H2_) | (have H2_ := (Option.bind_some _ _).symm.trans H; with_reducible exact H2_) | with_reducible exact H | (rw [hy147]; exact H) | exact H
                       have Ny147 := Aside0.mk hy147
                       clear hy147
                       by_cases c33 : x11_4 ≤ (x6_4.length : Int)
                       ·rw [if_pos c33] at H
                        have c33b0 := eq_true c33
                        have c33b1 : decide (x11_4 ≤ (x6_4.length : Int)) = true := decide_eq_true c33
                        clear c33
                        obtain ⟨y148, hy148⟩ : ∃ y_ : List (S54), y_ = (x6_4.take (x11_4 : Int).toNat) := ⟨_, rfl⟩
                        replace H : (selvedgeref17_Pairs.l0 k4 l0 l1 y147 y148 (wrap64 (x7_1 + 1))) = some r := by first | (rw [hy148]; with_reducible exact H) | (have H2_ := (Option.bind_some _ _).symm.trans H; rw [hy148]; with_reducible exact H2_) | (have H2_ := (Option.bind_some _ _).symm.trans H; with_reducible exact H2_) | with_reducible exact H | (rw [hy148]; exact H) | exact H
                        have Ny148 := Aside0.mk hy148
                        clear hy148
                        have H' := Aside0.mk H
                        clear H
                        obtain ⟨Ao34, co34, eo34⟩ := Kd.R_slice HO_6.out
                        subst eo34
                        have p145 := dT (0 ≤ (x11_4 : Int))
                        have q145 := dT (x11_4 < (x6_4.length : Int))
                        obtain ⟨ad145, e145, hx145_0, hx145_1⟩ := at_T54 (Kd.R_reads' HO_6.out).2.2 x11_4 p145 q145
                        cases e145
                        replace p145 := eq_true p145
                        replace q145 := eq_true q145
                        have p146 := dT (0 ≤ (x11_4 : Int))
                        have q146 := dT (x11_4 < (x6_4.length : Int))
                        obtain ⟨ad146, e146, hx146_0, hx146_1⟩ := at_T54 (Kd.R_reads' HO_6.out).2.2 x11_4 p146 q146
                        obtain rfl : ad145 = ad146 := (by injection e146)
                        replace p146 := eq_true p146
                        replace q146 := eq_true q146
                        have p32 := dT (0 ≤ (((rd_T54 x6_4 x11_4).f1) : Int))
                        have q32 : (((rd_T54 x6_4 x11_4).f1) : Int) < ((x5_4.length : Int) : Int) := of_decide_eq_true (by first | (with_reducible assumption) | assumption)
                        obtain ⟨go32, co32, eo32, gb32, gl32, cl32, HG32⟩ := Kd.R_form HO_5.out (by omega)
                        (first | cases eo32 | (injection eo32 with ea_ en_ ec_; (first | subst ea_ | (injection ea_ with ea_; subst ea_)); subst ec_; clear en_))
                        have GB32 := Aside0.mk gb32
                        have GG32 := Aside0.mk HG32
                        clear gb32 gl32 HG32
                        obtain ⟨hx32_0, hf32_0⟩ := Kd.R_celln 0 HO_5.out (((rd_T54 x6_4 x11_4).f1) : Int) p32 q32
                        replace p32 := eq_true p32
                        replace q32 := eq_true q32
                        have HP35 := Kd.R_putg HO_5.out (((rd_T54 x6_4 x11_4).f1) : Int) x7_1
                        go_wp2_with (first | ((with_reducible refine gate_store (t := 3) (p := 78) rfl ?_); refine store_event (t := 3) (p := 78) (v := ?vo_w36) (w1 := (wr.setCell ⟨go32, (((rd_T54 x6_4 x11_4).f1) : Int).toNat, none⟩ (.int .i64 x7_1))) ?hg ?ho ?hn ?hr ?_; (case ho => rfl); (case hg => rfl); (case hn => rfl); (case hr => first | (go_simp; done) | (go_simp; rfl)); intro w36 hw; have hg : wr.grownBy w36 (some go32) := (by rw [hw]; exact HP35.2); have hp_ : Kd.R (Kd.int .i64) 3 w36 w.heap.size (fun _ => True) (.slice (some ⟨go32, 0, none⟩) x5_4.length co32) y147 := (by rw [hw, Ny147.out]; exact HP35.1); clear HP35; have n0_ := Aside0.mk (hp_); have n1_ := Aside0.mk (Kd.R_over' (v := (.slice (some ⟨go32, 0, none⟩) x5_4.length co32)) (mvR HO_6) (Kd.R_typed HO_5.out) (by decide) hg); have n2_ := Aside0.mk ((by rw [hw]; exact below_set (HB.out) GB32.out : Below w.heap.size w w36)); clear HO_5; clear HO_6; clear HB; have HO_5 := n0_; have HO_6 := n1_; have HB := n2_; clear n0_ n1_ n2_; clear hg hw hp_; have q37 : (x11_4 : Int) ≤ ((x6_4.length : Int) : Int) := of_decide_eq_true (by first | (with_reducible assumption) | assumption); obtain ⟨i037, hi037, _, hsz37, _⟩ := info_parts info54; have hcut37 := cut_to (P := Tryd.prog) 52 54 .i64 Tryd.underlying52 hi037 (some ad145) x6_4.length co34 x11_4 (of_decide_eq_true (by first | (with_reducible assumption) | assumption)) q37 (Kd.R_reads' HO_6.out).2.1; have hr37 := Kd.R_take (m := (x11_4 : Int).toNat) HO_6.out (by omega); have hy37 : y148.length = (x11_4 : Int).toNat := (by rw [Ny148.out, List.length_take]; omega); rw [← Ny148.out] at hr37; rw [← hy37] at hr37 hcut37; clear hy37 hi037 hsz37 HO_6; have HO150 := Aside0.mk hr37; clear hr37; replace q37 := eq_true q37))
                        go_roundg k4
                        case measure => have := HK1.out; have := HJ7.out; have := HJ13.out; have := HK4.out; omega
                        case rel => exact ⟨(y147), (y148), (wrap64 (x7_1 + 1)), (by first | rfl | (simp; done) | (simp [*]; done)), H', ⟨by have := HK1.out; have := HJ7.out; have := HJ13.out; have := HK4.out; omega⟩, ⟨mvR HO_5⟩, ⟨mvR HO150⟩, ⟨mvB HB⟩⟩
                       ·rw [if_neg c33] at H
                        exact absurd H (by simp)
                      ·rw [if_neg c31] at H
                       exact absurd H (by simp)
                     ·rw [if_neg c30] at H
                      exact absurd H (by simp)
                    ·rw [if_neg c29] at H
                     have c29b0 : (((rd_T54 x6_4 x11_4).f0) == t138) = false := beq_eq_false_iff_ne.mpr c29
                     have c29b1 : (((rd_T54 x6_4 x11_4).f0) != t138) = true := bne_iff_ne.mpr c29
                     have H' := Aside0.mk H
                     clear H
                     obtain ⟨Ao38, co38, eo38⟩ := Kd.R_slice HO_6.out
                     subst eo38
                     have p145 := dT (0 ≤ (x11_4 : Int))
                     have q145 := dT (x11_4 < (x6_4.length : Int))
                     obtain ⟨ad145, e145, hx145_0, hx145_1⟩ := at_T54 (Kd.R_reads' HO_6.out).2.2 x11_4 p145 q145
                     cases e145
                     replace p145 := eq_true p145
                     replace q145 := eq_true q145
                     go_wp2
                     go_roundg k4
                     case measure => have := HK1.out; have := HJ7.out; have := HJ13.out; have := HK4.out; omega
                     case rel => exact ⟨(x5_4), (x6_4), (wrap64 (x11_4 - 1)), (by first | rfl | (simp; done) | (simp [*]; done)), H', ⟨by have := HK1.out; have := HJ7.out; have := HJ13.out; have := HK4.out; omega⟩, ⟨mvR HO_5⟩, ⟨mvR HO_6⟩, ⟨mvB HB⟩⟩
                   ·rw [if_neg c28] at H
                    exact absurd H (by simp)
                  ·rw [if_neg c27] at H
                   exact absurd H (by simp)
                 ·rw [if_neg c26] at H
                  have c26b0 : decide (0 ≤ x11_4) = false := decide_eq_false c26
                  clear c26
                  have H' := Aside0.mk H
                  clear H
                  go_wp2
                  go_roundg k4
                  case measure => have := HK1.out; have := HJ7.out; have := HJ13.out; have := HK4.out; omega
                  case rel => exact ⟨(x5_4), (x6_4), (wrap64 (x7_1 + 1)), (by first | rfl | (simp; done) | (simp [*]; done)), H', ⟨by have := HK1.out; have := HJ7.out; have := HJ13.out; have := HK4.out; omega⟩, ⟨mvR HO_5⟩, ⟨mvR HO_6⟩, ⟨mvB HB⟩⟩
          ·rw [if_neg c12] at H
           exact absurd H (by simp)
         ·rw [if_neg c11] at H
          exact absurd H (by simp)
        ·replace c10 := Bool.eq_false_iff.mpr c10
         subst c10
         have H1 : (selvedgeref17_Pairs.j4 kj7 l0 x5_1) = some r := by rw [if_neg (show ¬ (false = true) by decide)] at H; exact H
         clear H
         have H := H1
         clear H1
         have H' := Aside0.mk H
         clear H
         go_wp2
         go_meet
         case rel => exact ⟨_, (x5_1), H', ⟨by have := HK1.out; have := HJ7.out; first | omega | exact Nat.le_refl _⟩, ⟨mvR HO_5⟩, ⟨mvB HB⟩⟩
   case rest =>
    clear HC5
    try clear c1
    try clear p1
    try clear q1
    try clear hx1
    try clear c2
    try clear p2
    try clear c3
    try clear c3b0
    try clear c3b1
    try clear p3
    try clear q3
    try clear hx3
    try clear hf3
    try clear c4
    try clear c4b0
    try clear c4b1
    try clear p6
    try clear c9
    try clear c9b0
    try clear c10
    try clear c11
    try clear c11b0
    try clear c12
    try clear c12b0
    try clear p13
    try clear q13
    try clear hx13
    try clear c14
    try clear p14
    try clear q14
    try clear hx14
    try clear c16
    try clear c17
    try clear c17b0
    try clear c18
    try clear c19
    try clear c20
    try clear c20b0
    try clear c20b1
    try clear c22
    try clear c26
    try clear c26b0
    try clear c27
    try clear c27b0
    try clear c28
    try clear c28b0
    try clear c29
    try clear c29b0
    try clear c29b1
    try clear c30
    try clear c30b0
    try clear c31
    try clear c31b0
    try clear p32
    try clear q32
    try clear hx32
    try clear hf32
    try clear c33
    try clear c33b0
    try clear c33b1
    try clear q37
    try clear hx137_0
    try clear hx141_0
    try clear hx145_0
    try clear hx145_1
    try clear hx146_0
    try clear hx146_1
    try clear hx32_0
    try clear p1
    try clear p13
    try clear p137
    try clear p14
    try clear p141
    try clear p145
    try clear p146
    try clear p2
    try clear p32
    try clear p6
    try clear q1
    try clear q13
    try clear q137
    try clear q14
    try clear q141
    try clear q145
    try clear q146
    try clear q32
    try clear q37
    obtain ⟨kq, x5_4, HA, HJ4, HO_5, HB⟩ := hcut
    cases kq with
    | zero => exact absurd HA.out (by simp [selvedgeref17_Pairs.j4])
    | succ kj4 =>
     have H := HA.out
     clear HA
     simp only [selvedgeref17_Pairs.j4] at H
     have H' := Aside0.mk H
     clear H
     go_wp2
     go_loopg [12, 13] kj4 (fun kq v12 v13 w' => ∃ (x12_2 : List (S31)) (x13_2 : Int), v13 = .int .i64 x13_2 ∧ Aside0 (selvedgeref17_Pairs.l2 kq l0 x5_4 x12_2 x13_2 = some r) ∧ Aside0 (kq ≤ kj4) ∧ Aside0 (Kd.R (Kd.int .i64) 3 w' w.heap.size (fun _ => True) v135 x5_4) ∧ Aside0 (Kd.R k31 31 w' w.heap.size (fun _ => True) v12 x12_2) ∧ Aside0 (Below w.heap.size w w'))
     case atStart => exact ⟨(([] : List (S31))), (0), (by first | rfl | (simp; done) | (simp [*]; done)), H', ⟨Nat.le_refl _⟩, ⟨mvR HO_5⟩, ⟨by first | exact Kd.R_nil _ _ _ _ _ | exact Kd.N_nil _ _ _ _ _ | exact Kd.V_nil _ _ _ _ _ | exact Kd.Q_nil _ _ _ _ _ | exact Kd.S_nil _ _ _ _ _⟩, ⟨mvB HB⟩⟩
     case round =>
      clear H'
      try clear c1
      try clear p1
      try clear q1
      try clear hx1
      try clear c2
      try clear p2
      try clear c3
      try clear c3b0
      try clear c3b1
      try clear p3
      try clear q3
      try clear hx3
      try clear hf3
      try clear c4
      try clear c4b0
      try clear c4b1
      try clear p6
      try clear c9
      try clear c9b0
      try clear c10
      try clear c11
      try clear c11b0
      try clear c12
      try clear c12b0
      try clear p13
      try clear q13
      try clear hx13
      try clear c14
      try clear p14
      try clear q14
      try clear hx14
      try clear c16
      try clear c17
      try clear c17b0
      try clear c18
      try clear c19
      try clear c20
      try clear c20b0
      try clear c20b1
      try clear c22
      try clear c26
      try clear c26b0
      try clear c27
      try clear c27b0
      try clear c28
      try clear c28b0
      try clear c29
      try clear c29b0
      try clear c29b1
      try clear c30
      try clear c30b0
      try clear c31
      try clear c31b0
      try clear p32
      try clear q32
      try clear hx32
      try clear hf32
      try clear c33
      try clear c33b0
      try clear c33b1
      try clear q37
      try clear hx137_0
      try clear hx141_0
      try clear hx145_0
      try clear hx145_1
      try clear hx146_0
      try clear hx146_1
      try clear hx32_0
      try clear p1
      try clear p13
      try clear p137
      try clear p14
      try clear p141
      try clear p145
      try clear p146
      try clear p2
      try clear p3
      try clear p32
      try clear p6
      try clear q1
      try clear q13
      try clear q137
      try clear q14
      try clear q141
      try clear q145
      try clear q146
      try clear q3
      try clear q32
      try clear q37
      obtain ⟨x12_2, x13_2, rfl, HA, HK2, HO_5, HO_12, HB⟩ := hrel
      cases gk with
      | zero => exact absurd HA.out (by simp [selvedgeref17_Pairs.l2])
      | succ k2 =>
       have H := HA.out
       clear HA
       simp only [selvedgeref17_Pairs.l2] at H
       by_cases c39 : x13_2 < (l0.length : Int)
       ·rw [if_pos c39] at H
        have c39b0 : decide (x13_2 < (l0.length : Int)) = true := decide_eq_true c39
        clear c39
        by_cases c40 : 0 ≤ x13_2
        ·rw [if_pos c40] at H
         have c40b0 : decide (0 ≤ x13_2) = true := decide_eq_true c40
         clear c40
         by_cases c41 : x13_2 < (x5_4.length : Int)
         ·rw [if_pos c41] at H
          have c41b0 : decide (x13_2 < (x5_4.length : Int)) = true := decide_eq_true c41
          clear c41
          by_cases c42 : (rd x5_4 x13_2) > 0
          ·rw [if_pos c42] at H
           have c42b0 : decide (0 < (rd x5_4 x13_2)) = true := decide_eq_true c42
           clear c42
           by_cases c43 : x12_2.length < 8796093022208
           ·rw [if_pos c43] at H
            have LMc43 := Aside0.mk c43
            clear c43
            obtain ⟨y153, hy153⟩ : ∃ y_ : List (S31), y_ = (x12_2 ++ [(⟨x13_2, rd x5_4 x13_2⟩ : S31)]) := ⟨_, rfl⟩
            replace H : (selvedgeref17_Pairs.l2 k2 l0 x5_4 y153 (wrap64 (x13_2 + 1))) = some r := by first | (rw [hy153]; with_reducible exact H) | (have H2_ := (Option.bind_some _ _).symm.trans H; rw [hy153]; with_reducible exact H2_) | (have H2_ := (Option.bind_some _ _).symm.trans H; with_reducible exact H2_) | with_reducible exact H | (rw [hy153]; exact H) | exact H
            have Ny153 := Aside0.mk hy153
            clear hy153
            have H' := Aside0.mk H
            clear H
            obtain ⟨Ao44, co44, eo44⟩ := Kd.R_slice HO_5.out
            subst eo44
            obtain ⟨ad151, e151, hx151_0, p151, q151⟩ := atI (Kd.R_reads' HO_5.out).2.2 x13_2
            cases e151
            obtain ⟨ad152, e152, hx152_0, p152, q152⟩ := atI (Kd.R_reads' HO_5.out).2.2 x13_2
            obtain rfl : ad151 = ad152 := (by injection e152)
            go_wp2_with (first | ((with_reducible refine gate_builtin (b := .append) (xs := #[.tmp 93, .tmp 100]) rfl ?_); (try (refine gate_guard (by rfl) ?_; dsimp only)); at_builtin; refine Kd.R_append k31 (w0 := w) w.heap.size rfl (.tmp 93) (.tmp 100) 27 31 (.agg #[(.int .i64 0), (.int .i64 0)]) 16 rfl Tryd.underlying27 info31 rfl (by decide) (by omega) u12 x12_2 (⟨x13_2, rd x5_4 x13_2⟩ : S31) [.int .i64 x13_2, .int .i64 (rd x5_4 x13_2)] (fun _ => True) (fun _ => False) rfl rfl ?aP (fun _ hk => hk.elim) ?aF ?aO ?aB ?aS ?aL ?_; (case aP => exact k31_mkM _ _ _ (⟨x13_2, rd x5_4 x13_2⟩ : S31)); (case aB => exact (mvB HB)); (case aF => exact (fun _ _ => trivial)); (case aO => exact (mvR HO_12)); (case aS => exact (below_size (mvB HB))); (case aL => have := LMc43.out; omega); intro v154 w45 ho hb hg hat; rw [← Ny153.out] at ho; have n0_ := Aside0.mk (Kd.R_over' (mvR HO_5) (Kd.R_typed (mvR HO_12)) (by decide) hg); have n1_ := Aside0.mk (hb); have n2_ := Aside0.mk (ho); clear HO_5; clear HB; clear HO_12; have HO_5 := n0_; have HB := n1_; have HO155 := n2_; clear n0_ n1_ n2_; clear ho hb hg hat))
            go_roundg k2
            case measure => have := HJ4.out; have := HK2.out; omega
            case rel => exact ⟨(y153), (wrap64 (x13_2 + 1)), (by first | rfl | (simp; done) | (simp [*]; done)), H', ⟨by have := HJ4.out; have := HK2.out; omega⟩, ⟨mvR HO_5⟩, ⟨mvR HO155⟩, ⟨mvB HB⟩⟩
           ·rw [if_neg c43] at H
            exact absurd H (by simp)
          ·rw [if_neg c42] at H
           have c42b0 : decide (0 < (rd x5_4 x13_2)) = false := decide_eq_false c42
           clear c42
           have H' := Aside0.mk H
           clear H
           obtain ⟨Ao46, co46, eo46⟩ := Kd.R_slice HO_5.out
           subst eo46
           obtain ⟨ad151, e151, hx151_0, p151, q151⟩ := atI (Kd.R_reads' HO_5.out).2.2 x13_2
           cases e151
           go_wp2
           go_roundg k2
           case measure => have := HJ4.out; have := HK2.out; omega
           case rel => exact ⟨(x12_2), (wrap64 (x13_2 + 1)), (by first | rfl | (simp; done) | (simp [*]; done)), H', ⟨by have := HJ4.out; have := HK2.out; omega⟩, ⟨mvR HO_5⟩, ⟨mvR HO_12⟩, ⟨mvB HB⟩⟩
         ·rw [if_neg c41] at H
          exact absurd H (by simp)
        ·rw [if_neg c40] at H
         exact absurd H (by simp)
       ·rw [if_neg c39] at H
        have c39b0 : decide (x13_2 < (l0.length : Int)) = false := decide_eq_false c39
        clear c39
        obtain rfl := Option.some.inj H
        go_wp2
        go_ret
        exact ⟨_, by first | rfl | (simp [errW_none, errW_some] <;> rfl) | (simp [*, errW_none, errW_some] <;> rfl), mvR HO_12, mvB HB⟩
  ·rw [if_neg c4] at H
   exact absurd H (by simp)
 ·rw [if_neg c3] at H
  exact absurd H (by simp)

end Go.Proofs.YtiogpnefnapfeaaDoor.X
