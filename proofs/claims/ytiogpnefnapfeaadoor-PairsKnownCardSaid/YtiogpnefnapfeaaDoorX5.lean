-- by xprint.py: the kit's printer over texts of this session
import Derived.Test.YtiogpnefnapfeaaDoorX0
import Derived.Test.YtiogpnefnapfeaaDoorX3
import Derived.Test.YtiogpnefnapfeaaDoorX4
namespace Go.Proofs.YtiogpnefnapfeaaDoor.X
open Go.RowKit Go.Proofs.YtiogpnefnapfeaaDoorW.PrintWords Go.Proofs.YtiogpnefnapfeaaDoorW.PrintLast Go.Proofs.YtiogpnefnapfeaaDoorW.PrintMore
attribute [local go_sem] max2_int min2_int max_two min_two max_three min_three max_four min_four   -- for this text's walks alone
set_option linter.unusedVariables false
set_option linter.unusedSimpArgs false

/-! ### selvedgeref17_set: function 27 -/
mutual
def selvedgeref17_set.l0 : Nat → List Int → List Int → Int → Int → Option (List Int)
 | 0, _, _, _, _ => none
 | k + 1, x0, x1, x3, x8 => if x8 < (x0.length : Int) then (if 0 ≤ x8 then (if (rd x0 x8) = 10 then (selvedgeref17_set.j1 k x0 x1 x3 x8 true) else (if x8 < (x1.length : Int) then (selvedgeref17_set.j1 k x0 x1 x3 x8 ((rd x1 x8) == 9)) else (none))) else (none)) else (selvedgeref17_set.j1 k x0 x1 x3 x8 false)
def selvedgeref17_set.j1 : Nat → List Int → List Int → Int → Int → Bool → Option (List Int)
 | 0, _, _, _, _, _ => none
 | k + 1, x0, x1, x3, x8, x32 => if x32 = true then (if 0 ≤ x8 then (if x8 < (x0.length : Int) then (if (rd x0 x8) = 10 then (selvedgeref17_set.l0 k x0 x1 x3 (wrap64 (x8 + 1))) else (selvedgeref17_set.l0 k (x0.set (x8 : Int).toNat x3) x1 x3 (wrap64 (x8 + 1)))) else (none)) else (none)) else (some x0)
end
def selvedgeref17_set.f (k : Nat) (l0 : List Int) (l1 : List Int) (a2 : Int) (a3 : Int) : Option (List Int) := if 0 ≤ a2 then (if a2 < (l0.length : Int) then (selvedgeref17_set.l0 k (l0.set (a2 : Int).toNat a3) l1 a3 (wrap64 (a2 + 1))) else (none)) else (none)
theorem selvedgeref17_set.mono_l : ∀ k, (∀ y0 y1 y2 y3, LeO (selvedgeref17_set.l0 k y0 y1 y2 y3) (selvedgeref17_set.l0 (k + 1) y0 y1 y2 y3)) ∧ (∀ y0 y1 y2 y3 y4, LeO (selvedgeref17_set.j1 k y0 y1 y2 y3 y4) (selvedgeref17_set.j1 (k + 1) y0 y1 y2 y3 y4))
 | 0 => ⟨fun _ _ _ _ r h => by simp [selvedgeref17_set.l0] at h, fun _ _ _ _ _ r h => by simp [selvedgeref17_set.j1] at h⟩
 | k + 1 => by
  obtain ⟨ih0, ih1⟩ := selvedgeref17_set.mono_l k
  refine ⟨?_, ?_⟩
  ·intro y0 y1 y2 y3
   unfold selvedgeref17_set.l0
   repeat' first
   | (with_reducible exact ih0 _ _ _ _)
   | (with_reducible exact ih1 _ _ _ _ _)
   | (with_reducible exact LeO.refl _)
   | (with_reducible exact LeO.none _)
   | (with_reducible refine LeO.ite ?_ ?_)
   | (with_reducible refine LeO.bind ?_ (fun _ => ?_))
   | exact ih0 _ _ _ _
   | exact ih1 _ _ _ _ _
   | exact LeO.none _
   | refine LeO.ite ?_ ?_
   | refine LeO.bind ?_ (fun _ => ?_)
  ·intro y0 y1 y2 y3 y4
   unfold selvedgeref17_set.j1
   repeat' first
   | (with_reducible exact ih0 _ _ _ _)
   | (with_reducible exact ih1 _ _ _ _ _)
   | (with_reducible exact LeO.refl _)
   | (with_reducible exact LeO.none _)
   | (with_reducible refine LeO.ite ?_ ?_)
   | (with_reducible refine LeO.bind ?_ (fun _ => ?_))
   | exact ih0 _ _ _ _
   | exact ih1 _ _ _ _ _
   | exact LeO.none _
   | refine LeO.ite ?_ ?_
   | refine LeO.bind ?_ (fun _ => ?_)
theorem selvedgeref17_set.mono : ∀ a0 a1 a2 a3 k, LeO (selvedgeref17_set.f k a0 a1 a2 a3) (selvedgeref17_set.f (k + 1) a0 a1 a2 a3) := by
 intro a0 a1 a2 a3 k
 obtain ⟨ih0, ih1⟩ := selvedgeref17_set.mono_l k
 unfold selvedgeref17_set.f
 repeat' first
   | (with_reducible exact ih0 _ _ _ _)
   | (with_reducible exact ih1 _ _ _ _ _)
   | (with_reducible exact LeO.refl _)
   | (with_reducible exact LeO.none _)
   | (with_reducible refine LeO.ite ?_ ?_)
   | (with_reducible refine LeO.bind ?_ (fun _ => ?_))
   | exact ih0 _ _ _ _
   | exact ih1 _ _ _ _ _
   | exact LeO.none _
   | refine LeO.ite ?_ ?_
   | refine LeO.bind ?_ (fun _ => ?_)
set_option maxHeartbeats 8000000 in
set_option maxRecDepth 100000 in
theorem selvedgeref17_set.calls (k : Nat) (P0_ : Nat → Prop) (u9000_ : Value) (l0 : List Int) (A1 : Option Addr) (c1 : Nat) (l1 : List Int) (a2 : Int) (a3 : Int) (r : List Int) (w0 w : World) (hB : Below w0.heap.size w0 w) (ho0 : Kd.R (Kd.int .u8) 33 w w0.heap.size P0_ u9000_ l0) (hr1 : ∀ W_, Kept w W_ (fun k_ => P0_ k_) → Kd.C (Kd.int .u8) W_ A1 l1.length l1) (hc1 : l1.length ≤ c1) (h : selvedgeref17_set.f k l0 l1 a2 a3 = some r) :
  Calls Tryd.prog 27 #[u9000_, .slice A1 l1.length c1, .int .i64 a2, .int .u8 a3] w fun e w' => e = .returned (.tuple #[]) ∧ Kd.R (Kd.int .u8) 33 w' w0.heap.size (fun k_ => (P0_ k_ ∨ w.heap.size ≤ k_)) u9000_ r ∧ Below w0.heap.size w0 w' ∧ Kept w w' (fun k_ => P0_ k_) := by
 have HO0 := Aside0.mk (show Kd.R (Kd.int .u8) 33 w w0.heap.size (fun k_ => (P0_ k_ ∨ w.heap.size ≤ k_)) u9000_ l0 from Kd.R_mono ho0 (fun k_ hk => (.inl hk)))
 have HR1 := Aside0.mk hr1
 have HC1 := Aside0.mk hc1
 clear hr1 hc1
 have HK := Aside0.mk (Kept.refl w (fun k_ => P0_ k_))
 have HW0 := Aside0.mk hB.size
 have HB := Aside0.mk hB
 clear hB
 have H : (if 0 ≤ a2 then (if a2 < (l0.length : Int) then (selvedgeref17_set.l0 k (l0.set (a2 : Int).toNat a3) l1 a3 (wrap64 (a2 + 1))) else (none)) else (none)) = some r := h
 clear h
 by_cases c5 : 0 ≤ a2
 ·rw [if_pos c5] at H
  have c5b0 : decide (0 ≤ a2) = true := decide_eq_true c5
  clear c5
  by_cases c6 : a2 < (l0.length : Int)
  ·rw [if_pos c6] at H
   have c6b0 : decide (a2 < (l0.length : Int)) = true := decide_eq_true c6
   clear c6
   obtain ⟨y174, hy174⟩ : ∃ y_ : List Int, y_ = (l0.set (a2 : Int).toNat a3) := ⟨_, rfl⟩
   replace H : (selvedgeref17_set.l0 k y174 l1 a3 (wrap64 (a2 + 1))) = some r := by first | (rw [hy174]; with_reducible exact H) | (have H2_ := (Option.bind_some _ _).symm.trans H; rw [hy174]; with_reducible exact H2_) | (have H2_ := (Option.bind_some _ _).symm.trans H; with_reducible exact H2_) | with_reducible exact H | (rw [hy174]; exact H) | exact H
   have Ny174 := Aside0.mk hy174
   clear hy174
   have H' := Aside0.mk H
   clear H
   have p7 := dT (0 ≤ (a2 : Int))
   have q7 : (a2 : Int) < ((l0.length : Int) : Int) := of_decide_eq_true (by first | (with_reducible assumption) | assumption)
   obtain ⟨go7, co7, eo7, gb7, gl7, cl7, HG7⟩ := Kd.R_form HO0.out (by omega)
   (first | cases eo7 | (injection eo7 with ea_ en_ ec_; (first | subst ea_ | (injection ea_ with ea_; subst ea_)); subst ec_; clear en_))
   have GB7 := Aside0.mk gb7
   have GG7 := Aside0.mk HG7
   clear gb7 gl7 HG7
   have HMgo7 := Aside0.mk (show (P0_ go7 ∨ w.heap.size ≤ go7) from (HO0.out.1 _ rfl))
   obtain ⟨hx7_0, hf7_0⟩ := Kd.R_celln 0 HO0.out (a2 : Int) p7 q7
   replace p7 := eq_true p7
   replace q7 := eq_true q7
   have HP8 := Kd.R_putg HO0.out (a2 : Int) a3
   go_enter Tryd.func27, Tryd.ntmps27
   go_wp2_with (first | ((with_reducible refine gate_store (t := 33) (p := 12) rfl ?_); refine store_event (t := 33) (p := 12) (v := ?vo_w9) (w1 := (w.setCell ⟨go7, (a2 : Int).toNat, none⟩ (.int .u8 a3))) ?hg ?ho ?hn ?hr ?_; (case ho => rfl); (case hg => rfl); (case hn => rfl); (case hr => first | (go_simp; done) | (go_simp; rfl)); intro w9 hw; have hg : w.grownBy w9 (some go7) := (by rw [hw]; exact HP8.2); have hp_ : Kd.R (Kd.int .u8) 33 w9 w0.heap.size (fun k_ => (P0_ k_ ∨ w.heap.size ≤ k_)) (.slice (some ⟨go7, 0, none⟩) l0.length co7) y174 := (by rw [hw, Ny174.out]; exact HP8.1); clear HP8; have n0_ := Aside0.mk (hp_); have n1_ := Aside0.mk ((by rw [hw]; exact below_set (HB.out) GB7.out : Below w0.heap.size w0 w9)); have n2_ := Aside0.mk (Kept.of_grown (S := (fun k_ => P0_ k_)) hg (by repeat (first | (with_reducible first | exact HK.out | apply Kept.alloc | apply Kept.drewN | apply Kept.drew) | exact HK.out)) (fun k_ e_ => (HO0.out.1 k_ e_))); clear HO0; clear HB; clear HK; have HO0 := n0_; have HB := n1_; have HK := n2_; clear n0_ n1_ n2_; clear hg hw hp_))
   go_loopg [8] k (fun kq v8 w' => ∃ (x0_1 : List Int) (x8_1 : Int), v8 = .int .i64 x8_1 ∧ Aside0 (selvedgeref17_set.l0 kq x0_1 l1 a3 x8_1 = some r) ∧ Aside0 (kq ≤ k) ∧ Aside0 (Kd.R (Kd.int .u8) 33 w' w0.heap.size (fun k_ => (P0_ k_ ∨ w.heap.size ≤ k_)) (.slice (some ⟨go7, 0, none⟩) l0.length co7) x0_1) ∧ Aside0 (Kept w w' (fun k_ => P0_ k_)) ∧ Aside0 (Below w0.heap.size w0 w'))
   case atStart => exact ⟨(y174), (wrap64 (a2 + 1)), (by first | rfl | (simp; done) | (simp [*]; done)), H', ⟨Nat.le_refl _⟩, ⟨mvR HO0⟩, ⟨by repeat (first | (with_reducible first | exact HK.out | apply Kept.alloc | apply Kept.drewN | apply Kept.drew) | exact HK.out)⟩, ⟨mvB HB⟩⟩
   case round =>
    clear H'
    try clear c1
    try clear c2
    try clear p2
    try clear c5
    try clear c5b0
    try clear c6
    try clear c6b0
    try clear p6
    try clear p7
    try clear q7
    try clear hx7
    try clear hf7
    try clear hx7_0
    try clear p7
    try clear q7
    obtain ⟨x0_1, x8_1, rfl, HA, HK1, HO_0, HK, HB⟩ := hrel
    have hl0_1 := (Kd.R_reads' HO_0.out).1
    rw [hl0_1] at HO_0
    (try simp only [hl0_1])
    cases gk with
    | zero => exact absurd HA.out (by simp [selvedgeref17_set.l0])
    | succ k1 =>
     have H := HA.out
     clear HA
     simp only [selvedgeref17_set.l0] at H
     have HC10 := Aside0.mk H
     clear H
     go_upto_region 2 with (fail)
     go_cut [32] (fun v32 wc => ∃ (kq : Nat) (x32_9 : Bool), v32 = .bool x32_9 ∧ Aside0 (selvedgeref17_set.j1 kq x0_1 l1 a3 x8_1 x32_9 = some r) ∧ Aside0 (kq ≤ k1) ∧ Aside0 (Kd.R (Kd.int .u8) 33 wc w0.heap.size (fun k_ => (P0_ k_ ∨ w.heap.size ≤ k_)) (.slice (some ⟨go7, 0, none⟩) x0_1.length co7) x0_1) ∧ Aside0 (Kept w wc (fun k_ => P0_ k_)) ∧ Aside0 (Below w0.heap.size w0 wc))
     case first =>
      have H := HC10.out
      clear HC10
      by_cases c11 : x8_1 < (x0_1.length : Int)
      ·rw [if_pos c11] at H
       have c11b0 : decide (x8_1 < (x0_1.length : Int)) = true := decide_eq_true c11
       clear c11
       (first | rw [c11b0] | (simp only [i64_w, i32_w]; rw [c11b0]) | skip)
       by_cases c12 : 0 ≤ x8_1
       ·rw [if_pos c12] at H
        have c12b0 : decide (0 ≤ x8_1) = true := decide_eq_true c12
        clear c12
        by_cases c13 : (rd x0_1 x8_1) = 10
        ·rw [if_pos c13] at H
         have c13b0 : ((rd x0_1 x8_1) == 10) = true := beq_iff_eq.mpr c13
         have c13b1 : ((rd x0_1 x8_1) != 10) = false := bne_eq_false_iff_eq.mpr c13
         clear c13
         have H' := Aside0.mk H
         clear H
         have p175 := dT (0 ≤ (x8_1 : Int))
         have q175 := dT (x8_1 < (x0_1.length : Int))
         obtain ⟨ad175, e175, hx175_0⟩ := Kd.at_int (Kd.R_reads' HO_0.out).2.2 x8_1 p175 q175
         obtain rfl : (⟨go7, 0, none⟩ : Addr) = ad175 := (by injection e175)
         (first | simp only [add_plain] at hx175_0 | simp only [add_at] at hx175_0 | simp only [Addr.add, Nat.zero_add] at hx175_0 | skip)
         replace p175 := eq_true p175
         replace q175 := eq_true q175
         go_wp2
         go_meet
         case rel => exact ⟨_, (true), (by first | rfl | (simp; done) | (simp [*]; done)), H', ⟨by have := HK1.out; first | omega | exact Nat.le_refl _⟩, ⟨by (try simp only [hl0_1]); (with_reducible repeat (first | apply Kd.R_alloc | apply Kd.R_drewN | apply Kd.R_drew)); exact HO_0.out⟩, ⟨by repeat (first | (with_reducible first | exact HK.out | apply Kept.alloc | apply Kept.drewN | apply Kept.drew) | exact HK.out)⟩, ⟨mvB HB⟩⟩
        ·rw [if_neg c13] at H
         have c13b0 : ((rd x0_1 x8_1) == 10) = false := beq_eq_false_iff_ne.mpr c13
         have c13b1 : ((rd x0_1 x8_1) != 10) = true := bne_iff_ne.mpr c13
         by_cases c14 : x8_1 < (l1.length : Int)
         ·rw [if_pos c14] at H
          have c14b0 : decide (x8_1 < (l1.length : Int)) = true := decide_eq_true c14
          clear c14
          have H' := Aside0.mk H
          clear H
          have p175 := dT (0 ≤ (x8_1 : Int))
          have q175 := dT (x8_1 < (x0_1.length : Int))
          obtain ⟨ad175, e175, hx175_0⟩ := Kd.at_int (Kd.R_reads' HO_0.out).2.2 x8_1 p175 q175
          obtain rfl : (⟨go7, 0, none⟩ : Addr) = ad175 := (by injection e175)
          (first | simp only [add_plain] at hx175_0 | simp only [add_at] at hx175_0 | simp only [Addr.add, Nat.zero_add] at hx175_0 | skip)
          replace p175 := eq_true p175
          replace q175 := eq_true q175
          obtain ⟨ad176, e176, hx176_0, p176, q176⟩ := atI (Kd.C_kept_now HR1.out HK.out) x8_1
          cases e176
          go_wp2
          go_meet
          case rel => exact ⟨_, (((rd l1 x8_1) == 9)), (by first | rfl | (simp; done) | (simp [*]; done)), H', ⟨by have := HK1.out; first | omega | exact Nat.le_refl _⟩, ⟨by (try simp only [hl0_1]); (with_reducible repeat (first | apply Kd.R_alloc | apply Kd.R_drewN | apply Kd.R_drew)); exact HO_0.out⟩, ⟨by repeat (first | (with_reducible first | exact HK.out | apply Kept.alloc | apply Kept.drewN | apply Kept.drew) | exact HK.out)⟩, ⟨mvB HB⟩⟩
         ·rw [if_neg c14] at H
          exact absurd H (by simp)
       ·rw [if_neg c12] at H
        exact absurd H (by simp)
      ·rw [if_neg c11] at H
       have c11b0 : decide (x8_1 < (x0_1.length : Int)) = false := decide_eq_false c11
       clear c11
       (first | rw [c11b0] | (simp only [i64_w, i32_w]; rw [c11b0]) | skip)
       have H' := Aside0.mk H
       clear H
       go_wp2
       go_meet
       case rel => exact ⟨_, (false), (by first | rfl | (simp; done) | (simp [*]; done)), H', ⟨by have := HK1.out; first | omega | exact Nat.le_refl _⟩, ⟨by (try simp only [hl0_1]); (with_reducible repeat (first | apply Kd.R_alloc | apply Kd.R_drewN | apply Kd.R_drew)); exact HO_0.out⟩, ⟨by repeat (first | (with_reducible first | exact HK.out | apply Kept.alloc | apply Kept.drewN | apply Kept.drew) | exact HK.out)⟩, ⟨mvB HB⟩⟩
     case rest =>
      clear HC10
      try clear c1
      try clear p1
      try clear q1
      try clear hx1
      try clear c2
      try clear p2
      try clear c5
      try clear c5b0
      try clear c6
      try clear c6b0
      try clear p6
      try clear p7
      try clear q7
      try clear hx7
      try clear hf7
      try clear c11
      try clear c11b0
      try clear c12
      try clear c12b0
      try clear c13
      try clear c13b0
      try clear c13b1
      try clear c14
      try clear c14b0
      try clear hx175_0
      try clear hx176_0
      try clear hx7_0
      try clear p175
      try clear p176
      try clear p2
      try clear p6
      try clear p7
      try clear q175
      try clear q176
      try clear q7
      obtain ⟨kq, x32_9, rfl, HA, HJ9, HO_0, HK, HB⟩ := hcut
      cases kq with
      | zero => exact absurd HA.out (by simp [selvedgeref17_set.j1])
      | succ kj9 =>
       have H := HA.out
       clear HA
       simp only [selvedgeref17_set.j1] at H
       by_cases c15 : x32_9 = true
       ·subst c15
        have H1 : (if 0 ≤ x8_1 then (if x8_1 < (x0_1.length : Int) then (if (rd x0_1 x8_1) = 10 then (selvedgeref17_set.l0 kj9 x0_1 l1 a3 (wrap64 (x8_1 + 1))) else (selvedgeref17_set.l0 kj9 (x0_1.set (x8_1 : Int).toNat a3) l1 a3 (wrap64 (x8_1 + 1)))) else (none)) else (none)) = some r := by rw [if_pos rfl] at H; exact H
        clear H
        have H := H1
        clear H1
        by_cases c16 : 0 ≤ x8_1
        ·rw [if_pos c16] at H
         have c16b0 : decide (0 ≤ x8_1) = true := decide_eq_true c16
         clear c16
         by_cases c17 : x8_1 < (x0_1.length : Int)
         ·rw [if_pos c17] at H
          have c17b0 : decide (x8_1 < (x0_1.length : Int)) = true := decide_eq_true c17
          clear c17
          by_cases c18 : (rd x0_1 x8_1) = 10
          ·rw [if_pos c18] at H
           have c18b0 : ((rd x0_1 x8_1) == 10) = true := beq_iff_eq.mpr c18
           have c18b1 : ((rd x0_1 x8_1) != 10) = false := bne_eq_false_iff_eq.mpr c18
           clear c18
           have H' := Aside0.mk H
           clear H
           have p177 := dT (0 ≤ (x8_1 : Int))
           have q177 := dT (x8_1 < (x0_1.length : Int))
           obtain ⟨ad177, e177, hx177_0⟩ := Kd.at_int (Kd.R_reads' HO_0.out).2.2 x8_1 p177 q177
           obtain rfl : (⟨go7, 0, none⟩ : Addr) = ad177 := (by injection e177)
           (first | simp only [add_plain] at hx177_0 | simp only [add_at] at hx177_0 | simp only [Addr.add, Nat.zero_add] at hx177_0 | skip)
           replace p177 := eq_true p177
           replace q177 := eq_true q177
           go_wp2
           (try simp only [← hl0_1])
           go_roundg kj9
           case measure => have := HK1.out; have := HJ9.out; omega
           case rel => exact ⟨(x0_1), (wrap64 (x8_1 + 1)), (by first | rfl | (simp; done) | (simp [*]; done)), H', ⟨by have := HK1.out; have := HJ9.out; omega⟩, ⟨by (try simp only [hl0_1]); (with_reducible repeat (first | apply Kd.R_alloc | apply Kd.R_drewN | apply Kd.R_drew)); exact HO_0.out⟩, ⟨by repeat (first | (with_reducible first | exact HK.out | apply Kept.alloc | apply Kept.drewN | apply Kept.drew) | exact HK.out)⟩, ⟨mvB HB⟩⟩
          ·rw [if_neg c18] at H
           have c18b0 : ((rd x0_1 x8_1) == 10) = false := beq_eq_false_iff_ne.mpr c18
           have c18b1 : ((rd x0_1 x8_1) != 10) = true := bne_iff_ne.mpr c18
           obtain ⟨y178, hy178⟩ : ∃ y_ : List Int, y_ = (x0_1.set (x8_1 : Int).toNat a3) := ⟨_, rfl⟩
           replace H : (selvedgeref17_set.l0 kj9 y178 l1 a3 (wrap64 (x8_1 + 1))) = some r := by first | (rw [hy178]; with_reducible exact H) | (have H2_ := (Option.bind_some _ _).symm.trans H; rw [hy178]; with_reducible exact H2_) | (have H2_ := (Option.bind_some _ _).symm.trans H; with_reducible exact H2_) | with_reducible exact H | (rw [hy178]; exact H) | exact H
           have Ny178 := Aside0.mk hy178
           clear hy178
           have H' := Aside0.mk H
           clear H
           have p177 := dT (0 ≤ (x8_1 : Int))
           have q177 := dT (x8_1 < (x0_1.length : Int))
           obtain ⟨ad177, e177, hx177_0⟩ := Kd.at_int (Kd.R_reads' HO_0.out).2.2 x8_1 p177 q177
           obtain rfl : (⟨go7, 0, none⟩ : Addr) = ad177 := (by injection e177)
           (first | simp only [add_plain] at hx177_0 | simp only [add_at] at hx177_0 | simp only [Addr.add, Nat.zero_add] at hx177_0 | skip)
           replace p177 := eq_true p177
           replace q177 := eq_true q177
           have p19 := dT (0 ≤ (x8_1 : Int))
           have q19 : (x8_1 : Int) < ((x0_1.length : Int) : Int) := of_decide_eq_true (by first | (with_reducible assumption) | assumption)
           obtain ⟨hx19_0, hf19_0⟩ := Kd.R_celln 0 HO_0.out (x8_1 : Int) p19 q19
           replace p19 := eq_true p19
           replace q19 := eq_true q19
           have HP20 := Kd.R_putg HO_0.out (x8_1 : Int) a3
           go_wp2_with (first | ((with_reducible refine gate_store (t := 33) (p := 43) rfl ?_); refine store_event (t := 33) (p := 43) (v := ?vo_w21) (w1 := (wc.setCell ⟨go7, (x8_1 : Int).toNat, none⟩ (.int .u8 a3))) ?hg ?ho ?hn ?hr ?_; (case ho => rfl); (case hg => rfl); (case hn => rfl); (case hr => first | (go_simp; done) | (go_simp; rfl)); intro w21 hw; have hg : wc.grownBy w21 (some go7) := (by rw [hw]; exact HP20.2); have hp_ : Kd.R (Kd.int .u8) 33 w21 w0.heap.size (fun k_ => (P0_ k_ ∨ w.heap.size ≤ k_)) (.slice (some ⟨go7, 0, none⟩) x0_1.length co7) y178 := (by rw [hw, Ny178.out]; exact HP20.1); clear HP20; have n0_ := Aside0.mk (hp_); have n1_ := Aside0.mk ((by rw [hw]; exact below_set (HB.out) GB7.out : Below w0.heap.size w0 w21)); have n2_ := Aside0.mk (Kept.of_grown (S := (fun k_ => P0_ k_)) hg (by repeat (first | (with_reducible first | exact HK.out | apply Kept.alloc | apply Kept.drewN | apply Kept.drew) | exact HK.out)) (fun k_ e_ => (HO_0.out.1 k_ e_))); clear HO_0; clear HB; clear HK; have HO_0 := n0_; have HB := n1_; have HK := n2_; clear n0_ n1_ n2_; clear hg hw hp_))
           (try simp only [← hl0_1])
           go_roundg kj9
           case measure => have := HK1.out; have := HJ9.out; omega
           case rel => exact ⟨(y178), (wrap64 (x8_1 + 1)), (by first | rfl | (simp; done) | (simp [*]; done)), H', ⟨by have := HK1.out; have := HJ9.out; omega⟩, ⟨by (try simp only [hl0_1]); (with_reducible repeat (first | apply Kd.R_alloc | apply Kd.R_drewN | apply Kd.R_drew)); exact HO_0.out⟩, ⟨by repeat (first | (with_reducible first | exact HK.out | apply Kept.alloc | apply Kept.drewN | apply Kept.drew) | exact HK.out)⟩, ⟨mvB HB⟩⟩
         ·rw [if_neg c17] at H
          exact absurd H (by simp)
        ·rw [if_neg c16] at H
         exact absurd H (by simp)
       ·replace c15 := Bool.eq_false_iff.mpr c15
        subst c15
        have H1 : (some x0_1) = some r := by rw [if_neg (show ¬ (false = true) by decide)] at H; exact H
        clear H
        have H := H1
        clear H1
        obtain rfl := Option.some.inj H
        go_wp2
        first | go_end0 | ((try simp only [Exit.inBlock, Exit.then]); refine bodyPost_ret (results_none rfl _ _ _) rfl ?_)
        exact ⟨by first | rfl | (simp [errW_none, errW_some] <;> rfl) | (simp [*, errW_none, errW_some] <;> rfl), (by first | exact (mvR HO_0) | (simp only [hl0_1]; exact (mvR HO_0))), mvB HB, by repeat (first | (with_reducible first | exact HK.out | apply Kept.alloc | apply Kept.drewN | apply Kept.drew) | exact HK.out)⟩
  ·rw [if_neg c6] at H
   exact absurd H (by simp)
 ·rw [if_neg c5] at H
  exact absurd H (by simp)

/-! ### selvedgeref17_Resolve: function 12 -/
mutual
def selvedgeref17_Resolve.j0 : Nat → List Int → List Int → List Int → Int → Int → Bool → Option (List Int × Int)
 | 0, _, _, _, _, _, _ => none
 | k + 1, x0, x1, x2, x3, x4, x34 => if x34 = true then (some (([] : List Int), 2)) else (if ([] : List Int).length + x2.length < 140737488355328 then ((some (([] : List Int) ++ x2 : List Int)).bind fun y179 => (if (Int.tmod x3 2) = 1 then (selvedgeref17_Resolve.j1 k x0 x1 x2 x4 y179 2 1) else (selvedgeref17_Resolve.j1 k x0 x1 x2 x4 y179 1 2))) else (none))
def selvedgeref17_Resolve.j1 : Nat → List Int → List Int → List Int → Int → List Int → Int → Int → Option (List Int × Int)
 | 0, _, _, _, _, _, _, _ => none
 | k + 1, x0, x1, x2, x4, x12, x13, x14 => (selvedgeref17_Pairs.f k x0 x2).bind fun t182 => (selvedgeref17_Resolve.l0 k x1 x4 x12 x13 x14 t182 0)
def selvedgeref17_Resolve.l0 : Nat → List Int → Int → List Int → Int → Int → List (S31) → Int → Option (List Int × Int)
 | 0, _, _, _, _, _, _, _ => none
 | k + 1, x1, x4, x12, x13, x14, x15, x16 => if x16 < (x15.length : Int) then (if 0 ≤ x16 then (if 0 ≤ (wrap64 (((rd_T31 x15 x16).f0) + 1)) then (if (wrap64 (((rd_T31 x15 x16).f0) + 1)) ≤ ((rd_T31 x15 x16).f1) then (if ((rd_T31 x15 x16).f1) ≤ (x12.length : Int) then ((some ((x12.take (((rd_T31 x15 x16).f1) : Int).toNat).drop ((wrap64 (((rd_T31 x15 x16).f0) + 1)) : Int).toNat : List Int)).bind fun y187 => ((selvedgeref17_among.f k y187 x13).bind fun t191 => (if t191 = true then ((selvedgeref17_set.f k x12 x1 ((rd_T31 x15 x16).f0) x13).bind fun t192 => ((selvedgeref17_set.f k t192 x1 ((rd_T31 x15 x16).f1) x13).bind fun t193 => (selvedgeref17_Resolve.l0 k x1 x4 t193 x13 x14 x15 (wrap64 (x16 + 1))))) else ((selvedgeref17_among.f k y187 x14).bind fun t194 => (if t194 = true then (if 0 ≤ ((rd_T31 x15 x16).f0) then (if ((rd_T31 x15 x16).f0) ≤ (x12.length : Int) then ((selvedgeref17_ahead.f k (x12.take (((rd_T31 x15 x16).f0) : Int).toNat) x4).bind fun t199 => (if t199 = x14 then ((selvedgeref17_set.f k x12 x1 ((rd_T31 x15 x16).f0) x14).bind fun t200 => ((selvedgeref17_set.f k t200 x1 ((rd_T31 x15 x16).f1) x14).bind fun t201 => (selvedgeref17_Resolve.l0 k x1 x4 t201 x13 x14 x15 (wrap64 (x16 + 1))))) else ((selvedgeref17_set.f k x12 x1 ((rd_T31 x15 x16).f0) x13).bind fun t202 => ((selvedgeref17_set.f k t202 x1 ((rd_T31 x15 x16).f1) x13).bind fun t203 => (selvedgeref17_Resolve.l0 k x1 x4 t203 x13 x14 x15 (wrap64 (x16 + 1))))))) else (none)) else (none)) else (selvedgeref17_Resolve.l0 k x1 x4 x12 x13 x14 x15 (wrap64 (x16 + 1)))))))) else (none)) else (none)) else (none)) else (none)) else (some (x12, 0))
end
def selvedgeref17_Resolve.f (k : Nat) (l0 : List Int) (l1 : List Int) (l2 : List Int) (a3 : Int) (a4 : Int) : Option (List Int × Int) := if (l0.length : Int) > 65536 then (some (([] : List Int), 3)) else (if (l1.length : Int) = (l0.length : Int) then (selvedgeref17_Resolve.j0 k l0 l1 l2 a3 a4 ((l2.length : Int) != (l0.length : Int))) else (selvedgeref17_Resolve.j0 k l0 l1 l2 a3 a4 true))
theorem selvedgeref17_Resolve.mono_l : ∀ k, (∀ y0 y1 y2 y3 y4 y5, LeO (selvedgeref17_Resolve.j0 k y0 y1 y2 y3 y4 y5) (selvedgeref17_Resolve.j0 (k + 1) y0 y1 y2 y3 y4 y5)) ∧ (∀ y0 y1 y2 y3 y4 y5 y6, LeO (selvedgeref17_Resolve.j1 k y0 y1 y2 y3 y4 y5 y6) (selvedgeref17_Resolve.j1 (k + 1) y0 y1 y2 y3 y4 y5 y6)) ∧ (∀ y0 y1 y2 y3 y4 y5 y6, LeO (selvedgeref17_Resolve.l0 k y0 y1 y2 y3 y4 y5 y6) (selvedgeref17_Resolve.l0 (k + 1) y0 y1 y2 y3 y4 y5 y6))
 | 0 => ⟨fun _ _ _ _ _ _ r h => by simp [selvedgeref17_Resolve.j0] at h, fun _ _ _ _ _ _ _ r h => by simp [selvedgeref17_Resolve.j1] at h, fun _ _ _ _ _ _ _ r h => by simp [selvedgeref17_Resolve.l0] at h⟩
 | k + 1 => by
  obtain ⟨ih0, ih1, ih2⟩ := selvedgeref17_Resolve.mono_l k
  refine ⟨?_, ?_, ?_⟩
  ·intro y0 y1 y2 y3 y4 y5
   unfold selvedgeref17_Resolve.j0
   repeat' first
   | (with_reducible exact ih0 _ _ _ _ _ _)
   | (with_reducible exact ih1 _ _ _ _ _ _ _)
   | (with_reducible exact ih2 _ _ _ _ _ _ _)
   | (with_reducible exact selvedgeref17_Pairs.mono _ _ _)
   | (with_reducible exact selvedgeref17_ahead.mono _ _ _)
   | (with_reducible exact selvedgeref17_among.mono _ _ _)
   | (with_reducible exact selvedgeref17_set.mono _ _ _ _ _)
   | (with_reducible exact LeO.refl _)
   | (with_reducible exact LeO.none _)
   | (with_reducible refine LeO.ite ?_ ?_)
   | (with_reducible refine LeO.bind ?_ (fun _ => ?_))
   | exact ih0 _ _ _ _ _ _
   | exact ih1 _ _ _ _ _ _ _
   | exact ih2 _ _ _ _ _ _ _
   | exact selvedgeref17_Pairs.mono _ _ _
   | exact selvedgeref17_ahead.mono _ _ _
   | exact selvedgeref17_among.mono _ _ _
   | exact selvedgeref17_set.mono _ _ _ _ _
   | exact LeO.none _
   | refine LeO.ite ?_ ?_
   | refine LeO.bind ?_ (fun _ => ?_)
  ·intro y0 y1 y2 y3 y4 y5 y6
   unfold selvedgeref17_Resolve.j1
   repeat' first
   | (with_reducible exact ih0 _ _ _ _ _ _)
   | (with_reducible exact ih1 _ _ _ _ _ _ _)
   | (with_reducible exact ih2 _ _ _ _ _ _ _)
   | (with_reducible exact selvedgeref17_Pairs.mono _ _ _)
   | (with_reducible exact selvedgeref17_ahead.mono _ _ _)
   | (with_reducible exact selvedgeref17_among.mono _ _ _)
   | (with_reducible exact selvedgeref17_set.mono _ _ _ _ _)
   | (with_reducible exact LeO.refl _)
   | (with_reducible exact LeO.none _)
   | (with_reducible refine LeO.ite ?_ ?_)
   | (with_reducible refine LeO.bind ?_ (fun _ => ?_))
   | exact ih0 _ _ _ _ _ _
   | exact ih1 _ _ _ _ _ _ _
   | exact ih2 _ _ _ _ _ _ _
   | exact selvedgeref17_Pairs.mono _ _ _
   | exact selvedgeref17_ahead.mono _ _ _
   | exact selvedgeref17_among.mono _ _ _
   | exact selvedgeref17_set.mono _ _ _ _ _
   | exact LeO.none _
   | refine LeO.ite ?_ ?_
   | refine LeO.bind ?_ (fun _ => ?_)
  ·intro y0 y1 y2 y3 y4 y5 y6
   unfold selvedgeref17_Resolve.l0
   repeat' first
   | (with_reducible exact ih0 _ _ _ _ _ _)
   | (with_reducible exact ih1 _ _ _ _ _ _ _)
   | (with_reducible exact ih2 _ _ _ _ _ _ _)
   | (with_reducible exact selvedgeref17_Pairs.mono _ _ _)
   | (with_reducible exact selvedgeref17_ahead.mono _ _ _)
   | (with_reducible exact selvedgeref17_among.mono _ _ _)
   | (with_reducible exact selvedgeref17_set.mono _ _ _ _ _)
   | (with_reducible exact LeO.refl _)
   | (with_reducible exact LeO.none _)
   | (with_reducible refine LeO.ite ?_ ?_)
   | (with_reducible refine LeO.bind ?_ (fun _ => ?_))
   | exact ih0 _ _ _ _ _ _
   | exact ih1 _ _ _ _ _ _ _
   | exact ih2 _ _ _ _ _ _ _
   | exact selvedgeref17_Pairs.mono _ _ _
   | exact selvedgeref17_ahead.mono _ _ _
   | exact selvedgeref17_among.mono _ _ _
   | exact selvedgeref17_set.mono _ _ _ _ _
   | exact LeO.none _
   | refine LeO.ite ?_ ?_
   | refine LeO.bind ?_ (fun _ => ?_)
theorem selvedgeref17_Resolve.mono : ∀ a0 a1 a2 a3 a4 k, LeO (selvedgeref17_Resolve.f k a0 a1 a2 a3 a4) (selvedgeref17_Resolve.f (k + 1) a0 a1 a2 a3 a4) := by
 intro a0 a1 a2 a3 a4 k
 obtain ⟨ih0, ih1, ih2⟩ := selvedgeref17_Resolve.mono_l k
 unfold selvedgeref17_Resolve.f
 repeat' first
   | (with_reducible exact ih0 _ _ _ _ _ _)
   | (with_reducible exact ih1 _ _ _ _ _ _ _)
   | (with_reducible exact ih2 _ _ _ _ _ _ _)
   | (with_reducible exact selvedgeref17_Pairs.mono _ _ _)
   | (with_reducible exact selvedgeref17_ahead.mono _ _ _)
   | (with_reducible exact selvedgeref17_among.mono _ _ _)
   | (with_reducible exact selvedgeref17_set.mono _ _ _ _ _)
   | (with_reducible exact LeO.refl _)
   | (with_reducible exact LeO.none _)
   | (with_reducible refine LeO.ite ?_ ?_)
   | (with_reducible refine LeO.bind ?_ (fun _ => ?_))
   | exact ih0 _ _ _ _ _ _
   | exact ih1 _ _ _ _ _ _ _
   | exact ih2 _ _ _ _ _ _ _
   | exact selvedgeref17_Pairs.mono _ _ _
   | exact selvedgeref17_ahead.mono _ _ _
   | exact selvedgeref17_among.mono _ _ _
   | exact selvedgeref17_set.mono _ _ _ _ _
   | exact LeO.none _
   | refine LeO.ite ?_ ?_
   | refine LeO.bind ?_ (fun _ => ?_)
set_option maxHeartbeats 8000000 in
set_option maxRecDepth 100000 in
theorem selvedgeref17_Resolve.calls (k : Nat) (A0 : Option Addr) (c0 : Nat) (l0 : List Int) (A1 : Option Addr) (c1 : Nat) (l1 : List Int) (A2 : Option Addr) (c2 : Nat) (l2 : List Int) (a3 : Int) (a4 : Int) (r1 : List Int) (r2 : Int) (w : World) (hr0 : Kd.C (Kd.int .i32) w A0 l0.length l0) (hc0 : l0.length ≤ c0) (hr1 : Kd.C (Kd.int .u8) w A1 l1.length l1) (hc1 : l1.length ≤ c1) (hr2 : Kd.C (Kd.int .u8) w A2 l2.length l2) (hc2 : l2.length ≤ c2) (h : selvedgeref17_Resolve.f k l0 l1 l2 a3 a4 = some (r1, r2)) :
  Calls Tryd.prog 12 #[.slice A0 l0.length c0, .slice A1 l1.length c1, .slice A2 l2.length c2, .int .u8 a3, .int .u8 a4] w fun e w' => ∃ v0_ : Value, e = .returned (.tuple #[v0_, .int .i64 r2]) ∧ Kd.R (Kd.int .u8) 33 w' w.heap.size (fun _ => True) v0_ r1 ∧ Below w.heap.size w w' := by
 have hu31 := Tryd.underlying31
 have HR0 := Aside0.mk hr0
 have HC0 := Aside0.mk hc0
 clear hr0 hc0
 have HR1 := Aside0.mk hr1
 have HC1 := Aside0.mk hc1
 clear hr1 hc1
 have HR2 := Aside0.mk hr2
 have HC2 := Aside0.mk hc2
 clear hr2 hc2
 have HB := Aside0.mk (Below.refl w.heap.size w)
 have H : (if (l0.length : Int) > 65536 then (some (([] : List Int), 3)) else (if (l1.length : Int) = (l0.length : Int) then (selvedgeref17_Resolve.j0 k l0 l1 l2 a3 a4 ((l2.length : Int) != (l0.length : Int))) else (selvedgeref17_Resolve.j0 k l0 l1 l2 a3 a4 true))) = some (r1, r2) := h
 clear h
 by_cases c6 : (l0.length : Int) > 65536
 ·rw [if_pos c6] at H
  have c6b0 : decide (65536 < (l0.length : Int)) = true := decide_eq_true c6
  have c6b1 : decide (65536 < l0.length) = true := decide_eq_true (by omega)
  clear c6
  simp only [Option.some.injEq, Prod.mk.injEq] at H
  obtain ⟨rfl, rfl⟩ := H
  go_enter Tryd.func12, Tryd.ntmps12
  go_wp2
  go_ret2
  exact ⟨_, by first | rfl | (simp [errW_none, errW_some] <;> rfl) | (simp [*, errW_none, errW_some] <;> rfl), by first | exact Kd.R_nil _ _ _ _ _ | exact Kd.N_nil _ _ _ _ _ | exact Kd.V_nil _ _ _ _ _ | exact Kd.Q_nil _ _ _ _ _ | exact Kd.S_nil _ _ _ _ _, mvB HB⟩
 ·rw [if_neg c6] at H
  have c6b0 : decide (65536 < (l0.length : Int)) = false := decide_eq_false c6
  have c6b1 : decide (65536 < l0.length) = false := decide_eq_false (by omega)
  clear c6
  have HC7 := Aside0.mk H
  clear H
  go_enter Tryd.func12, Tryd.ntmps12
  go_upto_region 3 with (fail)
  go_cut [34] (fun v34 wc => ∃ (kq : Nat) (x34_6 : Bool), v34 = .bool x34_6 ∧ Aside0 (selvedgeref17_Resolve.j0 kq l0 l1 l2 a3 a4 x34_6 = some (r1, r2)) ∧ Aside0 (kq ≤ k) ∧ Aside0 (Below w.heap.size w wc))
  case first =>
   have H := HC7.out
   clear HC7
   by_cases c8 : (l1.length : Int) = (l0.length : Int)
   ·rw [if_pos c8] at H
    have c8b0 : ((l1.length : Int) == (l0.length : Int)) = true := beq_iff_eq.mpr c8
    have c8b1 : ((l1.length : Int) != (l0.length : Int)) = false := bne_eq_false_iff_eq.mpr c8
    have c8b2 : (l1.length == l0.length) = true := by first | simpa using c8 | (simp at c8 ⊢; omega)
    clear c8
    (first | rw [c8b0] | (simp only [i64_w, i32_w]; rw [c8b0]) | skip)
    have H' := Aside0.mk H
    clear H
    go_wp2
    go_meet
    case rel => exact ⟨_, (((l2.length : Int) != (l0.length : Int))), (by first | rfl | (simp; done) | (simp [*]; done)), H', ⟨by first | omega | exact Nat.le_refl _⟩, ⟨mvB HB⟩⟩
   ·rw [if_neg c8] at H
    have c8b0 : ((l1.length : Int) == (l0.length : Int)) = false := beq_eq_false_iff_ne.mpr c8
    have c8b1 : ((l1.length : Int) != (l0.length : Int)) = true := bne_iff_ne.mpr c8
    have c8b2 : (l1.length == l0.length) = false := by first | simpa using c8 | (simp at c8 ⊢; omega)
    (first | rw [c8b0] | (simp only [i64_w, i32_w]; rw [c8b0]) | skip)
    have H' := Aside0.mk H
    clear H
    go_wp2
    go_meet
    case rel => exact ⟨_, (true), (by first | rfl | (simp; done) | (simp [*]; done)), H', ⟨by first | omega | exact Nat.le_refl _⟩, ⟨mvB HB⟩⟩
  case rest =>
   clear HC7
   try clear c1
   try clear c2
   try clear p2
   try clear c6
   try clear c6b0
   try clear c6b1
   try clear c8
   try clear c8b0
   try clear c8b1
   try clear c8b2
   obtain ⟨kq, x34_6, rfl, HA, HJ6, HB⟩ := hcut
   cases kq with
   | zero => exact absurd HA.out (by simp [selvedgeref17_Resolve.j0])
   | succ kj6 =>
    have H := HA.out
    clear HA
    simp only [selvedgeref17_Resolve.j0] at H
    by_cases c9 : x34_6 = true
    ·subst c9
     have H1 : (some (([] : List Int), 2)) = some (r1, r2) := by rw [if_pos rfl] at H; exact H
     clear H
     have H := H1
     clear H1
     simp only [Option.some.injEq, Prod.mk.injEq] at H
     obtain ⟨rfl, rfl⟩ := H
     go_wp2
     go_ret2
     exact ⟨_, by first | rfl | (simp [errW_none, errW_some] <;> rfl) | (simp [*, errW_none, errW_some] <;> rfl), by first | exact Kd.R_nil _ _ _ _ _ | exact Kd.N_nil _ _ _ _ _ | exact Kd.V_nil _ _ _ _ _ | exact Kd.Q_nil _ _ _ _ _ | exact Kd.S_nil _ _ _ _ _, mvB HB⟩
    ·replace c9 := Bool.eq_false_iff.mpr c9
     subst c9
     have H1 : (if ([] : List Int).length + l2.length < 140737488355328 then ((some (([] : List Int) ++ l2 : List Int)).bind fun y179 => (if (Int.tmod a3 2) = 1 then (selvedgeref17_Resolve.j1 kj6 l0 l1 l2 a4 y179 2 1) else (selvedgeref17_Resolve.j1 kj6 l0 l1 l2 a4 y179 1 2))) else (none)) = some (r1, r2) := by rw [if_neg (show ¬ (false = true) by decide)] at H; exact H
     clear H
     have H := H1
     clear H1
     by_cases c10 : ([] : List Int).length + l2.length < 140737488355328
     ·rw [if_pos c10] at H
      have LMc10 := Aside0.mk c10
      clear c10
      obtain ⟨y179, hy179⟩ : ∃ y_ : List Int, y_ = (([] : List Int) ++ l2) := ⟨_, rfl⟩
      replace H : (if (Int.tmod a3 2) = 1 then (selvedgeref17_Resolve.j1 kj6 l0 l1 l2 a4 y179 2 1) else (selvedgeref17_Resolve.j1 kj6 l0 l1 l2 a4 y179 1 2)) = some (r1, r2) := by first | (rw [hy179]; with_reducible exact H) | (have H2_ := (Option.bind_some _ _).symm.trans H; rw [hy179]; with_reducible exact H2_) | (have H2_ := (Option.bind_some _ _).symm.trans H; with_reducible exact H2_) | with_reducible exact H | (rw [hy179]; exact H) | exact H
      have Ny179 := Aside0.mk hy179
      clear hy179
      have HC11 := Aside0.mk H
      clear H
      go_upto_if 40 with (first | ((with_reducible refine gate_builtin (b := .append) (xs := #[.tmp 35, .tmp 36]) rfl ?_); (try (refine gate_guard (by rfl) ?_; dsimp only)); at_builtin; refine Kd.R_append_rows (Kd.int .u8) (w0 := w) w.heap.size rfl (.tmp 35) (.tmp 36) 23 33 (.int .u8 0) 1 rfl Tryd.underlying23 info33 rfl (by decide) (by omega) (.slice none 0 0) ([] : List Int) l2 _ _ _ (fun _ => True) (fun _ => False) rfl rfl ?aO ?aR (fun _ _ h => h) (fun _ h => h.elim) ?aF ?aB ?aS ?aL ?_; (case aR => repeat (first | exact (Kd.C_below HR2.out HB.out) | (with_reducible refine Kd.C_alloc ?_ _) | (with_reducible refine Kd.C_drewN ?_ _) | (with_reducible refine Kd.C_drew ?_))); (case aB => exact (mvB HB)); (case aF => exact (fun _ _ => trivial)); (case aO => exact ((Kd.R_nil _ _ _ _ (fun _ => True)))); (case aS => exact (below_size (mvB HB))); (case aL => have := LMc10.out; omega); intro v180 w12 ho hb hg hat; rw [← Ny179.out] at ho; have n0_ := Aside0.mk (hb); have n1_ := Aside0.mk (ho); clear HB; have HB := n0_; have HO181 := n1_; clear n0_ n1_; clear ho hb hg hat))
      (try simp only [Act.put, List.setIfInBounds_toArray, List.set_cons_zero, List.set_cons_succ])
      go_cut [13, 14] (fun v13 v14 wc => ∃ (kq : Nat) (x13_10 : Int) (x14_10 : Int), v13 = .int .u8 x13_10 ∧ v14 = .int .u8 x14_10 ∧ Aside0 (selvedgeref17_Resolve.j1 kq l0 l1 l2 a4 y179 x13_10 x14_10 = some (r1, r2)) ∧ Aside0 (kq ≤ kj6) ∧ Aside0 (Kd.R (Kd.int .u8) 33 wc w.heap.size (fun _ => True) v180 y179) ∧ Aside0 (Below w.heap.size w wc))
      case first =>
       have H := HC11.out
       clear HC11
       by_cases c13 : (Int.tmod a3 2) = 1
       ·rw [if_pos c13] at H
        have c13b0 : ((Int.tmod a3 2) == 1) = true := beq_iff_eq.mpr c13
        have c13b1 : ((Int.tmod a3 2) != 1) = false := bne_eq_false_iff_eq.mpr c13
        clear c13
        (first | rw [c13b0] | (simp only [i64_w, i32_w]; rw [c13b0]) | skip)
        have H' := Aside0.mk H
        clear H
        go_wp2
        go_meet
        case rel => exact ⟨_, (2), (1), (by first | rfl | (simp; done) | (simp [*]; done)), (by first | rfl | (simp; done) | (simp [*]; done)), H', ⟨by have := HJ6.out; first | omega | exact Nat.le_refl _⟩, ⟨mvR HO181⟩, ⟨mvB HB⟩⟩
       ·rw [if_neg c13] at H
        have c13b0 : ((Int.tmod a3 2) == 1) = false := beq_eq_false_iff_ne.mpr c13
        have c13b1 : ((Int.tmod a3 2) != 1) = true := bne_iff_ne.mpr c13
        (first | rw [c13b0] | (simp only [i64_w, i32_w]; rw [c13b0]) | skip)
        have H' := Aside0.mk H
        clear H
        go_wp2
        go_meet
        case rel => exact ⟨_, (1), (2), (by first | rfl | (simp; done) | (simp [*]; done)), (by first | rfl | (simp; done) | (simp [*]; done)), H', ⟨by have := HJ6.out; first | omega | exact Nat.le_refl _⟩, ⟨mvR HO181⟩, ⟨mvB HB⟩⟩
      case rest =>
       clear HC11
       try clear c1
       try clear c2
       try clear p2
       try clear c6
       try clear c6b0
       try clear c6b1
       try clear c8
       try clear c8b0
       try clear c8b1
       try clear c8b2
       try clear c9
       try clear c10
       try clear c12
       try clear c13
       try clear c13b0
       try clear c13b1
       try clear p2
       obtain ⟨kq, x13_10, x14_10, rfl, rfl, HA, HJ10, HO_12, HB⟩ := hcut
       cases kq with
       | zero => exact absurd HA.out (by simp [selvedgeref17_Resolve.j1])
       | succ kj10 =>
        have H := HA.out
        clear HA
        simp only [selvedgeref17_Resolve.j1] at H
        replace H := Option.bind_eq_some_iff.mp H
        obtain ⟨t182, A140, H⟩ := H
        replace H : (selvedgeref17_Resolve.l0 kj10 l1 a4 y179 x13_10 x14_10 t182 0) = some (r1, r2) := H
        have A14 := Aside0.mk A140
        clear A140
        have H' := Aside0.mk H
        clear H
        go_wp2_with (first | ((with_reducible refine gate_callee (f := 10) rfl ?_); refine goesL_ (some 43) rfl rfl Tryd.func10 (by kernel_rfl) rfl #[.slice A0 l0.length c0, .slice A2 l2.length c2] rfl (by (try simp only [List.map_toArray, List.map_cons, List.map_nil]); first | done | rfl | (simp only [List.length_drop, List.length_take]; rfl)) ?_; (with_reducible refine (selvedgeref17_Pairs.calls kj10 _ _ l0 _ _ l2 t182 _ ?side1 ?side2 ?side3 ?side4 A14.out).mono ?_); (case side1 => repeat (first | exact (Kd.C_below HR0.out HB.out) | (with_reducible refine Kd.C_alloc ?_ _) | (with_reducible refine Kd.C_drewN ?_ _) | (with_reducible refine Kd.C_drew ?_))); (case side2 => exact HC0.out); (case side3 => repeat (first | exact (Kd.C_below HR2.out HB.out) | (with_reducible refine Kd.C_alloc ?_ _) | (with_reducible refine Kd.C_drewN ?_ _) | (with_reducible refine Kd.C_drew ?_))); (case side4 => exact HC2.out); rintro e w15 ⟨v183, rfl, ho0, hb⟩; refine ⟨_, rfl, ?_⟩; have n0_ := Aside0.mk (Kd.R_below (mvR HO_12) hb); have n1_ := Aside0.mk (Kd.R_lower ho0 (below_size (mvB HB))); have n2_ := Aside0.mk (below_step (mvB HB) hb); clear HO_12; clear HB; have HO_12 := n0_; have HO184 := n1_; have HB := n2_; clear n0_ n1_ n2_; (try clear hb); (try clear hb2); (try clear hk); (try clear hi); (try clear ho0)))
        go_loopg [16] kj10 (fun kq v16 w' => ∃ (x12_3 : List Int) (x16_3 : Int), v16 = .int .i64 x16_3 ∧ Aside0 (selvedgeref17_Resolve.l0 kq l1 a4 x12_3 x13_10 x14_10 t182 x16_3 = some (r1, r2)) ∧ Aside0 (kq ≤ kj10) ∧ Aside0 (Kd.R (Kd.int .u8) 33 w' w.heap.size (fun _ => True) v180 x12_3) ∧ Aside0 (Kd.R k31 31 w' w.heap.size (fun _ => True) v183 t182) ∧ Aside0 (Below w.heap.size w w'))
        case atStart => exact ⟨(y179), (0), (by first | rfl | (simp; done) | (simp [*]; done)), H', ⟨Nat.le_refl _⟩, ⟨mvR HO_12⟩, ⟨mvR HO184⟩, ⟨mvB HB⟩⟩
        case round =>
         clear H'
         try clear c1
         try clear c2
         try clear p2
         try clear c6
         try clear c6b0
         try clear c6b1
         try clear c8
         try clear c8b0
         try clear c8b1
         try clear c8b2
         try clear c9
         try clear c10
         try clear c12
         try clear c13
         try clear c13b0
         try clear c13b1
         try clear p2
         obtain ⟨x12_3, x16_3, rfl, HA, HK3, HO_12, HO_15, HB⟩ := hrel
         cases gk with
         | zero => exact absurd HA.out (by simp [selvedgeref17_Resolve.l0])
         | succ k3 =>
          have H := HA.out
          clear HA
          simp only [selvedgeref17_Resolve.l0] at H
          by_cases c16 : x16_3 < (t182.length : Int)
          ·rw [if_pos c16] at H
           have c16b0 : decide (x16_3 < (t182.length : Int)) = true := decide_eq_true c16
           clear c16
           by_cases c17 : 0 ≤ x16_3
           ·rw [if_pos c17] at H
            have c17b0 : decide (0 ≤ x16_3) = true := decide_eq_true c17
            clear c17
            obtain ⟨ji18, hji18⟩ : ∃ j_ : Int, (wrap64 (((rd_T31 t182 x16_3).f0) + 1)) = j_ := ⟨_, rfl⟩
            replace H : (if 0 ≤ (ji18) then (if (ji18) ≤ ((rd_T31 t182 x16_3).f1) then (if ((rd_T31 t182 x16_3).f1) ≤ (x12_3.length : Int) then ((some ((x12_3.take (((rd_T31 t182 x16_3).f1) : Int).toNat).drop ((ji18) : Int).toNat : List Int)).bind fun y187 => ((selvedgeref17_among.f k3 y187 x13_10).bind fun t191 => (if t191 = true then ((selvedgeref17_set.f k3 x12_3 l1 ((rd_T31 t182 x16_3).f0) x13_10).bind fun t192 => ((selvedgeref17_set.f k3 t192 l1 ((rd_T31 t182 x16_3).f1) x13_10).bind fun t193 => (selvedgeref17_Resolve.l0 k3 l1 a4 t193 x13_10 x14_10 t182 (wrap64 (x16_3 + 1))))) else ((selvedgeref17_among.f k3 y187 x14_10).bind fun t194 => (if t194 = true then (if 0 ≤ ((rd_T31 t182 x16_3).f0) then (if ((rd_T31 t182 x16_3).f0) ≤ (x12_3.length : Int) then ((selvedgeref17_ahead.f k3 (x12_3.take (((rd_T31 t182 x16_3).f0) : Int).toNat) a4).bind fun t199 => (if t199 = x14_10 then ((selvedgeref17_set.f k3 x12_3 l1 ((rd_T31 t182 x16_3).f0) x14_10).bind fun t200 => ((selvedgeref17_set.f k3 t200 l1 ((rd_T31 t182 x16_3).f1) x14_10).bind fun t201 => (selvedgeref17_Resolve.l0 k3 l1 a4 t201 x13_10 x14_10 t182 (wrap64 (x16_3 + 1))))) else ((selvedgeref17_set.f k3 x12_3 l1 ((rd_T31 t182 x16_3).f0) x13_10).bind fun t202 => ((selvedgeref17_set.f k3 t202 l1 ((rd_T31 t182 x16_3).f1) x13_10).bind fun t203 => (selvedgeref17_Resolve.l0 k3 l1 a4 t203 x13_10 x14_10 t182 (wrap64 (x16_3 + 1))))))) else (none)) else (none)) else (selvedgeref17_Resolve.l0 k3 l1 a4 x12_3 x13_10 x14_10 t182 (wrap64 (x16_3 + 1)))))))) else (none)) else (none)) else (none)) = some (r1, r2) := by first | (rw [hji18] at H; exact H) | (simp only [hji18] at H ⊢; exact H)
            have hji18w : (IntKind.i64.wrap (((rd_T31 t182 x16_3).f0) + 1)) = ji18 := (i64_w _).trans hji18
            by_cases c19 : 0 ≤ (ji18)
            ·rw [if_pos c19] at H
             have c19b0 := eq_true c19
             have c19b1 : decide (0 ≤ (ji18)) = true := decide_eq_true c19
             clear c19
             by_cases c20 : (ji18) ≤ ((rd_T31 t182 x16_3).f1)
             ·rw [if_pos c20] at H
              have c20b0 := eq_true c20
              have c20b1 : decide ((ji18) ≤ ((rd_T31 t182 x16_3).f1)) = true := decide_eq_true c20
              clear c20
              by_cases c21 : ((rd_T31 t182 x16_3).f1) ≤ (x12_3.length : Int)
              ·rw [if_pos c21] at H
               have c21b0 := eq_true c21
               have c21b1 : decide (((rd_T31 t182 x16_3).f1) ≤ (x12_3.length : Int)) = true := decide_eq_true c21
               clear c21
               obtain ⟨y187, hy187⟩ : ∃ y_ : List Int, y_ = ((x12_3.take (((rd_T31 t182 x16_3).f1) : Int).toNat).drop ((ji18) : Int).toNat) := ⟨_, rfl⟩
               replace H : ((selvedgeref17_among.f k3 y187 x13_10).bind fun t191 => (if t191 = true then ((selvedgeref17_set.f k3 x12_3 l1 ((rd_T31 t182 x16_3).f0) x13_10).bind fun t192 => ((selvedgeref17_set.f k3 t192 l1 ((rd_T31 t182 x16_3).f1) x13_10).bind fun t193 => (selvedgeref17_Resolve.l0 k3 l1 a4 t193 x13_10 x14_10 t182 (wrap64 (x16_3 + 1))))) else ((selvedgeref17_among.f k3 y187 x14_10).bind fun t194 => (if t194 = true then (if 0 ≤ ((rd_T31 t182 x16_3).f0) then (if ((rd_T31 t182 x16_3).f0) ≤ (x12_3.length : Int) then ((selvedgeref17_ahead.f k3 (x12_3.take (((rd_T31 t182 x16_3).f0) : Int).toNat) a4).bind fun t199 => (if t199 = x14_10 then ((selvedgeref17_set.f k3 x12_3 l1 ((rd_T31 t182 x16_3).f0) x14_10).bind fun t200 => ((selvedgeref17_set.f k3 t200 l1 ((rd_T31 t182 x16_3).f1) x14_10).bind fun t201 => (selvedgeref17_Resolve.l0 k3 l1 a4 t201 x13_10 x14_10 t182 (wrap64 (x16_3 + 1))))) else ((selvedgeref17_set.f k3 x12_3 l1 ((rd_T31 t182 x16_3).f0) x13_10).bind fun t202 => ((selvedgeref17_set.f k3 t202 l1 ((rd_T31 t182 x16_3).f1) x13_10).bind fun t203 => (selvedgeref17_Resolve.l0 k3 l1 a4 t203 x13_10 x14_10 t182 (wrap64 (x16_3 + 1))))))) else (none)) else (none)) else (selvedgeref17_Resolve.l0 k3 l1 a4 x12_3 x13_10 x14_10 t182 (wrap64 (x16_3 + 1))))))) = some (r1, r2) := by first | (rw [hy187]; with_reducible exact H) | (have H2_ := (Option.bind_some _ _).symm.trans H; rw [hy187]; with_reducible exact H2_) | (have H2_ := (Option.bind_some _ _).symm.trans H; with_reducible exact H2_) | with_reducible exact H | (rw [hy187]; exact H) | exact H
               have Ny187 := Aside0.mk hy187
               clear hy187
               replace H := Option.bind_eq_some_iff.mp H
               obtain ⟨t191, A220, H⟩ := H
               replace H : (if t191 = true then ((selvedgeref17_set.f k3 x12_3 l1 ((rd_T31 t182 x16_3).f0) x13_10).bind fun t192 => ((selvedgeref17_set.f k3 t192 l1 ((rd_T31 t182 x16_3).f1) x13_10).bind fun t193 => (selvedgeref17_Resolve.l0 k3 l1 a4 t193 x13_10 x14_10 t182 (wrap64 (x16_3 + 1))))) else ((selvedgeref17_among.f k3 y187 x14_10).bind fun t194 => (if t194 = true then (if 0 ≤ ((rd_T31 t182 x16_3).f0) then (if ((rd_T31 t182 x16_3).f0) ≤ (x12_3.length : Int) then ((selvedgeref17_ahead.f k3 (x12_3.take (((rd_T31 t182 x16_3).f0) : Int).toNat) a4).bind fun t199 => (if t199 = x14_10 then ((selvedgeref17_set.f k3 x12_3 l1 ((rd_T31 t182 x16_3).f0) x14_10).bind fun t200 => ((selvedgeref17_set.f k3 t200 l1 ((rd_T31 t182 x16_3).f1) x14_10).bind fun t201 => (selvedgeref17_Resolve.l0 k3 l1 a4 t201 x13_10 x14_10 t182 (wrap64 (x16_3 + 1))))) else ((selvedgeref17_set.f k3 x12_3 l1 ((rd_T31 t182 x16_3).f0) x13_10).bind fun t202 => ((selvedgeref17_set.f k3 t202 l1 ((rd_T31 t182 x16_3).f1) x13_10).bind fun t203 => (selvedgeref17_Resolve.l0 k3 l1 a4 t203 x13_10 x14_10 t182 (wrap64 (x16_3 + 1))))))) else (none)) else (none)) else (selvedgeref17_Resolve.l0 k3 l1 a4 x12_3 x13_10 x14_10 t182 (wrap64 (x16_3 + 1)))))) = some (r1, r2) := H
               have A22 := Aside0.mk A220
               clear A220
               by_cases c23 : t191 = true
               ·subst c23
                have H1 : ((selvedgeref17_set.f k3 x12_3 l1 ((rd_T31 t182 x16_3).f0) x13_10).bind fun t192 => ((selvedgeref17_set.f k3 t192 l1 ((rd_T31 t182 x16_3).f1) x13_10).bind fun t193 => (selvedgeref17_Resolve.l0 k3 l1 a4 t193 x13_10 x14_10 t182 (wrap64 (x16_3 + 1))))) = some (r1, r2) := by rw [if_pos rfl] at H; exact H
                clear H
                have H := H1
                clear H1
                replace H := Option.bind_eq_some_iff.mp H
                obtain ⟨t192, A240, H⟩ := H
                replace H : ((selvedgeref17_set.f k3 t192 l1 ((rd_T31 t182 x16_3).f1) x13_10).bind fun t193 => (selvedgeref17_Resolve.l0 k3 l1 a4 t193 x13_10 x14_10 t182 (wrap64 (x16_3 + 1)))) = some (r1, r2) := H
                have A24 := Aside0.mk A240
                clear A240
                replace H := Option.bind_eq_some_iff.mp H
                obtain ⟨t193, A250, H⟩ := H
                replace H : (selvedgeref17_Resolve.l0 k3 l1 a4 t193 x13_10 x14_10 t182 (wrap64 (x16_3 + 1))) = some (r1, r2) := H
                have A25 := Aside0.mk A250
                clear A250
                have H' := Aside0.mk H
                clear H
                obtain ⟨Ao26, co26, eo26⟩ := Kd.R_slice HO_15.out
                subst eo26
                have p185 := dT (0 ≤ (x16_3 : Int))
                have q185 := dT (x16_3 < (t182.length : Int))
                obtain ⟨ad185, e185, hx185_0, hx185_1⟩ := at_T31 (Kd.R_reads' HO_15.out).2.2 x16_3 p185 q185
                cases e185
                replace p185 := eq_true p185
                replace q185 := eq_true q185
                go_wp2_with (first | ((with_reducible refine gate_dst (N := 17) rfl ?_); (try (refine gate_guard (by rfl) ?_; dsimp only)); refine box_event ?hg (N := 17) ?hd (cs := #[.int .i64 0, .int .i64 0]) (t := 31) ?hr ?_; (case hd => rfl); (case hg => rfl); (case hr => first | (go_simp; done) | (go_simp; rfl)); intro gb186 hg w27 hbox hb; have n0_ := Aside0.mk (Kd.R_below (mvR HO_12) hb); have n1_ := Aside0.mk (Kd.R_below (Kd.R_elderB (mvR HO_15) gb186 (Nat.le_of_eq hg.symm)) hb); have n2_ := Aside0.mk (below_step (mvB HB) hb); have n3_ := Aside0.mk (hbox); have n4_ := Aside0.mk ((by rw [hg]; exact (below_size (mvB HB)) : w.heap.size ≤ gb186)); have n5_ := Aside0.mk ((by rw [hg]; exact (below_size (mvB HB)) : w.heap.size ≤ gb186)); clear HO_12; clear HO_15; clear HB; have HO_12 := n0_; have HO_15 := n1_; have HB := n2_; have BK186 := n3_; have GW186 := n4_; have GE186 := n5_; clear n0_ n1_ n2_ n3_ n4_ n5_; clear hb hbox hg; have hcz28_0 : w27.cell? ⟨gb186, 0, none⟩ = some (.int .i64 0) := (blk_cell BK186.out 0).trans rfl; have hcz28_1 : w27.cell? ⟨gb186, 1, none⟩ = some (.int .i64 0) := (blk_cell BK186.out 1).trans rfl; have hfz28_0 := blk_frozen BK186.out 0; have hfz28_1 := blk_frozen BK186.out 1) | ((with_reducible refine gate_store (t := 31) (p := 17) rfl ?_); refine store_event (t := 31) (p := 17) (v := ?vo_w29) (w1 := ((w27.setCell ⟨gb186, 0, none⟩ (.int .i64 ((rd_T31 t182 x16_3).f0))).setCell ⟨gb186, 1, none⟩ (.int .i64 ((rd_T31 t182 x16_3).f1)))) ?hg ?ho ?hn ?hr ?_; (case ho => rfl); (case hg => rfl); (case hn => rfl); (case hr => first | (go_simp; done) | (go_simp; rfl)); intro w29 hw; have n0_ : Aside0 (Kd.R (Kd.int .u8) 33 w29 w.heap.size (fun _ => True) v180 x12_3) := ⟨(by rw [hw]; exact (by (with_reducible repeat (first | apply Kd.R_alloc | apply Kd.R_drewN | apply Kd.R_drew)); exact Kd.R_mono (Kd.R_far (p := ⟨gb186, 1, none⟩) (Kd.R_far (p := ⟨gb186, 0, none⟩) (Kd.R_types HO_12.out BK186.out (by decide)) (fun _ hk => hk.2) (.int .i64 ((rd_T31 t182 x16_3).f0))) (fun _ hk => hk.2) (.int .i64 ((rd_T31 t182 x16_3).f1))) (fun _ hk => trivial)))⟩; have n1_ : Aside0 (Kd.R k31 31 w29 w.heap.size (fun k_ => k_ ≠ gb186) (.slice (some ad185) t182.length co26) t182) := ⟨(by rw [hw]; exact (by (with_reducible repeat (first | apply Kd.R_alloc | apply Kd.R_drewN | apply Kd.R_drew)); exact Kd.R_mono (Kd.R_far (p := ⟨gb186, 1, none⟩) (Kd.R_far (p := ⟨gb186, 0, none⟩) (Kd.R_mono HO_15.out (fun k_ hk => (⟨hk, hk.2⟩ : _ ∧ k_ ≠ gb186))) (fun _ hk => hk.2) (.int .i64 ((rd_T31 t182 x16_3).f0))) (fun _ hk => hk.2) (.int .i64 ((rd_T31 t182 x16_3).f1))) (fun _ hk => hk.1.2)))⟩; have n2_ : Aside0 (w29.heap[gb186]? = some (.cells #[.int .i64 ((rd_T31 t182 x16_3).f0), .int .i64 ((rd_T31 t182 x16_3).f1)] 31 (0, 0))) := ⟨(by rw [hw]; exact (by (with_reducible repeat (first | refine blk_drewN ?_ _ | refine blk_drew ?_ | refine blk_alloc ?_ _)); refine blk_put (cs := #[.int .i64 ((rd_T31 t182 x16_3).f0), .int .i64 0]) ?_ 1 _ rfl; (with_reducible repeat (first | refine blk_drewN ?_ _ | refine blk_drew ?_ | refine blk_alloc ?_ _)); refine blk_put (cs := #[.int .i64 0, .int .i64 0]) ?_ 0 _ rfl; (with_reducible repeat (first | refine blk_drewN ?_ _ | refine blk_drew ?_ | refine blk_alloc ?_ _)); exact BK186.out))⟩; have n3_ : Aside0 (Below w.heap.size w w29) := ⟨(by rw [hw]; exact (by repeat (first | (with_reducible first | exact HB.out | apply below_alloc | apply pw_below_drewN | apply below_drew1 | refine below_set ?_ GE186.out) | exact HB.out)))⟩; clear hw; clear HO_12; clear HO_15; clear BK186; clear HB; have HO_12 := n0_; have HO_15 := n1_; have BK186 := n2_; have HB := n3_; clear n0_ n1_ n2_ n3_; have hcz30_0 : w29.cell? ⟨gb186, 0, none⟩ = some (.int .i64 ((rd_T31 t182 x16_3).f0)) := (blk_cell BK186.out 0).trans rfl; have hcz30_1 : w29.cell? ⟨gb186, 1, none⟩ = some (.int .i64 ((rd_T31 t182 x16_3).f1)) := (blk_cell BK186.out 1).trans rfl; have hfz30_0 := blk_frozen BK186.out 0; have hfz30_1 := blk_frozen BK186.out 1; obtain ⟨Ao32, co32, eo32⟩ := Kd.R_slice HO_12.out; subst eo32; have q31 : (((rd_T31 t182 x16_3).f1) : Int) ≤ ((x12_3.length : Int) : Int) := of_decide_eq_true (by first | (with_reducible assumption) | assumption); obtain ⟨i031, hi031, _, hsz31, _⟩ := info_parts info33; have hroom31 : x12_3.length ≤ co32 := (Kd.R_reads' HO_12.out).2.1; have hC31 : Kd.C (Kd.int .u8) _ Ao32 x12_3.length x12_3 := (Kd.R_reads' HO_12.out).2.2; have ql31 : ((ji18) : Int) ≤ (((rd_T31 t182 x16_3).f1) : Int) := of_decide_eq_true (by first | (with_reducible assumption) | assumption); have q031 : (0 : Int) ≤ ((ji18) : Int) := of_decide_eq_true (by first | (with_reducible assumption) | assumption); have hcut31 := cut_mid (P := Tryd.prog) 23 33 .i64 .i64 Tryd.underlying23 hi031 1 hsz31 Ao32 x12_3.length co32 (ji18) ((rd_T31 t182 x16_3).f1) q031 ql31 q31 hroom31; have hr31 := Kd.C_mid (lo := ((ji18) : Int).toNat) (hi := (((rd_T31 t182 x16_3).f1) : Int).toNat) (c := co32) hC31 (by omega) (by omega) hroom31; obtain ⟨A31, hA31⟩ : ∃ A1, A1 = (if co32 = ((ji18) : Int).toNat then Ao32 else (Ao32 : Option Addr).map (·.add (((ji18) : Int).toNat * 1))) := ⟨_, rfl⟩; obtain ⟨c31, hc31⟩ : ∃ c1, c1 = co32 - ((ji18) : Int).toNat := ⟨_, rfl⟩; have hy31 : y187.length = (((rd_T31 t182 x16_3).f1) : Int).toNat - ((ji18) : Int).toNat := (by rw [Ny187.out, List.length_drop, List.length_take] <;> omega); rw [show ((x12_3).take (((rd_T31 t182 x16_3).f1) : Int).toNat).drop ((ji18) : Int).toNat = y187 from Ny187.out.symm] at hr31; replace hr31 : Kd.C (Kd.int .u8) _ A31 y187.length y187 := (by rw [hA31]; exact hr31); rw [← hy31, ← hA31, ← hc31] at hcut31; have HR190 := Aside0.mk hr31; have HC190 := Aside0.mk (show y187.length ≤ c31 from by rw [hy31, hc31]; exact Nat.sub_le_sub_right (Nat.le_trans (by omega) hroom31) _); clear hr31 hC31 hroom31 hi031 hsz31 hc31; have KY31 := Aside0.mk hy31; have KA31 := Aside0.mk hA31; clear hy31 hA31; have KL31 := Aside0.mk (show (((rd_T31 t182 x16_3).f1) : Int).toNat ≤ x12_3.length from by omega); have KM31 := Aside0.mk (show ((ji18) : Int).toNat ≤ (((rd_T31 t182 x16_3).f1) : Int).toNat from by omega); replace q31 := eq_true q31) | ((with_reducible refine gate_callee (f := 25) rfl ?_); refine goesL_ (some 64) rfl rfl Tryd.func25 (by kernel_rfl) rfl #[.slice A31 y187.length c31, .int .u8 x13_10] rfl (by (try simp only [List.map_toArray, List.map_cons, List.map_nil]); first | done | rfl | (simp only [List.length_drop, List.length_take]; rfl)) ?_; (with_reducible refine (selvedgeref17_among.calls k3 _ _ y187 x13_10 true _ ?side1 ?side2 A22.out).mono ?_); (case side1 => repeat (first | exact (by repeat (first | (with_reducible exact HR190.out) | (with_reducible refine Kd.C_alloc ?_ _) | (with_reducible refine Kd.C_drewN ?_ _) | (with_reducible refine Kd.C_drew ?_) | exact HR190.out)) | (with_reducible refine Kd.C_alloc ?_ _) | (with_reducible refine Kd.C_drewN ?_ _) | (with_reducible refine Kd.C_drew ?_))); (case side2 => exact HC190.out); rintro e w' ⟨rfl, ⟨nd, rfl⟩⟩; refine ⟨_, rfl, ?_⟩) | ((with_reducible refine gate_callee (f := 27) rfl ?_); refine goesL_ (some 84) rfl rfl Tryd.func27 (by kernel_rfl) rfl #[.slice Ao32 x12_3.length co32, .slice A1 l1.length c1, .int .i64 ((rd_T31 t182 x16_3).f0), .int .u8 x13_10] rfl (by (try simp only [List.map_toArray, List.map_cons, List.map_nil]); first | done | rfl | (simp only [List.length_drop, List.length_take]; rfl)) ?_; (with_reducible refine (selvedgeref17_set.calls k3 (fun k_ => some k_ = (.slice Ao32 x12_3.length co32 : Value).ownBlock) (.slice Ao32 x12_3.length co32) x12_3 _ _ l1 ((rd_T31 t182 x16_3).f0) x13_10 t192 w _ ?side1 ?side2 ?side3 ?side4 A24.out).mono ?_); (case side1 => repeat (first | (with_reducible first | exact HB.out | apply below_alloc | apply pw_below_drewN | apply below_drew1 | refine below_set ?_ GE186.out) | exact HB.out)); (case side2 => exact Kd.R_tight rfl HO_12.out); (case side3 => exact Kd.C_kept_came (Kd.heap_int .u8) HR1.out (by repeat (first | (with_reducible first | exact HB.out | apply below_alloc | apply pw_below_drewN | apply below_drew1 | refine below_set ?_ GE186.out) | exact HB.out)) (fun k_ hs_ => (fun e_ => Kd.R_base HO_12.out k_ e_.symm) hs_)); (case side4 => exact HC1.out); rintro e w33 ⟨rfl, hy0, hb, hkp⟩; refine ⟨_, rfl, ?_⟩; have n0_ := Aside0.mk (Kd.R_reok rfl hy0 (fun k_ e_ => HO_12.out.1 k_ e_)); have n1_ := Aside0.mk (Kd.R_mono (ok' := fun k_ => k_ ≠ gb186) (Kd.R_keptB ((Kd.R_apart' HO_15.out (Kd.R_typed HO_12.out) (by decide))) hkp (fun k_ hk_ hs_ => (hk_.2) hs_)) (fun k_ hk_ => hk_.1.1)); have n2_ := Aside0.mk (blk_kept (by (with_reducible repeat (first | refine blk_drewN ?_ _ | refine blk_drew ?_ | refine blk_alloc ?_ _)); exact BK186.out) hkp (fun hs_ => (fun e_ => (Kd.R_ne HO_12.out BK186.out (by decide)) e_) hs_)); have n3_ := Aside0.mk (hb); clear HO_12; clear HO_15; clear BK186; clear HB; have HO_12 := n0_; have HO_15 := n1_; have BK186 := n2_; have HB := n3_; clear n0_ n1_ n2_ n3_; (try clear hb); (try clear hkp); (try clear hy0); have hcz34_0 : w33.cell? ⟨gb186, 0, none⟩ = some (.int .i64 ((rd_T31 t182 x16_3).f0)) := (blk_cell BK186.out 0).trans rfl; have hcz34_1 : w33.cell? ⟨gb186, 1, none⟩ = some (.int .i64 ((rd_T31 t182 x16_3).f1)) := (blk_cell BK186.out 1).trans rfl; have hfz34_0 := blk_frozen BK186.out 0; have hfz34_1 := blk_frozen BK186.out 1) | ((with_reducible refine gate_callee (f := 27) rfl ?_); refine goesL_ (some 90) rfl rfl Tryd.func27 (by kernel_rfl) rfl #[.slice Ao32 x12_3.length co32, .slice A1 l1.length c1, .int .i64 ((rd_T31 t182 x16_3).f1), .int .u8 x13_10] rfl (by (try simp only [List.map_toArray, List.map_cons, List.map_nil]); first | done | rfl | (simp only [List.length_drop, List.length_take]; rfl)) ?_; (with_reducible refine (selvedgeref17_set.calls k3 (fun k_ => some k_ = (.slice Ao32 x12_3.length co32 : Value).ownBlock) (.slice Ao32 x12_3.length co32) t192 _ _ l1 ((rd_T31 t182 x16_3).f1) x13_10 t193 w _ ?side1 ?side2 ?side3 ?side4 A25.out).mono ?_); (case side1 => repeat (first | (with_reducible first | exact HB.out | apply below_alloc | apply pw_below_drewN | apply below_drew1 | refine below_set ?_ GE186.out) | exact HB.out)); (case side2 => exact Kd.R_tight rfl HO_12.out); (case side3 => exact Kd.C_kept_came (Kd.heap_int .u8) HR1.out (by repeat (first | (with_reducible first | exact HB.out | apply below_alloc | apply pw_below_drewN | apply below_drew1 | refine below_set ?_ GE186.out) | exact HB.out)) (fun k_ hs_ => (fun e_ => Kd.R_base HO_12.out k_ e_.symm) hs_)); (case side4 => exact HC1.out); rintro e w35 ⟨rfl, hy0, hb, hkp⟩; refine ⟨_, rfl, ?_⟩; have n0_ := Aside0.mk (Kd.R_reok rfl hy0 (fun k_ e_ => HO_12.out.1 k_ e_)); have n1_ := Aside0.mk (Kd.R_mono (ok' := fun k_ => k_ ≠ gb186) (Kd.R_keptB ((Kd.R_apart' HO_15.out (Kd.R_typed HO_12.out) (by decide))) hkp (fun k_ hk_ hs_ => (hk_.2) hs_)) (fun k_ hk_ => hk_.1.1)); have n2_ := Aside0.mk (blk_kept (by (with_reducible repeat (first | refine blk_drewN ?_ _ | refine blk_drew ?_ | refine blk_alloc ?_ _)); exact BK186.out) hkp (fun hs_ => (fun e_ => (Kd.R_ne HO_12.out BK186.out (by decide)) e_) hs_)); have n3_ := Aside0.mk (hb); clear HO_12; clear HO_15; clear BK186; clear HB; have HO_12 := n0_; have HO_15 := n1_; have BK186 := n2_; have HB := n3_; clear n0_ n1_ n2_ n3_; (try clear hb); (try clear hkp); (try clear hy0)))
                go_roundg k3
                case measure => have := HJ6.out; have := HJ10.out; have := HK3.out; omega
                case rel => exact ⟨(t193), (wrap64 (x16_3 + 1)), (by first | rfl | (simp; done) | (simp [*]; done)), H', ⟨by have := HJ6.out; have := HJ10.out; have := HK3.out; omega⟩, ⟨mvR HO_12⟩, ⟨by (with_reducible repeat (first | apply Kd.R_alloc | apply Kd.R_drewN | apply Kd.R_drew)); exact Kd.R_mono HO_15.out (fun _ hk => trivial)⟩, ⟨by repeat (first | (with_reducible first | exact HB.out | apply below_alloc | apply pw_below_drewN | apply below_drew1 | refine below_set ?_ GE186.out) | exact HB.out)⟩⟩
               ·replace c23 := Bool.eq_false_iff.mpr c23
                subst c23
                have H1 : ((selvedgeref17_among.f k3 y187 x14_10).bind fun t194 => (if t194 = true then (if 0 ≤ ((rd_T31 t182 x16_3).f0) then (if ((rd_T31 t182 x16_3).f0) ≤ (x12_3.length : Int) then ((selvedgeref17_ahead.f k3 (x12_3.take (((rd_T31 t182 x16_3).f0) : Int).toNat) a4).bind fun t199 => (if t199 = x14_10 then ((selvedgeref17_set.f k3 x12_3 l1 ((rd_T31 t182 x16_3).f0) x14_10).bind fun t200 => ((selvedgeref17_set.f k3 t200 l1 ((rd_T31 t182 x16_3).f1) x14_10).bind fun t201 => (selvedgeref17_Resolve.l0 k3 l1 a4 t201 x13_10 x14_10 t182 (wrap64 (x16_3 + 1))))) else ((selvedgeref17_set.f k3 x12_3 l1 ((rd_T31 t182 x16_3).f0) x13_10).bind fun t202 => ((selvedgeref17_set.f k3 t202 l1 ((rd_T31 t182 x16_3).f1) x13_10).bind fun t203 => (selvedgeref17_Resolve.l0 k3 l1 a4 t203 x13_10 x14_10 t182 (wrap64 (x16_3 + 1))))))) else (none)) else (none)) else (selvedgeref17_Resolve.l0 k3 l1 a4 x12_3 x13_10 x14_10 t182 (wrap64 (x16_3 + 1))))) = some (r1, r2) := by rw [if_neg (show ¬ (false = true) by decide)] at H; exact H
                clear H
                have H := H1
                clear H1
                replace H := Option.bind_eq_some_iff.mp H
                obtain ⟨t194, A360, H⟩ := H
                replace H : (if t194 = true then (if 0 ≤ ((rd_T31 t182 x16_3).f0) then (if ((rd_T31 t182 x16_3).f0) ≤ (x12_3.length : Int) then ((selvedgeref17_ahead.f k3 (x12_3.take (((rd_T31 t182 x16_3).f0) : Int).toNat) a4).bind fun t199 => (if t199 = x14_10 then ((selvedgeref17_set.f k3 x12_3 l1 ((rd_T31 t182 x16_3).f0) x14_10).bind fun t200 => ((selvedgeref17_set.f k3 t200 l1 ((rd_T31 t182 x16_3).f1) x14_10).bind fun t201 => (selvedgeref17_Resolve.l0 k3 l1 a4 t201 x13_10 x14_10 t182 (wrap64 (x16_3 + 1))))) else ((selvedgeref17_set.f k3 x12_3 l1 ((rd_T31 t182 x16_3).f0) x13_10).bind fun t202 => ((selvedgeref17_set.f k3 t202 l1 ((rd_T31 t182 x16_3).f1) x13_10).bind fun t203 => (selvedgeref17_Resolve.l0 k3 l1 a4 t203 x13_10 x14_10 t182 (wrap64 (x16_3 + 1))))))) else (none)) else (none)) else (selvedgeref17_Resolve.l0 k3 l1 a4 x12_3 x13_10 x14_10 t182 (wrap64 (x16_3 + 1)))) = some (r1, r2) := H
                have A36 := Aside0.mk A360
                clear A360
                by_cases c37 : t194 = true
                ·subst c37
                 have H1 : (if 0 ≤ ((rd_T31 t182 x16_3).f0) then (if ((rd_T31 t182 x16_3).f0) ≤ (x12_3.length : Int) then ((selvedgeref17_ahead.f k3 (x12_3.take (((rd_T31 t182 x16_3).f0) : Int).toNat) a4).bind fun t199 => (if t199 = x14_10 then ((selvedgeref17_set.f k3 x12_3 l1 ((rd_T31 t182 x16_3).f0) x14_10).bind fun t200 => ((selvedgeref17_set.f k3 t200 l1 ((rd_T31 t182 x16_3).f1) x14_10).bind fun t201 => (selvedgeref17_Resolve.l0 k3 l1 a4 t201 x13_10 x14_10 t182 (wrap64 (x16_3 + 1))))) else ((selvedgeref17_set.f k3 x12_3 l1 ((rd_T31 t182 x16_3).f0) x13_10).bind fun t202 => ((selvedgeref17_set.f k3 t202 l1 ((rd_T31 t182 x16_3).f1) x13_10).bind fun t203 => (selvedgeref17_Resolve.l0 k3 l1 a4 t203 x13_10 x14_10 t182 (wrap64 (x16_3 + 1))))))) else (none)) else (none)) = some (r1, r2) := by rw [if_pos rfl] at H; exact H
                 clear H
                 have H := H1
                 clear H1
                 by_cases c38 : 0 ≤ ((rd_T31 t182 x16_3).f0)
                 ·rw [if_pos c38] at H
                  have c38b0 := eq_true c38
                  have c38b1 : decide (0 ≤ ((rd_T31 t182 x16_3).f0)) = true := decide_eq_true c38
                  clear c38
                  by_cases c39 : ((rd_T31 t182 x16_3).f0) ≤ (x12_3.length : Int)
                  ·rw [if_pos c39] at H
                   have c39b0 := eq_true c39
                   have c39b1 : decide (((rd_T31 t182 x16_3).f0) ≤ (x12_3.length : Int)) = true := decide_eq_true c39
                   clear c39
                   obtain ⟨y195, hy195⟩ : ∃ y_ : List Int, y_ = (x12_3.take (((rd_T31 t182 x16_3).f0) : Int).toNat) := ⟨_, rfl⟩
                   replace H : ((selvedgeref17_ahead.f k3 y195 a4).bind fun t199 => (if t199 = x14_10 then ((selvedgeref17_set.f k3 x12_3 l1 ((rd_T31 t182 x16_3).f0) x14_10).bind fun t200 => ((selvedgeref17_set.f k3 t200 l1 ((rd_T31 t182 x16_3).f1) x14_10).bind fun t201 => (selvedgeref17_Resolve.l0 k3 l1 a4 t201 x13_10 x14_10 t182 (wrap64 (x16_3 + 1))))) else ((selvedgeref17_set.f k3 x12_3 l1 ((rd_T31 t182 x16_3).f0) x13_10).bind fun t202 => ((selvedgeref17_set.f k3 t202 l1 ((rd_T31 t182 x16_3).f1) x13_10).bind fun t203 => (selvedgeref17_Resolve.l0 k3 l1 a4 t203 x13_10 x14_10 t182 (wrap64 (x16_3 + 1))))))) = some (r1, r2) := by first | (rw [hy195]; with_reducible exact H) | (have H2_ := (Option.bind_some _ _).symm.trans H; rw [hy195]; with_reducible exact H2_) | (have H2_ := (Option.bind_some _ _).symm.trans H; with_reducible exact H2_) | with_reducible exact H | (rw [hy195]; exact H) | exact H
                   have Ny195 := Aside0.mk hy195
                   clear hy195
                   replace H := Option.bind_eq_some_iff.mp H
                   obtain ⟨t199, A400, H⟩ := H
                   replace H : (if t199 = x14_10 then ((selvedgeref17_set.f k3 x12_3 l1 ((rd_T31 t182 x16_3).f0) x14_10).bind fun t200 => ((selvedgeref17_set.f k3 t200 l1 ((rd_T31 t182 x16_3).f1) x14_10).bind fun t201 => (selvedgeref17_Resolve.l0 k3 l1 a4 t201 x13_10 x14_10 t182 (wrap64 (x16_3 + 1))))) else ((selvedgeref17_set.f k3 x12_3 l1 ((rd_T31 t182 x16_3).f0) x13_10).bind fun t202 => ((selvedgeref17_set.f k3 t202 l1 ((rd_T31 t182 x16_3).f1) x13_10).bind fun t203 => (selvedgeref17_Resolve.l0 k3 l1 a4 t203 x13_10 x14_10 t182 (wrap64 (x16_3 + 1)))))) = some (r1, r2) := H
                   have A40 := Aside0.mk A400
                   clear A400
                   by_cases c41 : t199 = x14_10
                   ·rw [if_pos c41] at H
                    have c41b0 : (t199 == x14_10) = true := beq_iff_eq.mpr c41
                    have c41b1 : (t199 != x14_10) = false := bne_eq_false_iff_eq.mpr c41
                    clear c41
                    replace H := Option.bind_eq_some_iff.mp H
                    obtain ⟨t200, A420, H⟩ := H
                    replace H : ((selvedgeref17_set.f k3 t200 l1 ((rd_T31 t182 x16_3).f1) x14_10).bind fun t201 => (selvedgeref17_Resolve.l0 k3 l1 a4 t201 x13_10 x14_10 t182 (wrap64 (x16_3 + 1)))) = some (r1, r2) := H
                    have A42 := Aside0.mk A420
                    clear A420
                    replace H := Option.bind_eq_some_iff.mp H
                    obtain ⟨t201, A430, H⟩ := H
                    replace H : (selvedgeref17_Resolve.l0 k3 l1 a4 t201 x13_10 x14_10 t182 (wrap64 (x16_3 + 1))) = some (r1, r2) := H
                    have A43 := Aside0.mk A430
                    clear A430
                    have H' := Aside0.mk H
                    clear H
                    obtain ⟨Ao44, co44, eo44⟩ := Kd.R_slice HO_15.out
                    subst eo44
                    have p185 := dT (0 ≤ (x16_3 : Int))
                    have q185 := dT (x16_3 < (t182.length : Int))
                    obtain ⟨ad185, e185, hx185_0, hx185_1⟩ := at_T31 (Kd.R_reads' HO_15.out).2.2 x16_3 p185 q185
                    cases e185
                    replace p185 := eq_true p185
                    replace q185 := eq_true q185
                    go_wp2_with (first | ((with_reducible refine gate_dst (N := 17) rfl ?_); (try (refine gate_guard (by rfl) ?_; dsimp only)); refine box_event ?hg (N := 17) ?hd (cs := #[.int .i64 0, .int .i64 0]) (t := 31) ?hr ?_; (case hd => rfl); (case hg => rfl); (case hr => first | (go_simp; done) | (go_simp; rfl)); intro gb186 hg w45 hbox hb; have n0_ := Aside0.mk (Kd.R_below (mvR HO_12) hb); have n1_ := Aside0.mk (Kd.R_below (Kd.R_elderB (mvR HO_15) gb186 (Nat.le_of_eq hg.symm)) hb); have n2_ := Aside0.mk (below_step (mvB HB) hb); have n3_ := Aside0.mk (hbox); have n4_ := Aside0.mk ((by rw [hg]; exact (below_size (mvB HB)) : w.heap.size ≤ gb186)); have n5_ := Aside0.mk ((by rw [hg]; exact (below_size (mvB HB)) : w.heap.size ≤ gb186)); clear HO_12; clear HO_15; clear HB; have HO_12 := n0_; have HO_15 := n1_; have HB := n2_; have BK186 := n3_; have GW186 := n4_; have GE186 := n5_; clear n0_ n1_ n2_ n3_ n4_ n5_; clear hb hbox hg; have hcz46_0 : w45.cell? ⟨gb186, 0, none⟩ = some (.int .i64 0) := (blk_cell BK186.out 0).trans rfl; have hcz46_1 : w45.cell? ⟨gb186, 1, none⟩ = some (.int .i64 0) := (blk_cell BK186.out 1).trans rfl; have hfz46_0 := blk_frozen BK186.out 0; have hfz46_1 := blk_frozen BK186.out 1) | ((with_reducible refine gate_store (t := 31) (p := 17) rfl ?_); refine store_event (t := 31) (p := 17) (v := ?vo_w47) (w1 := ((w45.setCell ⟨gb186, 0, none⟩ (.int .i64 ((rd_T31 t182 x16_3).f0))).setCell ⟨gb186, 1, none⟩ (.int .i64 ((rd_T31 t182 x16_3).f1)))) ?hg ?ho ?hn ?hr ?_; (case ho => rfl); (case hg => rfl); (case hn => rfl); (case hr => first | (go_simp; done) | (go_simp; rfl)); intro w47 hw; have n0_ : Aside0 (Kd.R (Kd.int .u8) 33 w47 w.heap.size (fun _ => True) v180 x12_3) := ⟨(by rw [hw]; exact (by (with_reducible repeat (first | apply Kd.R_alloc | apply Kd.R_drewN | apply Kd.R_drew)); exact Kd.R_mono (Kd.R_far (p := ⟨gb186, 1, none⟩) (Kd.R_far (p := ⟨gb186, 0, none⟩) (Kd.R_types HO_12.out BK186.out (by decide)) (fun _ hk => hk.2) (.int .i64 ((rd_T31 t182 x16_3).f0))) (fun _ hk => hk.2) (.int .i64 ((rd_T31 t182 x16_3).f1))) (fun _ hk => trivial)))⟩; have n1_ : Aside0 (Kd.R k31 31 w47 w.heap.size (fun k_ => k_ ≠ gb186) (.slice (some ad185) t182.length co44) t182) := ⟨(by rw [hw]; exact (by (with_reducible repeat (first | apply Kd.R_alloc | apply Kd.R_drewN | apply Kd.R_drew)); exact Kd.R_mono (Kd.R_far (p := ⟨gb186, 1, none⟩) (Kd.R_far (p := ⟨gb186, 0, none⟩) (Kd.R_mono HO_15.out (fun k_ hk => (⟨hk, hk.2⟩ : _ ∧ k_ ≠ gb186))) (fun _ hk => hk.2) (.int .i64 ((rd_T31 t182 x16_3).f0))) (fun _ hk => hk.2) (.int .i64 ((rd_T31 t182 x16_3).f1))) (fun _ hk => hk.1.2)))⟩; have n2_ : Aside0 (w47.heap[gb186]? = some (.cells #[.int .i64 ((rd_T31 t182 x16_3).f0), .int .i64 ((rd_T31 t182 x16_3).f1)] 31 (0, 0))) := ⟨(by rw [hw]; exact (by (with_reducible repeat (first | refine blk_drewN ?_ _ | refine blk_drew ?_ | refine blk_alloc ?_ _)); refine blk_put (cs := #[.int .i64 ((rd_T31 t182 x16_3).f0), .int .i64 0]) ?_ 1 _ rfl; (with_reducible repeat (first | refine blk_drewN ?_ _ | refine blk_drew ?_ | refine blk_alloc ?_ _)); refine blk_put (cs := #[.int .i64 0, .int .i64 0]) ?_ 0 _ rfl; (with_reducible repeat (first | refine blk_drewN ?_ _ | refine blk_drew ?_ | refine blk_alloc ?_ _)); exact BK186.out))⟩; have n3_ : Aside0 (Below w.heap.size w w47) := ⟨(by rw [hw]; exact (by repeat (first | (with_reducible first | exact HB.out | apply below_alloc | apply pw_below_drewN | apply below_drew1 | refine below_set ?_ GE186.out) | exact HB.out)))⟩; clear hw; clear HO_12; clear HO_15; clear BK186; clear HB; have HO_12 := n0_; have HO_15 := n1_; have BK186 := n2_; have HB := n3_; clear n0_ n1_ n2_ n3_; have hcz48_0 : w47.cell? ⟨gb186, 0, none⟩ = some (.int .i64 ((rd_T31 t182 x16_3).f0)) := (blk_cell BK186.out 0).trans rfl; have hcz48_1 : w47.cell? ⟨gb186, 1, none⟩ = some (.int .i64 ((rd_T31 t182 x16_3).f1)) := (blk_cell BK186.out 1).trans rfl; have hfz48_0 := blk_frozen BK186.out 0; have hfz48_1 := blk_frozen BK186.out 1; obtain ⟨Ao50, co50, eo50⟩ := Kd.R_slice HO_12.out; subst eo50; have q49 : (((rd_T31 t182 x16_3).f1) : Int) ≤ ((x12_3.length : Int) : Int) := of_decide_eq_true (by first | (with_reducible assumption) | assumption); obtain ⟨i049, hi049, _, hsz49, _⟩ := info_parts info33; have hroom49 : x12_3.length ≤ co50 := (Kd.R_reads' HO_12.out).2.1; have hC49 : Kd.C (Kd.int .u8) _ Ao50 x12_3.length x12_3 := (Kd.R_reads' HO_12.out).2.2; have ql49 : ((ji18) : Int) ≤ (((rd_T31 t182 x16_3).f1) : Int) := of_decide_eq_true (by first | (with_reducible assumption) | assumption); have q049 : (0 : Int) ≤ ((ji18) : Int) := of_decide_eq_true (by first | (with_reducible assumption) | assumption); have hcut49 := cut_mid (P := Tryd.prog) 23 33 .i64 .i64 Tryd.underlying23 hi049 1 hsz49 Ao50 x12_3.length co50 (ji18) ((rd_T31 t182 x16_3).f1) q049 ql49 q49 hroom49; have hr49 := Kd.C_mid (lo := ((ji18) : Int).toNat) (hi := (((rd_T31 t182 x16_3).f1) : Int).toNat) (c := co50) hC49 (by omega) (by omega) hroom49; obtain ⟨A49, hA49⟩ : ∃ A1, A1 = (if co50 = ((ji18) : Int).toNat then Ao50 else (Ao50 : Option Addr).map (·.add (((ji18) : Int).toNat * 1))) := ⟨_, rfl⟩; obtain ⟨c49, hc49⟩ : ∃ c1, c1 = co50 - ((ji18) : Int).toNat := ⟨_, rfl⟩; have hy49 : y187.length = (((rd_T31 t182 x16_3).f1) : Int).toNat - ((ji18) : Int).toNat := (by rw [Ny187.out, List.length_drop, List.length_take] <;> omega); rw [show ((x12_3).take (((rd_T31 t182 x16_3).f1) : Int).toNat).drop ((ji18) : Int).toNat = y187 from Ny187.out.symm] at hr49; replace hr49 : Kd.C (Kd.int .u8) _ A49 y187.length y187 := (by rw [hA49]; exact hr49); rw [← hy49, ← hA49, ← hc49] at hcut49; have HR190 := Aside0.mk hr49; have HC190 := Aside0.mk (show y187.length ≤ c49 from by rw [hy49, hc49]; exact Nat.sub_le_sub_right (Nat.le_trans (by omega) hroom49) _); clear hr49 hC49 hroom49 hi049 hsz49 hc49; have KY49 := Aside0.mk hy49; have KA49 := Aside0.mk hA49; clear hy49 hA49; have KL49 := Aside0.mk (show (((rd_T31 t182 x16_3).f1) : Int).toNat ≤ x12_3.length from by omega); have KM49 := Aside0.mk (show ((ji18) : Int).toNat ≤ (((rd_T31 t182 x16_3).f1) : Int).toNat from by omega); replace q49 := eq_true q49) | ((with_reducible refine gate_callee (f := 25) rfl ?_); refine goesL_ (some 64) rfl rfl Tryd.func25 (by kernel_rfl) rfl #[.slice A49 y187.length c49, .int .u8 x13_10] rfl (by (try simp only [List.map_toArray, List.map_cons, List.map_nil]); first | done | rfl | (simp only [List.length_drop, List.length_take]; rfl)) ?_; (with_reducible refine (selvedgeref17_among.calls k3 _ _ y187 x13_10 false _ ?side1 ?side2 A22.out).mono ?_); (case side1 => repeat (first | exact (by repeat (first | (with_reducible exact HR190.out) | (with_reducible refine Kd.C_alloc ?_ _) | (with_reducible refine Kd.C_drewN ?_ _) | (with_reducible refine Kd.C_drew ?_) | exact HR190.out)) | (with_reducible refine Kd.C_alloc ?_ _) | (with_reducible refine Kd.C_drewN ?_ _) | (with_reducible refine Kd.C_drew ?_))); (case side2 => exact HC190.out); rintro e w' ⟨rfl, ⟨nd, rfl⟩⟩; refine ⟨_, rfl, ?_⟩) | ((with_reducible refine gate_callee (f := 25) rfl ?_); refine goesL_ (some 68) rfl rfl Tryd.func25 (by kernel_rfl) rfl #[.slice A49 y187.length c49, .int .u8 x14_10] rfl (by (try simp only [List.map_toArray, List.map_cons, List.map_nil]); first | done | rfl | (simp only [List.length_drop, List.length_take]; rfl)) ?_; (with_reducible refine (selvedgeref17_among.calls k3 _ _ y187 x14_10 true _ ?side1 ?side2 A36.out).mono ?_); (case side1 => repeat (first | exact (by repeat (first | (with_reducible exact HR190.out) | (with_reducible refine Kd.C_alloc ?_ _) | (with_reducible refine Kd.C_drewN ?_ _) | (with_reducible refine Kd.C_drew ?_) | exact HR190.out)) | (with_reducible refine Kd.C_alloc ?_ _) | (with_reducible refine Kd.C_drewN ?_ _) | (with_reducible refine Kd.C_drew ?_))); (case side2 => exact HC190.out); rintro e w' ⟨rfl, ⟨nd, rfl⟩⟩; refine ⟨_, rfl, ?_⟩; have q51 : (((rd_T31 t182 x16_3).f0) : Int) ≤ ((x12_3.length : Int) : Int) := of_decide_eq_true (by first | (with_reducible assumption) | assumption); obtain ⟨i051, hi051, _, hsz51, _⟩ := info_parts info33; have hroom51 : x12_3.length ≤ co50 := (Kd.R_reads' HO_12.out).2.1; have hC51 : Kd.C (Kd.int .u8) _ Ao50 x12_3.length x12_3 := (Kd.R_reads' HO_12.out).2.2; have hcut51 := cut_to (P := Tryd.prog) 23 33 .i64 Tryd.underlying23 hi051 Ao50 x12_3.length co50 ((rd_T31 t182 x16_3).f0) (of_decide_eq_true (by first | (with_reducible assumption) | assumption)) q51 hroom51; have hr51 := Kd.C_take (m := (((rd_T31 t182 x16_3).f0) : Int).toNat) hC51 (by omega); have hy51 : y195.length = (((rd_T31 t182 x16_3).f0) : Int).toNat := (by rw [Ny195.out, List.length_take]; omega); rw [← Ny195.out] at hr51; rw [← hy51] at hcut51; have HR198 := Aside0.mk hr51; have HC198 := Aside0.mk (show y195.length ≤ co50 from by omega); clear hr51 hC51 hroom51 hi051 hsz51; have KY51 := Aside0.mk hy51; clear hy51; have KL51 := Aside0.mk (show (((rd_T31 t182 x16_3).f0) : Int).toNat ≤ x12_3.length from by omega); replace q51 := eq_true q51) | ((with_reducible refine gate_callee (f := 26) rfl ?_); refine goesL_ (some 75) rfl rfl Tryd.func26 (by kernel_rfl) rfl #[.slice Ao50 y195.length co50, .int .u8 a4] rfl (by (try simp only [List.map_toArray, List.map_cons, List.map_nil]); first | done | rfl | (simp only [List.length_drop, List.length_take]; rfl)) ?_; (with_reducible refine (selvedgeref17_ahead.calls k3 _ _ y195 a4 t199 _ ?side1 ?side2 A40.out).mono ?_); (case side1 => repeat (first | exact (by repeat (first | (with_reducible exact HR198.out) | (with_reducible refine Kd.C_alloc ?_ _) | (with_reducible refine Kd.C_drewN ?_ _) | (with_reducible refine Kd.C_drew ?_) | exact HR198.out)) | (with_reducible refine Kd.C_alloc ?_ _) | (with_reducible refine Kd.C_drewN ?_ _) | (with_reducible refine Kd.C_drew ?_))); (case side2 => exact HC198.out); rintro e w' ⟨rfl, ⟨nd, rfl⟩⟩; refine ⟨_, rfl, ?_⟩) | ((with_reducible refine gate_callee (f := 27) rfl ?_); refine goesL_ (some 84) rfl rfl Tryd.func27 (by kernel_rfl) rfl #[.slice Ao50 x12_3.length co50, .slice A1 l1.length c1, .int .i64 ((rd_T31 t182 x16_3).f0), .int .u8 x14_10] rfl (by (try simp only [List.map_toArray, List.map_cons, List.map_nil]); first | done | rfl | (simp only [List.length_drop, List.length_take]; rfl)) ?_; (with_reducible refine (selvedgeref17_set.calls k3 (fun k_ => some k_ = (.slice Ao50 x12_3.length co50 : Value).ownBlock) (.slice Ao50 x12_3.length co50) x12_3 _ _ l1 ((rd_T31 t182 x16_3).f0) x14_10 t200 w _ ?side1 ?side2 ?side3 ?side4 A42.out).mono ?_); (case side1 => repeat (first | (with_reducible first | exact HB.out | apply below_alloc | apply pw_below_drewN | apply below_drew1 | refine below_set ?_ GE186.out) | exact HB.out)); (case side2 => exact Kd.R_tight rfl HO_12.out); (case side3 => exact Kd.C_kept_came (Kd.heap_int .u8) HR1.out (by repeat (first | (with_reducible first | exact HB.out | apply below_alloc | apply pw_below_drewN | apply below_drew1 | refine below_set ?_ GE186.out) | exact HB.out)) (fun k_ hs_ => (fun e_ => Kd.R_base HO_12.out k_ e_.symm) hs_)); (case side4 => exact HC1.out); rintro e w52 ⟨rfl, hy0, hb, hkp⟩; refine ⟨_, rfl, ?_⟩; have n0_ := Aside0.mk (Kd.R_reok rfl hy0 (fun k_ e_ => HO_12.out.1 k_ e_)); have n1_ := Aside0.mk (Kd.R_mono (ok' := fun k_ => k_ ≠ gb186) (Kd.R_keptB ((Kd.R_apart' HO_15.out (Kd.R_typed HO_12.out) (by decide))) hkp (fun k_ hk_ hs_ => (hk_.2) hs_)) (fun k_ hk_ => hk_.1.1)); have n2_ := Aside0.mk (blk_kept (by (with_reducible repeat (first | refine blk_drewN ?_ _ | refine blk_drew ?_ | refine blk_alloc ?_ _)); exact BK186.out) hkp (fun hs_ => (fun e_ => (Kd.R_ne HO_12.out BK186.out (by decide)) e_) hs_)); have n3_ := Aside0.mk (hb); clear HO_12; clear HO_15; clear BK186; clear HB; have HO_12 := n0_; have HO_15 := n1_; have BK186 := n2_; have HB := n3_; clear n0_ n1_ n2_ n3_; (try clear hb); (try clear hkp); (try clear hy0); have hcz53_0 : w52.cell? ⟨gb186, 0, none⟩ = some (.int .i64 ((rd_T31 t182 x16_3).f0)) := (blk_cell BK186.out 0).trans rfl; have hcz53_1 : w52.cell? ⟨gb186, 1, none⟩ = some (.int .i64 ((rd_T31 t182 x16_3).f1)) := (blk_cell BK186.out 1).trans rfl; have hfz53_0 := blk_frozen BK186.out 0; have hfz53_1 := blk_frozen BK186.out 1) | ((with_reducible refine gate_callee (f := 27) rfl ?_); refine goesL_ (some 90) rfl rfl Tryd.func27 (by kernel_rfl) rfl #[.slice Ao50 x12_3.length co50, .slice A1 l1.length c1, .int .i64 ((rd_T31 t182 x16_3).f1), .int .u8 x14_10] rfl (by (try simp only [List.map_toArray, List.map_cons, List.map_nil]); first | done | rfl | (simp only [List.length_drop, List.length_take]; rfl)) ?_; (with_reducible refine (selvedgeref17_set.calls k3 (fun k_ => some k_ = (.slice Ao50 x12_3.length co50 : Value).ownBlock) (.slice Ao50 x12_3.length co50) t200 _ _ l1 ((rd_T31 t182 x16_3).f1) x14_10 t201 w _ ?side1 ?side2 ?side3 ?side4 A43.out).mono ?_); (case side1 => repeat (first | (with_reducible first | exact HB.out | apply below_alloc | apply pw_below_drewN | apply below_drew1 | refine below_set ?_ GE186.out) | exact HB.out)); (case side2 => exact Kd.R_tight rfl HO_12.out); (case side3 => exact Kd.C_kept_came (Kd.heap_int .u8) HR1.out (by repeat (first | (with_reducible first | exact HB.out | apply below_alloc | apply pw_below_drewN | apply below_drew1 | refine below_set ?_ GE186.out) | exact HB.out)) (fun k_ hs_ => (fun e_ => Kd.R_base HO_12.out k_ e_.symm) hs_)); (case side4 => exact HC1.out); rintro e w54 ⟨rfl, hy0, hb, hkp⟩; refine ⟨_, rfl, ?_⟩; have n0_ := Aside0.mk (Kd.R_reok rfl hy0 (fun k_ e_ => HO_12.out.1 k_ e_)); have n1_ := Aside0.mk (Kd.R_mono (ok' := fun k_ => k_ ≠ gb186) (Kd.R_keptB ((Kd.R_apart' HO_15.out (Kd.R_typed HO_12.out) (by decide))) hkp (fun k_ hk_ hs_ => (hk_.2) hs_)) (fun k_ hk_ => hk_.1.1)); have n2_ := Aside0.mk (blk_kept (by (with_reducible repeat (first | refine blk_drewN ?_ _ | refine blk_drew ?_ | refine blk_alloc ?_ _)); exact BK186.out) hkp (fun hs_ => (fun e_ => (Kd.R_ne HO_12.out BK186.out (by decide)) e_) hs_)); have n3_ := Aside0.mk (hb); clear HO_12; clear HO_15; clear BK186; clear HB; have HO_12 := n0_; have HO_15 := n1_; have BK186 := n2_; have HB := n3_; clear n0_ n1_ n2_ n3_; (try clear hb); (try clear hkp); (try clear hy0)))
                    go_roundg k3
                    case measure => have := HJ6.out; have := HJ10.out; have := HK3.out; omega
                    case rel => exact ⟨(t201), (wrap64 (x16_3 + 1)), (by first | rfl | (simp; done) | (simp [*]; done)), H', ⟨by have := HJ6.out; have := HJ10.out; have := HK3.out; omega⟩, ⟨mvR HO_12⟩, ⟨by (with_reducible repeat (first | apply Kd.R_alloc | apply Kd.R_drewN | apply Kd.R_drew)); exact Kd.R_mono HO_15.out (fun _ hk => trivial)⟩, ⟨by repeat (first | (with_reducible first | exact HB.out | apply below_alloc | apply pw_below_drewN | apply below_drew1 | refine below_set ?_ GE186.out) | exact HB.out)⟩⟩
                   ·rw [if_neg c41] at H
                    have c41b0 : (t199 == x14_10) = false := beq_eq_false_iff_ne.mpr c41
                    have c41b1 : (t199 != x14_10) = true := bne_iff_ne.mpr c41
                    replace H := Option.bind_eq_some_iff.mp H
                    obtain ⟨t202, A550, H⟩ := H
                    replace H : ((selvedgeref17_set.f k3 t202 l1 ((rd_T31 t182 x16_3).f1) x13_10).bind fun t203 => (selvedgeref17_Resolve.l0 k3 l1 a4 t203 x13_10 x14_10 t182 (wrap64 (x16_3 + 1)))) = some (r1, r2) := H
                    have A55 := Aside0.mk A550
                    clear A550
                    replace H := Option.bind_eq_some_iff.mp H
                    obtain ⟨t203, A560, H⟩ := H
                    replace H : (selvedgeref17_Resolve.l0 k3 l1 a4 t203 x13_10 x14_10 t182 (wrap64 (x16_3 + 1))) = some (r1, r2) := H
                    have A56 := Aside0.mk A560
                    clear A560
                    have H' := Aside0.mk H
                    clear H
                    obtain ⟨Ao57, co57, eo57⟩ := Kd.R_slice HO_15.out
                    subst eo57
                    have p185 := dT (0 ≤ (x16_3 : Int))
                    have q185 := dT (x16_3 < (t182.length : Int))
                    obtain ⟨ad185, e185, hx185_0, hx185_1⟩ := at_T31 (Kd.R_reads' HO_15.out).2.2 x16_3 p185 q185
                    cases e185
                    replace p185 := eq_true p185
                    replace q185 := eq_true q185
                    go_wp2_with (first | ((with_reducible refine gate_dst (N := 17) rfl ?_); (try (refine gate_guard (by rfl) ?_; dsimp only)); refine box_event ?hg (N := 17) ?hd (cs := #[.int .i64 0, .int .i64 0]) (t := 31) ?hr ?_; (case hd => rfl); (case hg => rfl); (case hr => first | (go_simp; done) | (go_simp; rfl)); intro gb186 hg w58 hbox hb; have n0_ := Aside0.mk (Kd.R_below (mvR HO_12) hb); have n1_ := Aside0.mk (Kd.R_below (Kd.R_elderB (mvR HO_15) gb186 (Nat.le_of_eq hg.symm)) hb); have n2_ := Aside0.mk (below_step (mvB HB) hb); have n3_ := Aside0.mk (hbox); have n4_ := Aside0.mk ((by rw [hg]; exact (below_size (mvB HB)) : w.heap.size ≤ gb186)); have n5_ := Aside0.mk ((by rw [hg]; exact (below_size (mvB HB)) : w.heap.size ≤ gb186)); clear HO_12; clear HO_15; clear HB; have HO_12 := n0_; have HO_15 := n1_; have HB := n2_; have BK186 := n3_; have GW186 := n4_; have GE186 := n5_; clear n0_ n1_ n2_ n3_ n4_ n5_; clear hb hbox hg; have hcz59_0 : w58.cell? ⟨gb186, 0, none⟩ = some (.int .i64 0) := (blk_cell BK186.out 0).trans rfl; have hcz59_1 : w58.cell? ⟨gb186, 1, none⟩ = some (.int .i64 0) := (blk_cell BK186.out 1).trans rfl; have hfz59_0 := blk_frozen BK186.out 0; have hfz59_1 := blk_frozen BK186.out 1) | ((with_reducible refine gate_store (t := 31) (p := 17) rfl ?_); refine store_event (t := 31) (p := 17) (v := ?vo_w60) (w1 := ((w58.setCell ⟨gb186, 0, none⟩ (.int .i64 ((rd_T31 t182 x16_3).f0))).setCell ⟨gb186, 1, none⟩ (.int .i64 ((rd_T31 t182 x16_3).f1)))) ?hg ?ho ?hn ?hr ?_; (case ho => rfl); (case hg => rfl); (case hn => rfl); (case hr => first | (go_simp; done) | (go_simp; rfl)); intro w60 hw; have n0_ : Aside0 (Kd.R (Kd.int .u8) 33 w60 w.heap.size (fun _ => True) v180 x12_3) := ⟨(by rw [hw]; exact (by (with_reducible repeat (first | apply Kd.R_alloc | apply Kd.R_drewN | apply Kd.R_drew)); exact Kd.R_mono (Kd.R_far (p := ⟨gb186, 1, none⟩) (Kd.R_far (p := ⟨gb186, 0, none⟩) (Kd.R_types HO_12.out BK186.out (by decide)) (fun _ hk => hk.2) (.int .i64 ((rd_T31 t182 x16_3).f0))) (fun _ hk => hk.2) (.int .i64 ((rd_T31 t182 x16_3).f1))) (fun _ hk => trivial)))⟩; have n1_ : Aside0 (Kd.R k31 31 w60 w.heap.size (fun k_ => k_ ≠ gb186) (.slice (some ad185) t182.length co57) t182) := ⟨(by rw [hw]; exact (by (with_reducible repeat (first | apply Kd.R_alloc | apply Kd.R_drewN | apply Kd.R_drew)); exact Kd.R_mono (Kd.R_far (p := ⟨gb186, 1, none⟩) (Kd.R_far (p := ⟨gb186, 0, none⟩) (Kd.R_mono HO_15.out (fun k_ hk => (⟨hk, hk.2⟩ : _ ∧ k_ ≠ gb186))) (fun _ hk => hk.2) (.int .i64 ((rd_T31 t182 x16_3).f0))) (fun _ hk => hk.2) (.int .i64 ((rd_T31 t182 x16_3).f1))) (fun _ hk => hk.1.2)))⟩; have n2_ : Aside0 (w60.heap[gb186]? = some (.cells #[.int .i64 ((rd_T31 t182 x16_3).f0), .int .i64 ((rd_T31 t182 x16_3).f1)] 31 (0, 0))) := ⟨(by rw [hw]; exact (by (with_reducible repeat (first | refine blk_drewN ?_ _ | refine blk_drew ?_ | refine blk_alloc ?_ _)); refine blk_put (cs := #[.int .i64 ((rd_T31 t182 x16_3).f0), .int .i64 0]) ?_ 1 _ rfl; (with_reducible repeat (first | refine blk_drewN ?_ _ | refine blk_drew ?_ | refine blk_alloc ?_ _)); refine blk_put (cs := #[.int .i64 0, .int .i64 0]) ?_ 0 _ rfl; (with_reducible repeat (first | refine blk_drewN ?_ _ | refine blk_drew ?_ | refine blk_alloc ?_ _)); exact BK186.out))⟩; have n3_ : Aside0 (Below w.heap.size w w60) := ⟨(by rw [hw]; exact (by repeat (first | (with_reducible first | exact HB.out | apply below_alloc | apply pw_below_drewN | apply below_drew1 | refine below_set ?_ GE186.out) | exact HB.out)))⟩; clear hw; clear HO_12; clear HO_15; clear BK186; clear HB; have HO_12 := n0_; have HO_15 := n1_; have BK186 := n2_; have HB := n3_; clear n0_ n1_ n2_ n3_; have hcz61_0 : w60.cell? ⟨gb186, 0, none⟩ = some (.int .i64 ((rd_T31 t182 x16_3).f0)) := (blk_cell BK186.out 0).trans rfl; have hcz61_1 : w60.cell? ⟨gb186, 1, none⟩ = some (.int .i64 ((rd_T31 t182 x16_3).f1)) := (blk_cell BK186.out 1).trans rfl; have hfz61_0 := blk_frozen BK186.out 0; have hfz61_1 := blk_frozen BK186.out 1; obtain ⟨Ao63, co63, eo63⟩ := Kd.R_slice HO_12.out; subst eo63; have q62 : (((rd_T31 t182 x16_3).f1) : Int) ≤ ((x12_3.length : Int) : Int) := of_decide_eq_true (by first | (with_reducible assumption) | assumption); obtain ⟨i062, hi062, _, hsz62, _⟩ := info_parts info33; have hroom62 : x12_3.length ≤ co63 := (Kd.R_reads' HO_12.out).2.1; have hC62 : Kd.C (Kd.int .u8) _ Ao63 x12_3.length x12_3 := (Kd.R_reads' HO_12.out).2.2; have ql62 : ((ji18) : Int) ≤ (((rd_T31 t182 x16_3).f1) : Int) := of_decide_eq_true (by first | (with_reducible assumption) | assumption); have q062 : (0 : Int) ≤ ((ji18) : Int) := of_decide_eq_true (by first | (with_reducible assumption) | assumption); have hcut62 := cut_mid (P := Tryd.prog) 23 33 .i64 .i64 Tryd.underlying23 hi062 1 hsz62 Ao63 x12_3.length co63 (ji18) ((rd_T31 t182 x16_3).f1) q062 ql62 q62 hroom62; have hr62 := Kd.C_mid (lo := ((ji18) : Int).toNat) (hi := (((rd_T31 t182 x16_3).f1) : Int).toNat) (c := co63) hC62 (by omega) (by omega) hroom62; obtain ⟨A62, hA62⟩ : ∃ A1, A1 = (if co63 = ((ji18) : Int).toNat then Ao63 else (Ao63 : Option Addr).map (·.add (((ji18) : Int).toNat * 1))) := ⟨_, rfl⟩; obtain ⟨c62, hc62⟩ : ∃ c1, c1 = co63 - ((ji18) : Int).toNat := ⟨_, rfl⟩; have hy62 : y187.length = (((rd_T31 t182 x16_3).f1) : Int).toNat - ((ji18) : Int).toNat := (by rw [Ny187.out, List.length_drop, List.length_take] <;> omega); rw [show ((x12_3).take (((rd_T31 t182 x16_3).f1) : Int).toNat).drop ((ji18) : Int).toNat = y187 from Ny187.out.symm] at hr62; replace hr62 : Kd.C (Kd.int .u8) _ A62 y187.length y187 := (by rw [hA62]; exact hr62); rw [← hy62, ← hA62, ← hc62] at hcut62; have HR190 := Aside0.mk hr62; have HC190 := Aside0.mk (show y187.length ≤ c62 from by rw [hy62, hc62]; exact Nat.sub_le_sub_right (Nat.le_trans (by omega) hroom62) _); clear hr62 hC62 hroom62 hi062 hsz62 hc62; have KY62 := Aside0.mk hy62; have KA62 := Aside0.mk hA62; clear hy62 hA62; have KL62 := Aside0.mk (show (((rd_T31 t182 x16_3).f1) : Int).toNat ≤ x12_3.length from by omega); have KM62 := Aside0.mk (show ((ji18) : Int).toNat ≤ (((rd_T31 t182 x16_3).f1) : Int).toNat from by omega); replace q62 := eq_true q62) | ((with_reducible refine gate_callee (f := 25) rfl ?_); refine goesL_ (some 64) rfl rfl Tryd.func25 (by kernel_rfl) rfl #[.slice A62 y187.length c62, .int .u8 x13_10] rfl (by (try simp only [List.map_toArray, List.map_cons, List.map_nil]); first | done | rfl | (simp only [List.length_drop, List.length_take]; rfl)) ?_; (with_reducible refine (selvedgeref17_among.calls k3 _ _ y187 x13_10 false _ ?side1 ?side2 A22.out).mono ?_); (case side1 => repeat (first | exact (by repeat (first | (with_reducible exact HR190.out) | (with_reducible refine Kd.C_alloc ?_ _) | (with_reducible refine Kd.C_drewN ?_ _) | (with_reducible refine Kd.C_drew ?_) | exact HR190.out)) | (with_reducible refine Kd.C_alloc ?_ _) | (with_reducible refine Kd.C_drewN ?_ _) | (with_reducible refine Kd.C_drew ?_))); (case side2 => exact HC190.out); rintro e w' ⟨rfl, ⟨nd, rfl⟩⟩; refine ⟨_, rfl, ?_⟩) | ((with_reducible refine gate_callee (f := 25) rfl ?_); refine goesL_ (some 68) rfl rfl Tryd.func25 (by kernel_rfl) rfl #[.slice A62 y187.length c62, .int .u8 x14_10] rfl (by (try simp only [List.map_toArray, List.map_cons, List.map_nil]); first | done | rfl | (simp only [List.length_drop, List.length_take]; rfl)) ?_; (with_reducible refine (selvedgeref17_among.calls k3 _ _ y187 x14_10 true _ ?side1 ?side2 A36.out).mono ?_); (case side1 => repeat (first | exact (by repeat (first | (with_reducible exact HR190.out) | (with_reducible refine Kd.C_alloc ?_ _) | (with_reducible refine Kd.C_drewN ?_ _) | (with_reducible refine Kd.C_drew ?_) | exact HR190.out)) | (with_reducible refine Kd.C_alloc ?_ _) | (with_reducible refine Kd.C_drewN ?_ _) | (with_reducible refine Kd.C_drew ?_))); (case side2 => exact HC190.out); rintro e w' ⟨rfl, ⟨nd, rfl⟩⟩; refine ⟨_, rfl, ?_⟩; have q64 : (((rd_T31 t182 x16_3).f0) : Int) ≤ ((x12_3.length : Int) : Int) := of_decide_eq_true (by first | (with_reducible assumption) | assumption); obtain ⟨i064, hi064, _, hsz64, _⟩ := info_parts info33; have hroom64 : x12_3.length ≤ co63 := (Kd.R_reads' HO_12.out).2.1; have hC64 : Kd.C (Kd.int .u8) _ Ao63 x12_3.length x12_3 := (Kd.R_reads' HO_12.out).2.2; have hcut64 := cut_to (P := Tryd.prog) 23 33 .i64 Tryd.underlying23 hi064 Ao63 x12_3.length co63 ((rd_T31 t182 x16_3).f0) (of_decide_eq_true (by first | (with_reducible assumption) | assumption)) q64 hroom64; have hr64 := Kd.C_take (m := (((rd_T31 t182 x16_3).f0) : Int).toNat) hC64 (by omega); have hy64 : y195.length = (((rd_T31 t182 x16_3).f0) : Int).toNat := (by rw [Ny195.out, List.length_take]; omega); rw [← Ny195.out] at hr64; rw [← hy64] at hcut64; have HR198 := Aside0.mk hr64; have HC198 := Aside0.mk (show y195.length ≤ co63 from by omega); clear hr64 hC64 hroom64 hi064 hsz64; have KY64 := Aside0.mk hy64; clear hy64; have KL64 := Aside0.mk (show (((rd_T31 t182 x16_3).f0) : Int).toNat ≤ x12_3.length from by omega); replace q64 := eq_true q64) | ((with_reducible refine gate_callee (f := 26) rfl ?_); refine goesL_ (some 75) rfl rfl Tryd.func26 (by kernel_rfl) rfl #[.slice Ao63 y195.length co63, .int .u8 a4] rfl (by (try simp only [List.map_toArray, List.map_cons, List.map_nil]); first | done | rfl | (simp only [List.length_drop, List.length_take]; rfl)) ?_; (with_reducible refine (selvedgeref17_ahead.calls k3 _ _ y195 a4 t199 _ ?side1 ?side2 A40.out).mono ?_); (case side1 => repeat (first | exact (by repeat (first | (with_reducible exact HR198.out) | (with_reducible refine Kd.C_alloc ?_ _) | (with_reducible refine Kd.C_drewN ?_ _) | (with_reducible refine Kd.C_drew ?_) | exact HR198.out)) | (with_reducible refine Kd.C_alloc ?_ _) | (with_reducible refine Kd.C_drewN ?_ _) | (with_reducible refine Kd.C_drew ?_))); (case side2 => exact HC198.out); rintro e w' ⟨rfl, ⟨nd, rfl⟩⟩; refine ⟨_, rfl, ?_⟩) | ((with_reducible refine gate_callee (f := 27) rfl ?_); refine goesL_ (some 84) rfl rfl Tryd.func27 (by kernel_rfl) rfl #[.slice Ao63 x12_3.length co63, .slice A1 l1.length c1, .int .i64 ((rd_T31 t182 x16_3).f0), .int .u8 x13_10] rfl (by (try simp only [List.map_toArray, List.map_cons, List.map_nil]); first | done | rfl | (simp only [List.length_drop, List.length_take]; rfl)) ?_; (with_reducible refine (selvedgeref17_set.calls k3 (fun k_ => some k_ = (.slice Ao63 x12_3.length co63 : Value).ownBlock) (.slice Ao63 x12_3.length co63) x12_3 _ _ l1 ((rd_T31 t182 x16_3).f0) x13_10 t202 w _ ?side1 ?side2 ?side3 ?side4 A55.out).mono ?_); (case side1 => repeat (first | (with_reducible first | exact HB.out | apply below_alloc | apply pw_below_drewN | apply below_drew1 | refine below_set ?_ GE186.out) | exact HB.out)); (case side2 => exact Kd.R_tight rfl HO_12.out); (case side3 => exact Kd.C_kept_came (Kd.heap_int .u8) HR1.out (by repeat (first | (with_reducible first | exact HB.out | apply below_alloc | apply pw_below_drewN | apply below_drew1 | refine below_set ?_ GE186.out) | exact HB.out)) (fun k_ hs_ => (fun e_ => Kd.R_base HO_12.out k_ e_.symm) hs_)); (case side4 => exact HC1.out); rintro e w65 ⟨rfl, hy0, hb, hkp⟩; refine ⟨_, rfl, ?_⟩; have n0_ := Aside0.mk (Kd.R_reok rfl hy0 (fun k_ e_ => HO_12.out.1 k_ e_)); have n1_ := Aside0.mk (Kd.R_mono (ok' := fun k_ => k_ ≠ gb186) (Kd.R_keptB ((Kd.R_apart' HO_15.out (Kd.R_typed HO_12.out) (by decide))) hkp (fun k_ hk_ hs_ => (hk_.2) hs_)) (fun k_ hk_ => hk_.1.1)); have n2_ := Aside0.mk (blk_kept (by (with_reducible repeat (first | refine blk_drewN ?_ _ | refine blk_drew ?_ | refine blk_alloc ?_ _)); exact BK186.out) hkp (fun hs_ => (fun e_ => (Kd.R_ne HO_12.out BK186.out (by decide)) e_) hs_)); have n3_ := Aside0.mk (hb); clear HO_12; clear HO_15; clear BK186; clear HB; have HO_12 := n0_; have HO_15 := n1_; have BK186 := n2_; have HB := n3_; clear n0_ n1_ n2_ n3_; (try clear hb); (try clear hkp); (try clear hy0); have hcz66_0 : w65.cell? ⟨gb186, 0, none⟩ = some (.int .i64 ((rd_T31 t182 x16_3).f0)) := (blk_cell BK186.out 0).trans rfl; have hcz66_1 : w65.cell? ⟨gb186, 1, none⟩ = some (.int .i64 ((rd_T31 t182 x16_3).f1)) := (blk_cell BK186.out 1).trans rfl; have hfz66_0 := blk_frozen BK186.out 0; have hfz66_1 := blk_frozen BK186.out 1) | ((with_reducible refine gate_callee (f := 27) rfl ?_); refine goesL_ (some 90) rfl rfl Tryd.func27 (by kernel_rfl) rfl #[.slice Ao63 x12_3.length co63, .slice A1 l1.length c1, .int .i64 ((rd_T31 t182 x16_3).f1), .int .u8 x13_10] rfl (by (try simp only [List.map_toArray, List.map_cons, List.map_nil]); first | done | rfl | (simp only [List.length_drop, List.length_take]; rfl)) ?_; (with_reducible refine (selvedgeref17_set.calls k3 (fun k_ => some k_ = (.slice Ao63 x12_3.length co63 : Value).ownBlock) (.slice Ao63 x12_3.length co63) t202 _ _ l1 ((rd_T31 t182 x16_3).f1) x13_10 t203 w _ ?side1 ?side2 ?side3 ?side4 A56.out).mono ?_); (case side1 => repeat (first | (with_reducible first | exact HB.out | apply below_alloc | apply pw_below_drewN | apply below_drew1 | refine below_set ?_ GE186.out) | exact HB.out)); (case side2 => exact Kd.R_tight rfl HO_12.out); (case side3 => exact Kd.C_kept_came (Kd.heap_int .u8) HR1.out (by repeat (first | (with_reducible first | exact HB.out | apply below_alloc | apply pw_below_drewN | apply below_drew1 | refine below_set ?_ GE186.out) | exact HB.out)) (fun k_ hs_ => (fun e_ => Kd.R_base HO_12.out k_ e_.symm) hs_)); (case side4 => exact HC1.out); rintro e w67 ⟨rfl, hy0, hb, hkp⟩; refine ⟨_, rfl, ?_⟩; have n0_ := Aside0.mk (Kd.R_reok rfl hy0 (fun k_ e_ => HO_12.out.1 k_ e_)); have n1_ := Aside0.mk (Kd.R_mono (ok' := fun k_ => k_ ≠ gb186) (Kd.R_keptB ((Kd.R_apart' HO_15.out (Kd.R_typed HO_12.out) (by decide))) hkp (fun k_ hk_ hs_ => (hk_.2) hs_)) (fun k_ hk_ => hk_.1.1)); have n2_ := Aside0.mk (blk_kept (by (with_reducible repeat (first | refine blk_drewN ?_ _ | refine blk_drew ?_ | refine blk_alloc ?_ _)); exact BK186.out) hkp (fun hs_ => (fun e_ => (Kd.R_ne HO_12.out BK186.out (by decide)) e_) hs_)); have n3_ := Aside0.mk (hb); clear HO_12; clear HO_15; clear BK186; clear HB; have HO_12 := n0_; have HO_15 := n1_; have BK186 := n2_; have HB := n3_; clear n0_ n1_ n2_ n3_; (try clear hb); (try clear hkp); (try clear hy0)))
                    go_roundg k3
                    case measure => have := HJ6.out; have := HJ10.out; have := HK3.out; omega
                    case rel => exact ⟨(t203), (wrap64 (x16_3 + 1)), (by first | rfl | (simp; done) | (simp [*]; done)), H', ⟨by have := HJ6.out; have := HJ10.out; have := HK3.out; omega⟩, ⟨mvR HO_12⟩, ⟨by (with_reducible repeat (first | apply Kd.R_alloc | apply Kd.R_drewN | apply Kd.R_drew)); exact Kd.R_mono HO_15.out (fun _ hk => trivial)⟩, ⟨by repeat (first | (with_reducible first | exact HB.out | apply below_alloc | apply pw_below_drewN | apply below_drew1 | refine below_set ?_ GE186.out) | exact HB.out)⟩⟩
                  ·rw [if_neg c39] at H
                   exact absurd H (by simp)
                 ·rw [if_neg c38] at H
                  exact absurd H (by simp)
                ·replace c37 := Bool.eq_false_iff.mpr c37
                 subst c37
                 have H1 : (selvedgeref17_Resolve.l0 k3 l1 a4 x12_3 x13_10 x14_10 t182 (wrap64 (x16_3 + 1))) = some (r1, r2) := by rw [if_neg (show ¬ (false = true) by decide)] at H; exact H
                 clear H
                 have H := H1
                 clear H1
                 have H' := Aside0.mk H
                 clear H
                 obtain ⟨Ao68, co68, eo68⟩ := Kd.R_slice HO_15.out
                 subst eo68
                 have p185 := dT (0 ≤ (x16_3 : Int))
                 have q185 := dT (x16_3 < (t182.length : Int))
                 obtain ⟨ad185, e185, hx185_0, hx185_1⟩ := at_T31 (Kd.R_reads' HO_15.out).2.2 x16_3 p185 q185
                 cases e185
                 replace p185 := eq_true p185
                 replace q185 := eq_true q185
                 go_wp2_with (first | ((with_reducible refine gate_dst (N := 17) rfl ?_); (try (refine gate_guard (by rfl) ?_; dsimp only)); refine box_event ?hg (N := 17) ?hd (cs := #[.int .i64 0, .int .i64 0]) (t := 31) ?hr ?_; (case hd => rfl); (case hg => rfl); (case hr => first | (go_simp; done) | (go_simp; rfl)); intro gb186 hg w69 hbox hb; have n0_ := Aside0.mk (Kd.R_below (mvR HO_12) hb); have n1_ := Aside0.mk (Kd.R_below (Kd.R_elderB (mvR HO_15) gb186 (Nat.le_of_eq hg.symm)) hb); have n2_ := Aside0.mk (below_step (mvB HB) hb); have n3_ := Aside0.mk (hbox); have n4_ := Aside0.mk ((by rw [hg]; exact (below_size (mvB HB)) : w.heap.size ≤ gb186)); have n5_ := Aside0.mk ((by rw [hg]; exact (below_size (mvB HB)) : w.heap.size ≤ gb186)); clear HO_12; clear HO_15; clear HB; have HO_12 := n0_; have HO_15 := n1_; have HB := n2_; have BK186 := n3_; have GW186 := n4_; have GE186 := n5_; clear n0_ n1_ n2_ n3_ n4_ n5_; clear hb hbox hg; have hcz70_0 : w69.cell? ⟨gb186, 0, none⟩ = some (.int .i64 0) := (blk_cell BK186.out 0).trans rfl; have hcz70_1 : w69.cell? ⟨gb186, 1, none⟩ = some (.int .i64 0) := (blk_cell BK186.out 1).trans rfl; have hfz70_0 := blk_frozen BK186.out 0; have hfz70_1 := blk_frozen BK186.out 1) | ((with_reducible refine gate_store (t := 31) (p := 17) rfl ?_); refine store_event (t := 31) (p := 17) (v := ?vo_w71) (w1 := ((w69.setCell ⟨gb186, 0, none⟩ (.int .i64 ((rd_T31 t182 x16_3).f0))).setCell ⟨gb186, 1, none⟩ (.int .i64 ((rd_T31 t182 x16_3).f1)))) ?hg ?ho ?hn ?hr ?_; (case ho => rfl); (case hg => rfl); (case hn => rfl); (case hr => first | (go_simp; done) | (go_simp; rfl)); intro w71 hw; have n0_ : Aside0 (Kd.R (Kd.int .u8) 33 w71 w.heap.size (fun _ => True) v180 x12_3) := ⟨(by rw [hw]; exact (by (with_reducible repeat (first | apply Kd.R_alloc | apply Kd.R_drewN | apply Kd.R_drew)); exact Kd.R_mono (Kd.R_far (p := ⟨gb186, 1, none⟩) (Kd.R_far (p := ⟨gb186, 0, none⟩) (Kd.R_types HO_12.out BK186.out (by decide)) (fun _ hk => hk.2) (.int .i64 ((rd_T31 t182 x16_3).f0))) (fun _ hk => hk.2) (.int .i64 ((rd_T31 t182 x16_3).f1))) (fun _ hk => trivial)))⟩; have n1_ : Aside0 (Kd.R k31 31 w71 w.heap.size (fun k_ => k_ ≠ gb186) (.slice (some ad185) t182.length co68) t182) := ⟨(by rw [hw]; exact (by (with_reducible repeat (first | apply Kd.R_alloc | apply Kd.R_drewN | apply Kd.R_drew)); exact Kd.R_mono (Kd.R_far (p := ⟨gb186, 1, none⟩) (Kd.R_far (p := ⟨gb186, 0, none⟩) (Kd.R_mono HO_15.out (fun k_ hk => (⟨hk, hk.2⟩ : _ ∧ k_ ≠ gb186))) (fun _ hk => hk.2) (.int .i64 ((rd_T31 t182 x16_3).f0))) (fun _ hk => hk.2) (.int .i64 ((rd_T31 t182 x16_3).f1))) (fun _ hk => hk.1.2)))⟩; have n2_ : Aside0 (w71.heap[gb186]? = some (.cells #[.int .i64 ((rd_T31 t182 x16_3).f0), .int .i64 ((rd_T31 t182 x16_3).f1)] 31 (0, 0))) := ⟨(by rw [hw]; exact (by (with_reducible repeat (first | refine blk_drewN ?_ _ | refine blk_drew ?_ | refine blk_alloc ?_ _)); refine blk_put (cs := #[.int .i64 ((rd_T31 t182 x16_3).f0), .int .i64 0]) ?_ 1 _ rfl; (with_reducible repeat (first | refine blk_drewN ?_ _ | refine blk_drew ?_ | refine blk_alloc ?_ _)); refine blk_put (cs := #[.int .i64 0, .int .i64 0]) ?_ 0 _ rfl; (with_reducible repeat (first | refine blk_drewN ?_ _ | refine blk_drew ?_ | refine blk_alloc ?_ _)); exact BK186.out))⟩; have n3_ : Aside0 (Below w.heap.size w w71) := ⟨(by rw [hw]; exact (by repeat (first | (with_reducible first | exact HB.out | apply below_alloc | apply pw_below_drewN | apply below_drew1 | refine below_set ?_ GE186.out) | exact HB.out)))⟩; clear hw; clear HO_12; clear HO_15; clear BK186; clear HB; have HO_12 := n0_; have HO_15 := n1_; have BK186 := n2_; have HB := n3_; clear n0_ n1_ n2_ n3_; have hcz72_0 : w71.cell? ⟨gb186, 0, none⟩ = some (.int .i64 ((rd_T31 t182 x16_3).f0)) := (blk_cell BK186.out 0).trans rfl; have hcz72_1 : w71.cell? ⟨gb186, 1, none⟩ = some (.int .i64 ((rd_T31 t182 x16_3).f1)) := (blk_cell BK186.out 1).trans rfl; have hfz72_0 := blk_frozen BK186.out 0; have hfz72_1 := blk_frozen BK186.out 1; obtain ⟨Ao74, co74, eo74⟩ := Kd.R_slice HO_12.out; subst eo74; have q73 : (((rd_T31 t182 x16_3).f1) : Int) ≤ ((x12_3.length : Int) : Int) := of_decide_eq_true (by first | (with_reducible assumption) | assumption); obtain ⟨i073, hi073, _, hsz73, _⟩ := info_parts info33; have hroom73 : x12_3.length ≤ co74 := (Kd.R_reads' HO_12.out).2.1; have hC73 : Kd.C (Kd.int .u8) _ Ao74 x12_3.length x12_3 := (Kd.R_reads' HO_12.out).2.2; have ql73 : ((ji18) : Int) ≤ (((rd_T31 t182 x16_3).f1) : Int) := of_decide_eq_true (by first | (with_reducible assumption) | assumption); have q073 : (0 : Int) ≤ ((ji18) : Int) := of_decide_eq_true (by first | (with_reducible assumption) | assumption); have hcut73 := cut_mid (P := Tryd.prog) 23 33 .i64 .i64 Tryd.underlying23 hi073 1 hsz73 Ao74 x12_3.length co74 (ji18) ((rd_T31 t182 x16_3).f1) q073 ql73 q73 hroom73; have hr73 := Kd.C_mid (lo := ((ji18) : Int).toNat) (hi := (((rd_T31 t182 x16_3).f1) : Int).toNat) (c := co74) hC73 (by omega) (by omega) hroom73; obtain ⟨A73, hA73⟩ : ∃ A1, A1 = (if co74 = ((ji18) : Int).toNat then Ao74 else (Ao74 : Option Addr).map (·.add (((ji18) : Int).toNat * 1))) := ⟨_, rfl⟩; obtain ⟨c73, hc73⟩ : ∃ c1, c1 = co74 - ((ji18) : Int).toNat := ⟨_, rfl⟩; have hy73 : y187.length = (((rd_T31 t182 x16_3).f1) : Int).toNat - ((ji18) : Int).toNat := (by rw [Ny187.out, List.length_drop, List.length_take] <;> omega); rw [show ((x12_3).take (((rd_T31 t182 x16_3).f1) : Int).toNat).drop ((ji18) : Int).toNat = y187 from Ny187.out.symm] at hr73; replace hr73 : Kd.C (Kd.int .u8) _ A73 y187.length y187 := (by rw [hA73]; exact hr73); rw [← hy73, ← hA73, ← hc73] at hcut73; have HR190 := Aside0.mk hr73; have HC190 := Aside0.mk (show y187.length ≤ c73 from by rw [hy73, hc73]; exact Nat.sub_le_sub_right (Nat.le_trans (by omega) hroom73) _); clear hr73 hC73 hroom73 hi073 hsz73 hc73; have KY73 := Aside0.mk hy73; have KA73 := Aside0.mk hA73; clear hy73 hA73; have KL73 := Aside0.mk (show (((rd_T31 t182 x16_3).f1) : Int).toNat ≤ x12_3.length from by omega); have KM73 := Aside0.mk (show ((ji18) : Int).toNat ≤ (((rd_T31 t182 x16_3).f1) : Int).toNat from by omega); replace q73 := eq_true q73) | ((with_reducible refine gate_callee (f := 25) rfl ?_); refine goesL_ (some 64) rfl rfl Tryd.func25 (by kernel_rfl) rfl #[.slice A73 y187.length c73, .int .u8 x13_10] rfl (by (try simp only [List.map_toArray, List.map_cons, List.map_nil]); first | done | rfl | (simp only [List.length_drop, List.length_take]; rfl)) ?_; (with_reducible refine (selvedgeref17_among.calls k3 _ _ y187 x13_10 false _ ?side1 ?side2 A22.out).mono ?_); (case side1 => repeat (first | exact (by repeat (first | (with_reducible exact HR190.out) | (with_reducible refine Kd.C_alloc ?_ _) | (with_reducible refine Kd.C_drewN ?_ _) | (with_reducible refine Kd.C_drew ?_) | exact HR190.out)) | (with_reducible refine Kd.C_alloc ?_ _) | (with_reducible refine Kd.C_drewN ?_ _) | (with_reducible refine Kd.C_drew ?_))); (case side2 => exact HC190.out); rintro e w' ⟨rfl, ⟨nd, rfl⟩⟩; refine ⟨_, rfl, ?_⟩) | ((with_reducible refine gate_callee (f := 25) rfl ?_); refine goesL_ (some 68) rfl rfl Tryd.func25 (by kernel_rfl) rfl #[.slice A73 y187.length c73, .int .u8 x14_10] rfl (by (try simp only [List.map_toArray, List.map_cons, List.map_nil]); first | done | rfl | (simp only [List.length_drop, List.length_take]; rfl)) ?_; (with_reducible refine (selvedgeref17_among.calls k3 _ _ y187 x14_10 false _ ?side1 ?side2 A36.out).mono ?_); (case side1 => repeat (first | exact (by repeat (first | (with_reducible exact HR190.out) | (with_reducible refine Kd.C_alloc ?_ _) | (with_reducible refine Kd.C_drewN ?_ _) | (with_reducible refine Kd.C_drew ?_) | exact HR190.out)) | (with_reducible refine Kd.C_alloc ?_ _) | (with_reducible refine Kd.C_drewN ?_ _) | (with_reducible refine Kd.C_drew ?_))); (case side2 => exact HC190.out); rintro e w' ⟨rfl, ⟨nd, rfl⟩⟩; refine ⟨_, rfl, ?_⟩))
                 go_roundg k3
                 case measure => have := HJ6.out; have := HJ10.out; have := HK3.out; omega
                 case rel => exact ⟨(x12_3), (wrap64 (x16_3 + 1)), (by first | rfl | (simp; done) | (simp [*]; done)), H', ⟨by have := HJ6.out; have := HJ10.out; have := HK3.out; omega⟩, ⟨mvR HO_12⟩, ⟨by (with_reducible repeat (first | apply Kd.R_alloc | apply Kd.R_drewN | apply Kd.R_drew)); exact Kd.R_mono HO_15.out (fun _ hk => trivial)⟩, ⟨by repeat (first | (with_reducible first | exact HB.out | apply below_alloc | apply pw_below_drewN | apply below_drew1 | refine below_set ?_ GE186.out) | exact HB.out)⟩⟩
              ·rw [if_neg c21] at H
               exact absurd H (by simp)
             ·rw [if_neg c20] at H
              exact absurd H (by simp)
            ·rw [if_neg c19] at H
             exact absurd H (by simp)
           ·rw [if_neg c17] at H
            exact absurd H (by simp)
          ·rw [if_neg c16] at H
           have c16b0 : decide (x16_3 < (t182.length : Int)) = false := decide_eq_false c16
           clear c16
           simp only [Option.some.injEq, Prod.mk.injEq] at H
           obtain ⟨rfl, rfl⟩ := H
           obtain ⟨Ao75, co75, eo75⟩ := Kd.R_slice HO_15.out
           subst eo75
           go_wp2
           go_ret2
           exact ⟨_, by first | rfl | (simp [errW_none, errW_some] <;> rfl) | (simp [*, errW_none, errW_some] <;> rfl), mvR HO_12, mvB HB⟩
     ·rw [if_neg c10] at H
      exact absurd H (by simp)

end Go.Proofs.YtiogpnefnapfeaaDoor.X
