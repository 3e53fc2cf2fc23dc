-- by xprint.py: the kit's printer over texts of this session
import Derived.Test.YtnpcfiahmadkjaaX0
namespace Go.Proofs.Ytnpcfiahmadkjaa.X
open Go.RowKit Go.Proofs.YtnpcfiahmadkjaaW.PrintWords Go.Proofs.YtnpcfiahmadkjaaW.PrintLast Go.Proofs.YtnpcfiahmadkjaaW.PrintMore
attribute [local go_sem] max2_int min2_int max_two min_two max_three min_three max_four min_four   -- for this text's walks alone
set_option linter.unusedVariables false
set_option linter.unusedSimpArgs false

/-! ### selvedgeref16_Isolate: function 24 -/
def selvedgeref16_Isolate.f (a0 : Int) : Option (Bool) := if a0 ≥ 20 then (some (decide (a0 ≤ 23))) else (some false)
set_option maxHeartbeats 8000000 in
set_option maxRecDepth 100000 in
theorem selvedgeref16_Isolate.calls (a0 : Int) (r : Bool) (w : World) (h : selvedgeref16_Isolate.f a0 = some r) :
  Calls Try.prog 24 #[.int .u8 a0] w fun e w' => e = .returned (.bool r) ∧ Drawn0 w w' := by
 have H : (if a0 ≥ 20 then (some (decide (a0 ≤ 23))) else (some false)) = some r := h
 clear h
 by_cases c2 : a0 ≥ 20
 ·rw [if_pos c2] at H
  have c2b0 : decide (20 ≤ a0) = true := decide_eq_true c2
  clear c2
  obtain rfl := Option.some.inj H
  go_enter Try.func24, Try.ntmps24
  go_wp2
  go_ret
  exact ⟨by first | rfl | (simp; done) | (simp [*]; done), by repeat (first | exact Drawn0.refl _ | apply Drawn0.step)⟩
 ·rw [if_neg c2] at H
  have c2b0 : decide (20 ≤ a0) = false := decide_eq_false c2
  clear c2
  obtain rfl := Option.some.inj H
  go_enter Try.func24, Try.ntmps24
  go_wp2
  go_ret
  exact ⟨by first | rfl | (simp; done) | (simp [*]; done), by repeat (first | exact Drawn0.refl _ | apply Drawn0.step)⟩

/-! ### selvedgeref16_w1: function 18 -/
def selvedgeref16_w1.l0 : Nat → List Int → Int → Int → Option (List Int)
 | 0, _, _, _ => none
 | k + 1, x0, x4, x5 => if x5 < (x0.length : Int) then (if 0 ≤ x5 then (if (rd x0 x5) = 9 then ((some (x0.set (x5 : Int).toNat x4 : List Int)).bind fun y127 => ((selvedgeref16_Isolate.f (rd y127 x5)).bind fun t129 => (if t129 = true then (selvedgeref16_w1.l0 k y127 14 (wrap64 (x5 + 1))) else (selvedgeref16_w1.l0 k y127 (rd y127 x5) (wrap64 (x5 + 1)))))) else ((selvedgeref16_Isolate.f (rd x0 x5)).bind fun t131 => (if t131 = true then (selvedgeref16_w1.l0 k x0 14 (wrap64 (x5 + 1))) else (selvedgeref16_w1.l0 k x0 (rd x0 x5) (wrap64 (x5 + 1)))))) else (none)) else (some x0)
def selvedgeref16_w1.f (k : Nat) (l0 : List Int) (a1 : Int) : Option (List Int) := selvedgeref16_w1.l0 k l0 a1 0
theorem selvedgeref16_w1.mono_l : ∀ k, (∀ y0 y1 y2, LeO (selvedgeref16_w1.l0 k y0 y1 y2) (selvedgeref16_w1.l0 (k + 1) y0 y1 y2))
 | 0 => fun _ _ _ r h => by simp [selvedgeref16_w1.l0] at h
 | k + 1 => by
  have ih0 := selvedgeref16_w1.mono_l k
  ·intro y0 y1 y2
   unfold selvedgeref16_w1.l0
   repeat' first
   | (with_reducible exact ih0 _ _ _)
   | (with_reducible exact LeO.refl _)
   | (with_reducible exact LeO.none _)
   | (with_reducible refine LeO.ite ?_ ?_)
   | (with_reducible refine LeO.bind ?_ (fun _ => ?_))
   | exact ih0 _ _ _
   | exact LeO.none _
   | refine LeO.ite ?_ ?_
   | refine LeO.bind ?_ (fun _ => ?_)
theorem selvedgeref16_w1.mono : ∀ a0 a1 k, LeO (selvedgeref16_w1.f k a0 a1) (selvedgeref16_w1.f (k + 1) a0 a1) := by
 intro a0 a1 k
 have ih0 := selvedgeref16_w1.mono_l k
 unfold selvedgeref16_w1.f
 repeat' first
   | (with_reducible exact ih0 _ _ _)
   | (with_reducible exact LeO.refl _)
   | (with_reducible exact LeO.none _)
   | (with_reducible refine LeO.ite ?_ ?_)
   | (with_reducible refine LeO.bind ?_ (fun _ => ?_))
   | exact ih0 _ _ _
   | exact LeO.none _
   | refine LeO.ite ?_ ?_
   | refine LeO.bind ?_ (fun _ => ?_)
set_option maxHeartbeats 8000000 in
set_option maxRecDepth 100000 in
theorem selvedgeref16_w1.calls (k : Nat) (P0_ : Nat → Prop) (u9000_ : Value) (l0 : List Int) (a1 : Int) (r : List Int) (w0 w : World) (hB : Below w0.heap.size w0 w) (ho0 : Kd.R (Kd.int .u8) 23 w w0.heap.size P0_ u9000_ l0) (h : selvedgeref16_w1.f k l0 a1 = some r) :
  Calls Try.prog 18 #[u9000_, .int .u8 a1] w fun e w' => e = .returned (.tuple #[]) ∧ Kd.R (Kd.int .u8) 23 w' w0.heap.size (fun k_ => (P0_ k_ ∨ w.heap.size ≤ k_)) u9000_ r ∧ Below w0.heap.size w0 w' ∧ Kept w w' (fun k_ => P0_ k_) := by
 have HO0 := Aside0.mk (show Kd.R (Kd.int .u8) 23 w w0.heap.size (fun k_ => (P0_ k_ ∨ w.heap.size ≤ k_)) u9000_ l0 from Kd.R_mono ho0 (fun k_ hk => (.inl hk)))
 have HK := Aside0.mk (Kept.refl w (fun k_ => P0_ k_))
 have HW0 := Aside0.mk hB.size
 have HB := Aside0.mk hB
 clear hB
 have H : (selvedgeref16_w1.l0 k l0 a1 0) = some r := h
 clear h
 have H' := Aside0.mk H
 clear H
 go_enter Try.func18, Try.ntmps18
 go_wp2
 go_loopg [4, 5] k (fun kq v4 v5 w' => ∃ (x0_1 : List Int) (x4_1 : Int) (x5_1 : Int), v4 = .int .u8 x4_1 ∧ v5 = .int .i64 x5_1 ∧ Aside0 (selvedgeref16_w1.l0 kq x0_1 x4_1 x5_1 = some r) ∧ Aside0 (kq ≤ k) ∧ Aside0 (Kd.R (Kd.int .u8) 23 w' w0.heap.size (fun k_ => (P0_ k_ ∨ w.heap.size ≤ k_)) u9000_ x0_1) ∧ Aside0 (Kept w w' (fun k_ => P0_ k_)) ∧ Aside0 (Below w0.heap.size w0 w'))
 case atStart => exact ⟨(l0), (a1), (0), (by first | rfl | (simp; done) | (simp [*]; done)), (by first | rfl | (simp; done) | (simp [*]; done)), H', ⟨Nat.le_refl _⟩, ⟨mvR HO0⟩, ⟨by repeat (first | (with_reducible first | exact HK.out | apply Kept.alloc | apply Kept.drewN | apply Kept.drew) | exact HK.out)⟩, ⟨mvB HB⟩⟩
 case round =>
  clear H'
  try clear c1
  try clear p2
  obtain ⟨x0_1, x4_1, x5_1, rfl, rfl, HA, HK1, HO_0, HK, HB⟩ := hrel
  cases gk with
  | zero => exact absurd HA.out (by simp [selvedgeref16_w1.l0])
  | succ k1 =>
   have H := HA.out
   clear HA
   simp only [selvedgeref16_w1.l0] at H
   by_cases c3 : x5_1 < (x0_1.length : Int)
   ·rw [if_pos c3] at H
    have c3b0 : decide (x5_1 < (x0_1.length : Int)) = true := decide_eq_true c3
    clear c3
    by_cases c4 : 0 ≤ x5_1
    ·rw [if_pos c4] at H
     have c4b0 : decide (0 ≤ x5_1) = true := decide_eq_true c4
     clear c4
     by_cases c5 : (rd x0_1 x5_1) = 9
     ·rw [if_pos c5] at H
      have c5b0 : ((rd x0_1 x5_1) == 9) = true := beq_iff_eq.mpr c5
      have c5b1 : ((rd x0_1 x5_1) != 9) = false := bne_eq_false_iff_eq.mpr c5
      clear c5
      obtain ⟨y127, hy127⟩ : ∃ y_ : List Int, y_ = (x0_1.set (x5_1 : Int).toNat x4_1) := ⟨_, rfl⟩
      replace H : ((selvedgeref16_Isolate.f (rd y127 x5_1)).bind fun t129 => (if t129 = true then (selvedgeref16_w1.l0 k1 y127 14 (wrap64 (x5_1 + 1))) else (selvedgeref16_w1.l0 k1 y127 (rd y127 x5_1) (wrap64 (x5_1 + 1))))) = some r := by first | (rw [hy127]; with_reducible exact H) | (have H2_ := (Option.bind_some _ _).symm.trans H; rw [hy127]; with_reducible exact H2_) | (have H2_ := (Option.bind_some _ _).symm.trans H; with_reducible exact H2_) | with_reducible exact H | (rw [hy127]; exact H) | exact H
      have Ny127 := Aside0.mk hy127
      clear hy127
      replace H := Option.bind_eq_some_iff.mp H
      obtain ⟨t129, A70, H⟩ := H
      replace H : (if t129 = true then (selvedgeref16_w1.l0 k1 y127 14 (wrap64 (x5_1 + 1))) else (selvedgeref16_w1.l0 k1 y127 (rd y127 x5_1) (wrap64 (x5_1 + 1)))) = some r := H
      have A7 := Aside0.mk A70
      clear A70
      by_cases c8 : t129 = true
      ·subst c8
       have H1 : (selvedgeref16_w1.l0 k1 y127 14 (wrap64 (x5_1 + 1))) = some r := by rw [if_pos rfl] at H; exact H
       clear H
       have H := H1
       clear H1
       have H' := Aside0.mk H
       clear H
       obtain ⟨Ao9, co9, eo9⟩ := Kd.R_slice HO_0.out
       subst eo9
       obtain ⟨ad126, e126, hx126_0, p126, q126⟩ := atI (Kd.R_reads' HO_0.out).2.2 x5_1
       cases e126
       have p6 := dT (0 ≤ (x5_1 : Int))
       have q6 : (x5_1 : Int) < ((x0_1.length : Int) : Int) := of_decide_eq_true (by first | (with_reducible assumption) | assumption)
       obtain ⟨go6, co6, eo6, gb6, gl6, cl6, HG6⟩ := Kd.R_form HO_0.out (by omega)
       (first | cases eo6 | (injection eo6 with ea_ en_ ec_; (first | subst ea_ | (injection ea_ with ea_; subst ea_)); subst ec_; clear en_))
       have GB6 := Aside0.mk gb6
       have GG6 := Aside0.mk HG6
       clear gb6 gl6 HG6
       have HMgo6 := Aside0.mk (show (P0_ go6 ∨ w.heap.size ≤ go6) from (HO_0.out.1 _ rfl))
       (first | simp only [add_plain] at hx126_0 | skip)
       obtain ⟨hx6_0, hf6_0⟩ := Kd.R_celln 0 HO_0.out (x5_1 : Int) p6 q6
       replace p6 := eq_true p6
       replace q6 := eq_true q6
       have HP10 := Kd.R_putg HO_0.out (x5_1 : Int) x4_1
       go_wp2_with (first | ((with_reducible refine gate_store (t := 23) (p := 21) rfl ?_); refine store_event (t := 23) (p := 21) (v := ?vo_w11) (w1 := (wr.setCell ⟨go6, (x5_1 : Int).toNat, none⟩ (.int .u8 x4_1))) ?hg ?ho ?hn ?hr ?_; (case ho => rfl); (case hg => rfl); (case hn => rfl); (case hr => first | (go_simp; done) | (go_simp; rfl)); intro w11 hw; have hg : wr.grownBy w11 (some go6) := (by rw [hw]; exact HP10.2); have hp_ : Kd.R (Kd.int .u8) 23 w11 w0.heap.size (fun k_ => (P0_ k_ ∨ w.heap.size ≤ k_)) (.slice (some ⟨go6, 0, none⟩) x0_1.length co9) y127 := (by rw [hw, Ny127.out]; exact HP10.1); clear HP10; have n0_ := Aside0.mk (hp_); have n1_ := Aside0.mk ((by rw [hw]; exact below_set (HB.out) GB6.out : Below w0.heap.size w0 w11)); have n2_ := Aside0.mk (Kept.of_grown (S := (fun k_ => P0_ k_)) hg (by repeat (first | (with_reducible first | exact HK.out | apply Kept.alloc | apply Kept.drewN | apply Kept.drew) | exact HK.out)) (fun k_ e_ => (HO_0.out.1 k_ e_))); clear HO_0; clear HB; clear HK; have HO_0 := n0_; have HB := n1_; have HK := n2_; clear n0_ n1_ n2_; clear hg hw hp_; have p128 := dT (0 ≤ (x5_1 : Int)); have q128 : x5_1 < (y127.length : Int) := (by have h_ : (x5_1 : Int) < ((x0_1.length : Int) : Int) := of_decide_eq_true (by first | (with_reducible assumption) | assumption); first | (have e_ := (Kd.R_reads' HO_0.out).1; omega) | simpa only [Ny127.out, List.length_set] using h_); have ql128 : ((x5_1 : Int) < ((x0_1.length : Int) : Int)) = True := eq_true (of_decide_eq_true (by first | (with_reducible assumption) | assumption)); obtain ⟨ad128, e128, hx128_0⟩ := Kd.at_int (Kd.R_reads' HO_0.out).2.2 x5_1 p128 q128; obtain rfl : (⟨go6, 0, none⟩ : Addr) = ad128 := (by injection e128); (first | simp only [add_plain] at hx128_0 | simp only [add_at] at hx128_0 | simp only [Addr.add, Nat.zero_add] at hx128_0 | skip); replace p128 := eq_true p128; replace q128 := eq_true q128) | ((with_reducible refine gate_callee (f := 24) rfl ?_); refine goesL_ (some 27) rfl rfl Try.func24 (by kernel_rfl) rfl #[.int .u8 (rd y127 x5_1)] rfl (by (try simp only [List.map_toArray, List.map_cons, List.map_nil]); first | done | rfl | (simp only [List.length_drop, List.length_take]; rfl)) ?_; (with_reducible refine (selvedgeref16_Isolate.calls (rd y127 x5_1) true _ A7.out).mono ?_); rintro e w' ⟨rfl, ⟨nd, rfl⟩⟩; refine ⟨_, rfl, ?_⟩))
       go_roundg k1
       case measure => have := HK1.out; omega
       case rel => exact ⟨(y127), (14), (wrap64 (x5_1 + 1)), (by first | rfl | (simp; done) | (simp [*]; done)), (by first | rfl | (simp; done) | (simp [*]; done)), H', ⟨by have := HK1.out; omega⟩, ⟨mvR HO_0⟩, ⟨by repeat (first | (with_reducible first | exact HK.out | apply Kept.alloc | apply Kept.drewN | apply Kept.drew) | exact HK.out)⟩, ⟨mvB HB⟩⟩
      ·replace c8 := Bool.eq_false_iff.mpr c8
       subst c8
       have H1 : (selvedgeref16_w1.l0 k1 y127 (rd y127 x5_1) (wrap64 (x5_1 + 1))) = some r := by rw [if_neg (show ¬ (false = true) by decide)] at H; exact H
       clear H
       have H := H1
       clear H1
       have H' := Aside0.mk H
       clear H
       obtain ⟨Ao12, co12, eo12⟩ := Kd.R_slice HO_0.out
       subst eo12
       obtain ⟨ad126, e126, hx126_0, p126, q126⟩ := atI (Kd.R_reads' HO_0.out).2.2 x5_1
       cases e126
       have p6 := dT (0 ≤ (x5_1 : Int))
       have q6 : (x5_1 : Int) < ((x0_1.length : Int) : Int) := of_decide_eq_true (by first | (with_reducible assumption) | assumption)
       obtain ⟨go6, co6, eo6, gb6, gl6, cl6, HG6⟩ := Kd.R_form HO_0.out (by omega)
       (first | cases eo6 | (injection eo6 with ea_ en_ ec_; (first | subst ea_ | (injection ea_ with ea_; subst ea_)); subst ec_; clear en_))
       have GB6 := Aside0.mk gb6
       have GG6 := Aside0.mk HG6
       clear gb6 gl6 HG6
       have HMgo6 := Aside0.mk (show (P0_ go6 ∨ w.heap.size ≤ go6) from (HO_0.out.1 _ rfl))
       (first | simp only [add_plain] at hx126_0 | skip)
       obtain ⟨hx6_0, hf6_0⟩ := Kd.R_celln 0 HO_0.out (x5_1 : Int) p6 q6
       replace p6 := eq_true p6
       replace q6 := eq_true q6
       have HP13 := Kd.R_putg HO_0.out (x5_1 : Int) x4_1
       go_wp2_with (first | ((with_reducible refine gate_store (t := 23) (p := 21) rfl ?_); refine store_event (t := 23) (p := 21) (v := ?vo_w14) (w1 := (wr.setCell ⟨go6, (x5_1 : Int).toNat, none⟩ (.int .u8 x4_1))) ?hg ?ho ?hn ?hr ?_; (case ho => rfl); (case hg => rfl); (case hn => rfl); (case hr => first | (go_simp; done) | (go_simp; rfl)); intro w14 hw; have hg : wr.grownBy w14 (some go6) := (by rw [hw]; exact HP13.2); have hp_ : Kd.R (Kd.int .u8) 23 w14 w0.heap.size (fun k_ => (P0_ k_ ∨ w.heap.size ≤ k_)) (.slice (some ⟨go6, 0, none⟩) x0_1.length co12) y127 := (by rw [hw, Ny127.out]; exact HP13.1); clear HP13; have n0_ := Aside0.mk (hp_); have n1_ := Aside0.mk ((by rw [hw]; exact below_set (HB.out) GB6.out : Below w0.heap.size w0 w14)); have n2_ := Aside0.mk (Kept.of_grown (S := (fun k_ => P0_ k_)) hg (by repeat (first | (with_reducible first | exact HK.out | apply Kept.alloc | apply Kept.drewN | apply Kept.drew) | exact HK.out)) (fun k_ e_ => (HO_0.out.1 k_ e_))); clear HO_0; clear HB; clear HK; have HO_0 := n0_; have HB := n1_; have HK := n2_; clear n0_ n1_ n2_; clear hg hw hp_; have p128 := dT (0 ≤ (x5_1 : Int)); have q128 : x5_1 < (y127.length : Int) := (by have h_ : (x5_1 : Int) < ((x0_1.length : Int) : Int) := of_decide_eq_true (by first | (with_reducible assumption) | assumption); first | (have e_ := (Kd.R_reads' HO_0.out).1; omega) | simpa only [Ny127.out, List.length_set] using h_); have ql128 : ((x5_1 : Int) < ((x0_1.length : Int) : Int)) = True := eq_true (of_decide_eq_true (by first | (with_reducible assumption) | assumption)); obtain ⟨ad128, e128, hx128_0⟩ := Kd.at_int (Kd.R_reads' HO_0.out).2.2 x5_1 p128 q128; obtain rfl : (⟨go6, 0, none⟩ : Addr) = ad128 := (by injection e128); (first | simp only [add_plain] at hx128_0 | simp only [add_at] at hx128_0 | simp only [Addr.add, Nat.zero_add] at hx128_0 | skip); replace p128 := eq_true p128; replace q128 := eq_true q128) | ((with_reducible refine gate_callee (f := 24) rfl ?_); refine goesL_ (some 27) rfl rfl Try.func24 (by kernel_rfl) rfl #[.int .u8 (rd y127 x5_1)] rfl (by (try simp only [List.map_toArray, List.map_cons, List.map_nil]); first | done | rfl | (simp only [List.length_drop, List.length_take]; rfl)) ?_; (with_reducible refine (selvedgeref16_Isolate.calls (rd y127 x5_1) false _ A7.out).mono ?_); rintro e w' ⟨rfl, ⟨nd, rfl⟩⟩; refine ⟨_, rfl, ?_⟩))
       go_roundg k1
       case measure => have := HK1.out; omega
       case rel => exact ⟨(y127), (rd y127 x5_1), (wrap64 (x5_1 + 1)), (by first | rfl | (simp; done) | (simp [*]; done)), (by first | rfl | (simp; done) | (simp [*]; done)), H', ⟨by have := HK1.out; omega⟩, ⟨mvR HO_0⟩, ⟨by repeat (first | (with_reducible first | exact HK.out | apply Kept.alloc | apply Kept.drewN | apply Kept.drew) | exact HK.out)⟩, ⟨mvB HB⟩⟩
     ·rw [if_neg c5] at H
      have c5b0 : ((rd x0_1 x5_1) == 9) = false := beq_eq_false_iff_ne.mpr c5
      have c5b1 : ((rd x0_1 x5_1) != 9) = true := bne_iff_ne.mpr c5
      replace H := Option.bind_eq_some_iff.mp H
      obtain ⟨t131, A150, H⟩ := H
      replace H : (if t131 = true then (selvedgeref16_w1.l0 k1 x0_1 14 (wrap64 (x5_1 + 1))) else (selvedgeref16_w1.l0 k1 x0_1 (rd x0_1 x5_1) (wrap64 (x5_1 + 1)))) = some r := H
      have A15 := Aside0.mk A150
      clear A150
      by_cases c16 : t131 = true
      ·subst c16
       have H1 : (selvedgeref16_w1.l0 k1 x0_1 14 (wrap64 (x5_1 + 1))) = some r := by rw [if_pos rfl] at H; exact H
       clear H
       have H := H1
       clear H1
       have H' := Aside0.mk H
       clear H
       obtain ⟨Ao17, co17, eo17⟩ := Kd.R_slice HO_0.out
       subst eo17
       obtain ⟨ad126, e126, hx126_0, p126, q126⟩ := atI (Kd.R_reads' HO_0.out).2.2 x5_1
       cases e126
       obtain ⟨ad130, e130, hx130_0, p130, q130⟩ := atI (Kd.R_reads' HO_0.out).2.2 x5_1
       obtain rfl : ad126 = ad130 := (by injection e130)
       go_wp2_with (first | ((with_reducible refine gate_callee (f := 24) rfl ?_); refine goesL_ (some 27) rfl rfl Try.func24 (by kernel_rfl) rfl #[.int .u8 (rd x0_1 x5_1)] rfl (by (try simp only [List.map_toArray, List.map_cons, List.map_nil]); first | done | rfl | (simp only [List.length_drop, List.length_take]; rfl)) ?_; (with_reducible refine (selvedgeref16_Isolate.calls (rd x0_1 x5_1) true _ A15.out).mono ?_); rintro e w' ⟨rfl, ⟨nd, rfl⟩⟩; refine ⟨_, rfl, ?_⟩))
       go_roundg k1
       case measure => have := HK1.out; omega
       case rel => exact ⟨(x0_1), (14), (wrap64 (x5_1 + 1)), (by first | rfl | (simp; done) | (simp [*]; done)), (by first | rfl | (simp; done) | (simp [*]; done)), H', ⟨by have := HK1.out; omega⟩, ⟨mvR HO_0⟩, ⟨by repeat (first | (with_reducible first | exact HK.out | apply Kept.alloc | apply Kept.drewN | apply Kept.drew) | exact HK.out)⟩, ⟨mvB HB⟩⟩
      ·replace c16 := Bool.eq_false_iff.mpr c16
       subst c16
       have H1 : (selvedgeref16_w1.l0 k1 x0_1 (rd x0_1 x5_1) (wrap64 (x5_1 + 1))) = some r := by rw [if_neg (show ¬ (false = true) by decide)] at H; exact H
       clear H
       have H := H1
       clear H1
       have H' := Aside0.mk H
       clear H
       obtain ⟨Ao18, co18, eo18⟩ := Kd.R_slice HO_0.out
       subst eo18
       obtain ⟨ad126, e126, hx126_0, p126, q126⟩ := atI (Kd.R_reads' HO_0.out).2.2 x5_1
       cases e126
       obtain ⟨ad130, e130, hx130_0, p130, q130⟩ := atI (Kd.R_reads' HO_0.out).2.2 x5_1
       obtain rfl : ad126 = ad130 := (by injection e130)
       go_wp2_with (first | ((with_reducible refine gate_callee (f := 24) rfl ?_); refine goesL_ (some 27) rfl rfl Try.func24 (by kernel_rfl) rfl #[.int .u8 (rd x0_1 x5_1)] rfl (by (try simp only [List.map_toArray, List.map_cons, List.map_nil]); first | done | rfl | (simp only [List.length_drop, List.length_take]; rfl)) ?_; (with_reducible refine (selvedgeref16_Isolate.calls (rd x0_1 x5_1) false _ A15.out).mono ?_); rintro e w' ⟨rfl, ⟨nd, rfl⟩⟩; refine ⟨_, rfl, ?_⟩))
       go_roundg k1
       case measure => have := HK1.out; omega
       case rel => exact ⟨(x0_1), (rd x0_1 x5_1), (wrap64 (x5_1 + 1)), (by first | rfl | (simp; done) | (simp [*]; done)), (by first | rfl | (simp; done) | (simp [*]; done)), H', ⟨by have := HK1.out; omega⟩, ⟨mvR HO_0⟩, ⟨by repeat (first | (with_reducible first | exact HK.out | apply Kept.alloc | apply Kept.drewN | apply Kept.drew) | exact HK.out)⟩, ⟨mvB HB⟩⟩
    ·rw [if_neg c4] at H
     exact absurd H (by simp)
   ·rw [if_neg c3] at H
    have c3b0 : decide (x5_1 < (x0_1.length : Int)) = false := decide_eq_false c3
    clear c3
    obtain rfl := Option.some.inj H
    obtain ⟨Ao19, co19, eo19⟩ := Kd.R_slice HO_0.out
    subst eo19
    go_wp2
    first | go_end0 | ((try simp only [Exit.inBlock, Exit.then]); refine bodyPost_ret (results_none rfl _ _ _) rfl ?_)
    exact ⟨by first | rfl | (simp [errW_none, errW_some] <;> rfl) | (simp [*, errW_none, errW_some] <;> rfl), mvR HO_0, mvB HB, by repeat (first | (with_reducible first | exact HK.out | apply Kept.alloc | apply Kept.drewN | apply Kept.drew) | exact HK.out)⟩

/-! ### selvedgeref16_w2: function 19 -/
mutual
def selvedgeref16_w2.l0 : Nat → List Int → Int → Int → Option (List Int)
 | 0, _, _, _ => none
 | k + 1, x0, x4, x5 => if x5 < (x0.length : Int) then (if 0 ≤ x5 then (if (rd x0 x5) = 1 then (selvedgeref16_w2.j1 k x0 x4 x5 (rd x0 x5) ((rd x0 x5) == 1)) else (if (rd x0 x5) = 2 then (selvedgeref16_w2.j1 k x0 x4 x5 (rd x0 x5) ((rd x0 x5) == 2)) else (selvedgeref16_w2.j1 k x0 x4 x5 (rd x0 x5) ((rd x0 x5) == 3)))) else (none)) else (selvedgeref16_w2.l1 k x0 0)
def selvedgeref16_w2.j1 : Nat → List Int → Int → Int → Int → Bool → Option (List Int)
 | 0, _, _, _, _, _ => none
 | k + 1, x0, x4, x5, x17, x18 => if x18 = true then (if 0 ≤ x5 then (if x5 < (x0.length : Int) then (selvedgeref16_w2.l0 k x0 (rd x0 x5) (wrap64 (x5 + 1))) else (none)) else (none)) else (if x17 = 4 then (if x4 = 3 then (if 0 ≤ x5 then (if x5 < (x0.length : Int) then (selvedgeref16_w2.l0 k (x0.set (x5 : Int).toNat 7) x4 (wrap64 (x5 + 1))) else (none)) else (none)) else (selvedgeref16_w2.l0 k x0 x4 (wrap64 (x5 + 1)))) else (selvedgeref16_w2.l0 k x0 x4 (wrap64 (x5 + 1))))
def selvedgeref16_w2.l1 : Nat → List Int → Int → Option (List Int)
 | 0, _, _ => none
 | k + 1, x0, x6 => if x6 < (x0.length : Int) then (if 0 ≤ x6 then (if (rd x0 x6) = 3 then (selvedgeref16_w2.l1 k (x0.set (x6 : Int).toNat 2) (wrap64 (x6 + 1))) else (selvedgeref16_w2.l1 k x0 (wrap64 (x6 + 1)))) else (none)) else (some x0)
end
def selvedgeref16_w2.f (k : Nat) (l0 : List Int) (a1 : Int) : Option (List Int) := selvedgeref16_w2.l0 k l0 a1 0
theorem selvedgeref16_w2.mono_l : ∀ k, (∀ y0 y1 y2, LeO (selvedgeref16_w2.l0 k y0 y1 y2) (selvedgeref16_w2.l0 (k + 1) y0 y1 y2)) ∧ (∀ y0 y1 y2 y3 y4, LeO (selvedgeref16_w2.j1 k y0 y1 y2 y3 y4) (selvedgeref16_w2.j1 (k + 1) y0 y1 y2 y3 y4)) ∧ (∀ y0 y1, LeO (selvedgeref16_w2.l1 k y0 y1) (selvedgeref16_w2.l1 (k + 1) y0 y1))
 | 0 => ⟨fun _ _ _ r h => by simp [selvedgeref16_w2.l0] at h, fun _ _ _ _ _ r h => by simp [selvedgeref16_w2.j1] at h, fun _ _ r h => by simp [selvedgeref16_w2.l1] at h⟩
 | k + 1 => by
  obtain ⟨ih0, ih1, ih2⟩ := selvedgeref16_w2.mono_l k
  refine ⟨?_, ?_, ?_⟩
  ·intro y0 y1 y2
   unfold selvedgeref16_w2.l0
   repeat' first
   | (with_reducible exact ih0 _ _ _)
   | (with_reducible exact ih1 _ _ _ _ _)
   | (with_reducible exact ih2 _ _)
   | (with_reducible exact LeO.refl _)
   | (with_reducible exact LeO.none _)
   | (with_reducible refine LeO.ite ?_ ?_)
   | (with_reducible refine LeO.bind ?_ (fun _ => ?_))
   | exact ih0 _ _ _
   | exact ih1 _ _ _ _ _
   | exact ih2 _ _
   | exact LeO.none _
   | refine LeO.ite ?_ ?_
   | refine LeO.bind ?_ (fun _ => ?_)
  ·intro y0 y1 y2 y3 y4
   unfold selvedgeref16_w2.j1
   repeat' first
   | (with_reducible exact ih0 _ _ _)
   | (with_reducible exact ih1 _ _ _ _ _)
   | (with_reducible exact ih2 _ _)
   | (with_reducible exact LeO.refl _)
   | (with_reducible exact LeO.none _)
   | (with_reducible refine LeO.ite ?_ ?_)
   | (with_reducible refine LeO.bind ?_ (fun _ => ?_))
   | exact ih0 _ _ _
   | exact ih1 _ _ _ _ _
   | exact ih2 _ _
   | exact LeO.none _
   | refine LeO.ite ?_ ?_
   | refine LeO.bind ?_ (fun _ => ?_)
  ·intro y0 y1
   unfold selvedgeref16_w2.l1
   repeat' first
   | (with_reducible exact ih0 _ _ _)
   | (with_reducible exact ih1 _ _ _ _ _)
   | (with_reducible exact ih2 _ _)
   | (with_reducible exact LeO.refl _)
   | (with_reducible exact LeO.none _)
   | (with_reducible refine LeO.ite ?_ ?_)
   | (with_reducible refine LeO.bind ?_ (fun _ => ?_))
   | exact ih0 _ _ _
   | exact ih1 _ _ _ _ _
   | exact ih2 _ _
   | exact LeO.none _
   | refine LeO.ite ?_ ?_
   | refine LeO.bind ?_ (fun _ => ?_)
theorem selvedgeref16_w2.mono : ∀ a0 a1 k, LeO (selvedgeref16_w2.f k a0 a1) (selvedgeref16_w2.f (k + 1) a0 a1) := by
 intro a0 a1 k
 obtain ⟨ih0, ih1, ih2⟩ := selvedgeref16_w2.mono_l k
 unfold selvedgeref16_w2.f
 repeat' first
   | (with_reducible exact ih0 _ _ _)
   | (with_reducible exact ih1 _ _ _ _ _)
   | (with_reducible exact ih2 _ _)
   | (with_reducible exact LeO.refl _)
   | (with_reducible exact LeO.none _)
   | (with_reducible refine LeO.ite ?_ ?_)
   | (with_reducible refine LeO.bind ?_ (fun _ => ?_))
   | exact ih0 _ _ _
   | exact ih1 _ _ _ _ _
   | exact ih2 _ _
   | exact LeO.none _
   | refine LeO.ite ?_ ?_
   | refine LeO.bind ?_ (fun _ => ?_)
set_option maxHeartbeats 8000000 in
set_option maxRecDepth 100000 in
theorem selvedgeref16_w2.calls (k : Nat) (P0_ : Nat → Prop) (u9000_ : Value) (l0 : List Int) (a1 : Int) (r : List Int) (w0 w : World) (hB : Below w0.heap.size w0 w) (ho0 : Kd.R (Kd.int .u8) 23 w w0.heap.size P0_ u9000_ l0) (h : selvedgeref16_w2.f k l0 a1 = some r) :
  Calls Try.prog 19 #[u9000_, .int .u8 a1] w fun e w' => e = .returned (.tuple #[]) ∧ Kd.R (Kd.int .u8) 23 w' w0.heap.size (fun k_ => (P0_ k_ ∨ w.heap.size ≤ k_)) u9000_ r ∧ Below w0.heap.size w0 w' ∧ Kept w w' (fun k_ => P0_ k_) := by
 have HO0 := Aside0.mk (show Kd.R (Kd.int .u8) 23 w w0.heap.size (fun k_ => (P0_ k_ ∨ w.heap.size ≤ k_)) u9000_ l0 from Kd.R_mono ho0 (fun k_ hk => (.inl hk)))
 have HK := Aside0.mk (Kept.refl w (fun k_ => P0_ k_))
 have HW0 := Aside0.mk hB.size
 have HB := Aside0.mk hB
 clear hB
 have H : (selvedgeref16_w2.l0 k l0 a1 0) = some r := h
 clear h
 have H' := Aside0.mk H
 clear H
 go_enter Try.func19, Try.ntmps19
 go_wp2
 go_loopg [4, 5] k (fun kq v4 v5 w' => ∃ (x0_1 : List Int) (x4_1 : Int) (x5_1 : Int), v4 = .int .u8 x4_1 ∧ v5 = .int .i64 x5_1 ∧ Aside0 (selvedgeref16_w2.l0 kq x0_1 x4_1 x5_1 = some r) ∧ Aside0 (kq ≤ k) ∧ Aside0 (Kd.R (Kd.int .u8) 23 w' w0.heap.size (fun k_ => (P0_ k_ ∨ w.heap.size ≤ k_)) u9000_ x0_1) ∧ Aside0 (Kept w w' (fun k_ => P0_ k_)) ∧ Aside0 (Below w0.heap.size w0 w'))
 case atStart => exact ⟨(l0), (a1), (0), (by first | rfl | (simp; done) | (simp [*]; done)), (by first | rfl | (simp; done) | (simp [*]; done)), H', ⟨Nat.le_refl _⟩, ⟨mvR HO0⟩, ⟨by repeat (first | (with_reducible first | exact HK.out | apply Kept.alloc | apply Kept.drewN | apply Kept.drew) | exact HK.out)⟩, ⟨mvB HB⟩⟩
 case round =>
  clear H'
  try clear c1
  try clear p2
  obtain ⟨x0_1, x4_1, x5_1, rfl, rfl, HA, HK1, HO_0, HK, HB⟩ := hrel
  cases gk with
  | zero => exact absurd HA.out (by simp [selvedgeref16_w2.l0])
  | succ k1 =>
   have H := HA.out
   clear HA
   simp only [selvedgeref16_w2.l0] at H
   by_cases c3 : x5_1 < (x0_1.length : Int)
   ·rw [if_pos c3] at H
    have c3b0 : decide (x5_1 < (x0_1.length : Int)) = true := decide_eq_true c3
    clear c3
    by_cases c4 : 0 ≤ x5_1
    ·rw [if_pos c4] at H
     have c4b0 : decide (0 ≤ x5_1) = true := decide_eq_true c4
     clear c4
     have HC5 := Aside0.mk H
     clear H
     obtain ⟨Ao6, co6, eo6⟩ := Kd.R_slice HO_0.out
     subst eo6
     obtain ⟨ad132, e132, hx132_0, p132, q132⟩ := atI (Kd.R_reads' HO_0.out).2.2 x5_1
     cases e132
     go_upto_if 18 with (fail)
     go_cut [18] (fun v18 wc => ∃ (kq : Nat) (x18_4 : Bool), v18 = .bool x18_4 ∧ Aside0 (selvedgeref16_w2.j1 kq x0_1 x4_1 x5_1 (rd x0_1 x5_1) x18_4 = some r) ∧ Aside0 (kq ≤ k1) ∧ Aside0 (Kd.R (Kd.int .u8) 23 wc w0.heap.size (fun k_ => (P0_ k_ ∨ w.heap.size ≤ k_)) (.slice (some ad132) x0_1.length co6) x0_1) ∧ Aside0 (Kept w wc (fun k_ => P0_ k_)) ∧ Aside0 (Below w0.heap.size w0 wc))
     case first =>
      have H := HC5.out
      clear HC5
      by_cases c7 : (rd x0_1 x5_1) = 1
      ·rw [if_pos c7] at H
       have c7b0 : ((rd x0_1 x5_1) == 1) = true := beq_iff_eq.mpr c7
       have c7b1 : ((rd x0_1 x5_1) != 1) = false := bne_eq_false_iff_eq.mpr c7
       clear c7
       (first | rw [c7b0] | (simp only [i64_w, i32_w]; rw [c7b0]) | skip)
       have H' := Aside0.mk H
       clear H
       go_wp2
       go_meet
       case rel => exact ⟨_, (((rd x0_1 x5_1) == 1)), (by first | rfl | (simp; done) | (simp [*]; done)), H', ⟨by have := HK1.out; first | omega | exact Nat.le_refl _⟩, ⟨mvR HO_0⟩, ⟨by repeat (first | (with_reducible first | exact HK.out | apply Kept.alloc | apply Kept.drewN | apply Kept.drew) | exact HK.out)⟩, ⟨mvB HB⟩⟩
      ·rw [if_neg c7] at H
       have c7b0 : ((rd x0_1 x5_1) == 1) = false := beq_eq_false_iff_ne.mpr c7
       have c7b1 : ((rd x0_1 x5_1) != 1) = true := bne_iff_ne.mpr c7
       (first | rw [c7b0] | (simp only [i64_w, i32_w]; rw [c7b0]) | skip)
       by_cases c8 : (rd x0_1 x5_1) = 2
       ·rw [if_pos c8] at H
        have c8b0 : ((rd x0_1 x5_1) == 2) = true := beq_iff_eq.mpr c8
        have c8b1 : ((rd x0_1 x5_1) != 2) = false := bne_eq_false_iff_eq.mpr c8
        clear c8
        have H' := Aside0.mk H
        clear H
        go_wp2
        go_meet
        case rel => exact ⟨_, (((rd x0_1 x5_1) == 2)), (by first | rfl | (simp; done) | (simp [*]; done)), H', ⟨by have := HK1.out; first | omega | exact Nat.le_refl _⟩, ⟨mvR HO_0⟩, ⟨by repeat (first | (with_reducible first | exact HK.out | apply Kept.alloc | apply Kept.drewN | apply Kept.drew) | exact HK.out)⟩, ⟨mvB HB⟩⟩
       ·rw [if_neg c8] at H
        have c8b0 : ((rd x0_1 x5_1) == 2) = false := beq_eq_false_iff_ne.mpr c8
        have c8b1 : ((rd x0_1 x5_1) != 2) = true := bne_iff_ne.mpr c8
        have H' := Aside0.mk H
        clear H
        go_wp2
        go_meet
        case rel => exact ⟨_, (((rd x0_1 x5_1) == 3)), (by first | rfl | (simp; done) | (simp [*]; done)), H', ⟨by have := HK1.out; first | omega | exact Nat.le_refl _⟩, ⟨mvR HO_0⟩, ⟨by repeat (first | (with_reducible first | exact HK.out | apply Kept.alloc | apply Kept.drewN | apply Kept.drew) | exact HK.out)⟩, ⟨mvB HB⟩⟩
     case rest =>
      clear HC5
      try clear c1
      try clear p1
      try clear q1
      try clear hx1
      try clear p2
      try clear c3
      try clear c3b0
      try clear c4
      try clear c4b0
      try clear c7
      try clear c7b0
      try clear c7b1
      try clear c8
      try clear c8b0
      try clear c8b1
      try clear hx132_0
      try clear p132
      try clear p2
      try clear q132
      obtain ⟨kq, x18_4, rfl, HA, HJ4, HO_0, HK, HB⟩ := hcut
      cases kq with
      | zero => exact absurd HA.out (by simp [selvedgeref16_w2.j1])
      | succ kj4 =>
       have H := HA.out
       clear HA
       simp only [selvedgeref16_w2.j1] at H
       by_cases c9 : x18_4 = true
       ·subst c9
        have H1 : (if 0 ≤ x5_1 then (if x5_1 < (x0_1.length : Int) then (selvedgeref16_w2.l0 kj4 x0_1 (rd x0_1 x5_1) (wrap64 (x5_1 + 1))) else (none)) else (none)) = some r := by rw [if_pos rfl] at H; exact H
        clear H
        have H := H1
        clear H1
        by_cases c10 : 0 ≤ x5_1
        ·rw [if_pos c10] at H
         have c10b0 : decide (0 ≤ x5_1) = true := decide_eq_true c10
         clear c10
         by_cases c11 : x5_1 < (x0_1.length : Int)
         ·rw [if_pos c11] at H
          have c11b0 : decide (x5_1 < (x0_1.length : Int)) = true := decide_eq_true c11
          clear c11
          have H' := Aside0.mk H
          clear H
          obtain ⟨ad133, e133, hx133_0, p133, q133⟩ := atI (Kd.R_reads' HO_0.out).2.2 x5_1
          obtain rfl : ad132 = ad133 := (by injection e133)
          go_wp2
          go_roundg kj4
          case measure => have := HK1.out; have := HJ4.out; omega
          case rel => exact ⟨(x0_1), (rd x0_1 x5_1), (wrap64 (x5_1 + 1)), (by first | rfl | (simp; done) | (simp [*]; done)), (by first | rfl | (simp; done) | (simp [*]; done)), H', ⟨by have := HK1.out; have := HJ4.out; omega⟩, ⟨mvR HO_0⟩, ⟨by repeat (first | (with_reducible first | exact HK.out | apply Kept.alloc | apply Kept.drewN | apply Kept.drew) | exact HK.out)⟩, ⟨mvB HB⟩⟩
         ·rw [if_neg c11] at H
          exact absurd H (by simp)
        ·rw [if_neg c10] at H
         exact absurd H (by simp)
       ·replace c9 := Bool.eq_false_iff.mpr c9
        subst c9
        have H1 : (if (rd x0_1 x5_1) = 4 then (if x4_1 = 3 then (if 0 ≤ x5_1 then (if x5_1 < (x0_1.length : Int) then (selvedgeref16_w2.l0 kj4 (x0_1.set (x5_1 : Int).toNat 7) x4_1 (wrap64 (x5_1 + 1))) else (none)) else (none)) else (selvedgeref16_w2.l0 kj4 x0_1 x4_1 (wrap64 (x5_1 + 1)))) else (selvedgeref16_w2.l0 kj4 x0_1 x4_1 (wrap64 (x5_1 + 1)))) = some r := by rw [if_neg (show ¬ (false = true) by decide)] at H; exact H
        clear H
        have H := H1
        clear H1
        by_cases c12 : (rd x0_1 x5_1) = 4
        ·rw [if_pos c12] at H
         have c12b0 : ((rd x0_1 x5_1) == 4) = true := beq_iff_eq.mpr c12
         have c12b1 : ((rd x0_1 x5_1) != 4) = false := bne_eq_false_iff_eq.mpr c12
         clear c12
         by_cases c13 : x4_1 = 3
         ·rw [if_pos c13] at H
          have c13b0 : (x4_1 == 3) = true := beq_iff_eq.mpr c13
          have c13b1 : (x4_1 != 3) = false := bne_eq_false_iff_eq.mpr c13
          clear c13
          by_cases c14 : 0 ≤ x5_1
          ·rw [if_pos c14] at H
           have c14b0 : decide (0 ≤ x5_1) = true := decide_eq_true c14
           clear c14
           by_cases c15 : x5_1 < (x0_1.length : Int)
           ·rw [if_pos c15] at H
            have c15b0 : decide (x5_1 < (x0_1.length : Int)) = true := decide_eq_true c15
            clear c15
            obtain ⟨y134, hy134⟩ : ∃ y_ : List Int, y_ = (x0_1.set (x5_1 : Int).toNat 7) := ⟨_, rfl⟩
            replace H : (selvedgeref16_w2.l0 kj4 y134 x4_1 (wrap64 (x5_1 + 1))) = some r := by first | (rw [hy134]; with_reducible exact H) | (have H2_ := (Option.bind_some _ _).symm.trans H; rw [hy134]; with_reducible exact H2_) | (have H2_ := (Option.bind_some _ _).symm.trans H; with_reducible exact H2_) | with_reducible exact H | (rw [hy134]; exact H) | exact H
            have Ny134 := Aside0.mk hy134
            clear hy134
            have H' := Aside0.mk H
            clear H
            have p16 := dT (0 ≤ (x5_1 : Int))
            have q16 : (x5_1 : Int) < ((x0_1.length : Int) : Int) := of_decide_eq_true (by first | (with_reducible assumption) | assumption)
            obtain ⟨go16, co16, eo16, gb16, gl16, cl16, HG16⟩ := Kd.R_form HO_0.out (by omega)
            (first | cases eo16 | (injection eo16 with ea_ en_ ec_; (first | subst ea_ | (injection ea_ with ea_; subst ea_)); subst ec_; clear en_))
            have GB16 := Aside0.mk gb16
            have GG16 := Aside0.mk HG16
            clear gb16 gl16 HG16
            have HMgo16 := Aside0.mk (show (P0_ go16 ∨ w.heap.size ≤ go16) from (HO_0.out.1 _ rfl))
            (first | simp only [add_plain] at hx132_0 | skip)
            (first | simp only [add_plain] at hx133_0 | skip)
            obtain ⟨hx16_0, hf16_0⟩ := Kd.R_celln 0 HO_0.out (x5_1 : Int) p16 q16
            replace p16 := eq_true p16
            replace q16 := eq_true q16
            have HP17 := Kd.R_putg HO_0.out (x5_1 : Int) 7
            go_wp2_with (first | ((with_reducible refine gate_store (t := 23) (p := 32) rfl ?_); refine store_event (t := 23) (p := 32) (v := ?vo_w18) (w1 := (wc.setCell ⟨go16, (x5_1 : Int).toNat, none⟩ (.int .u8 7))) ?hg ?ho ?hn ?hr ?_; (case ho => rfl); (case hg => rfl); (case hn => rfl); (case hr => first | (go_simp; done) | (go_simp; rfl)); intro w18 hw; have hg : wc.grownBy w18 (some go16) := (by rw [hw]; exact HP17.2); have hp_ : Kd.R (Kd.int .u8) 23 w18 w0.heap.size (fun k_ => (P0_ k_ ∨ w.heap.size ≤ k_)) (.slice (some ⟨go16, 0, none⟩) x0_1.length co6) y134 := (by rw [hw, Ny134.out]; exact HP17.1); clear HP17; have n0_ := Aside0.mk (hp_); have n1_ := Aside0.mk ((by rw [hw]; exact below_set (HB.out) GB16.out : Below w0.heap.size w0 w18)); have n2_ := Aside0.mk (Kept.of_grown (S := (fun k_ => P0_ k_)) hg (by repeat (first | (with_reducible first | exact HK.out | apply Kept.alloc | apply Kept.drewN | apply Kept.drew) | exact HK.out)) (fun k_ e_ => (HO_0.out.1 k_ e_))); clear HO_0; clear HB; clear HK; have HO_0 := n0_; have HB := n1_; have HK := n2_; clear n0_ n1_ n2_; clear hg hw hp_))
            go_roundg kj4
            case measure => have := HK1.out; have := HJ4.out; omega
            case rel => exact ⟨(y134), (x4_1), (wrap64 (x5_1 + 1)), (by first | rfl | (simp; done) | (simp [*]; done)), (by first | rfl | (simp; done) | (simp [*]; done)), H', ⟨by have := HK1.out; have := HJ4.out; omega⟩, ⟨mvR HO_0⟩, ⟨by repeat (first | (with_reducible first | exact HK.out | apply Kept.alloc | apply Kept.drewN | apply Kept.drew) | exact HK.out)⟩, ⟨mvB HB⟩⟩
           ·rw [if_neg c15] at H
            exact absurd H (by simp)
          ·rw [if_neg c14] at H
           exact absurd H (by simp)
         ·rw [if_neg c13] at H
          have c13b0 : (x4_1 == 3) = false := beq_eq_false_iff_ne.mpr c13
          have c13b1 : (x4_1 != 3) = true := bne_iff_ne.mpr c13
          have H' := Aside0.mk H
          clear H
          go_wp2
          go_roundg kj4
          case measure => have := HK1.out; have := HJ4.out; omega
          case rel => exact ⟨(x0_1), (x4_1), (wrap64 (x5_1 + 1)), (by first | rfl | (simp; done) | (simp [*]; done)), (by first | rfl | (simp; done) | (simp [*]; done)), H', ⟨by have := HK1.out; have := HJ4.out; omega⟩, ⟨mvR HO_0⟩, ⟨by repeat (first | (with_reducible first | exact HK.out | apply Kept.alloc | apply Kept.drewN | apply Kept.drew) | exact HK.out)⟩, ⟨mvB HB⟩⟩
        ·rw [if_neg c12] at H
         have c12b0 : ((rd x0_1 x5_1) == 4) = false := beq_eq_false_iff_ne.mpr c12
         have c12b1 : ((rd x0_1 x5_1) != 4) = true := bne_iff_ne.mpr c12
         have H' := Aside0.mk H
         clear H
         go_wp2
         go_roundg kj4
         case measure => have := HK1.out; have := HJ4.out; omega
         case rel => exact ⟨(x0_1), (x4_1), (wrap64 (x5_1 + 1)), (by first | rfl | (simp; done) | (simp [*]; done)), (by first | rfl | (simp; done) | (simp [*]; done)), H', ⟨by have := HK1.out; have := HJ4.out; omega⟩, ⟨mvR HO_0⟩, ⟨by repeat (first | (with_reducible first | exact HK.out | apply Kept.alloc | apply Kept.drewN | apply Kept.drew) | exact HK.out)⟩, ⟨mvB HB⟩⟩
    ·rw [if_neg c4] at H
     exact absurd H (by simp)
   ·rw [if_neg c3] at H
    have c3b0 : decide (x5_1 < (x0_1.length : Int)) = false := decide_eq_false c3
    clear c3
    have H' := Aside0.mk H
    clear H
    obtain ⟨Ao19, co19, eo19⟩ := Kd.R_slice HO_0.out
    subst eo19
    go_wp2
    go_loopg [6] k1 (fun kq v6 w' => ∃ (x0_2 : List Int) (x6_2 : Int), v6 = .int .i64 x6_2 ∧ Aside0 (selvedgeref16_w2.l1 kq x0_2 x6_2 = some r) ∧ Aside0 (kq ≤ k1) ∧ Aside0 (Kd.R (Kd.int .u8) 23 w' w0.heap.size (fun k_ => (P0_ k_ ∨ w.heap.size ≤ k_)) (.slice Ao19 x0_1.length co19) x0_2) ∧ Aside0 (Kept w w' (fun k_ => P0_ k_)) ∧ Aside0 (Below w0.heap.size w0 w'))
    case atStart => exact ⟨(x0_1), (0), (by first | rfl | (simp; done) | (simp [*]; done)), H', ⟨Nat.le_refl _⟩, ⟨mvR HO_0⟩, ⟨by repeat (first | (with_reducible first | exact HK.out | apply Kept.alloc | apply Kept.drewN | apply Kept.drew) | exact HK.out)⟩, ⟨mvB HB⟩⟩
    case round =>
     clear H'
     try clear c1
     try clear p1
     try clear q1
     try clear hx1
     try clear p2
     try clear c3
     try clear c3b0
     try clear c4
     try clear c4b0
     try clear p6
     try clear c7
     try clear c7b0
     try clear c7b1
     try clear c8
     try clear c8b0
     try clear c8b1
     try clear c9
     try clear c10
     try clear c10b0
     try clear c11
     try clear c11b0
     try clear c12
     try clear c12b0
     try clear c12b1
     try clear c13
     try clear c13b0
     try clear c13b1
     try clear p13
     try clear q13
     try clear hx13
     try clear c14
     try clear c14b0
     try clear c15
     try clear c15b0
     try clear p16
     try clear q16
     try clear hx16
     try clear hf16
     try clear c19
     try clear hx132_0
     try clear hx133_0
     try clear hx16_0
     try clear p1
     try clear p132
     try clear p133
     try clear p16
     try clear p2
     try clear q1
     try clear q132
     try clear q133
     try clear q16
     obtain ⟨x0_2, x6_2, rfl, HA, HK2, HO_0, HK, HB⟩ := hrel
     have hl0_2 := (Kd.R_reads' HO_0.out).1
     rw [hl0_2] at HO_0
     (try simp only [hl0_2])
     cases gk with
     | zero => exact absurd HA.out (by simp [selvedgeref16_w2.l1])
     | succ k2 =>
      have H := HA.out
      clear HA
      simp only [selvedgeref16_w2.l1] at H
      by_cases c20 : x6_2 < (x0_2.length : Int)
      ·rw [if_pos c20] at H
       have c20b0 : decide (x6_2 < (x0_2.length : Int)) = true := decide_eq_true c20
       clear c20
       by_cases c21 : 0 ≤ x6_2
       ·rw [if_pos c21] at H
        have c21b0 : decide (0 ≤ x6_2) = true := decide_eq_true c21
        clear c21
        by_cases c22 : (rd x0_2 x6_2) = 3
        ·rw [if_pos c22] at H
         have c22b0 : ((rd x0_2 x6_2) == 3) = true := beq_iff_eq.mpr c22
         have c22b1 : ((rd x0_2 x6_2) != 3) = false := bne_eq_false_iff_eq.mpr c22
         clear c22
         obtain ⟨y136, hy136⟩ : ∃ y_ : List Int, y_ = (x0_2.set (x6_2 : Int).toNat 2) := ⟨_, rfl⟩
         replace H : (selvedgeref16_w2.l1 k2 y136 (wrap64 (x6_2 + 1))) = some r := by first | (rw [hy136]; with_reducible exact H) | (have H2_ := (Option.bind_some _ _).symm.trans H; rw [hy136]; with_reducible exact H2_) | (have H2_ := (Option.bind_some _ _).symm.trans H; with_reducible exact H2_) | with_reducible exact H | (rw [hy136]; exact H) | exact H
         have Ny136 := Aside0.mk hy136
         clear hy136
         have H' := Aside0.mk H
         clear H
         obtain ⟨ad135, e135, hx135_0, p135, q135⟩ := atI (Kd.R_reads' HO_0.out).2.2 x6_2
         cases e135
         have p23 := dT (0 ≤ (x6_2 : Int))
         have q23 : (x6_2 : Int) < ((x0_2.length : Int) : Int) := of_decide_eq_true (by first | (with_reducible assumption) | assumption)
         obtain ⟨go23, co23, eo23, gb23, gl23, cl23, HG23⟩ := Kd.R_form HO_0.out (by omega)
         (first | cases eo23 | (injection eo23 with ea_ en_ ec_; (first | subst ea_ | (injection ea_ with ea_; subst ea_)); subst ec_; clear en_))
         have GB23 := Aside0.mk gb23
         have GG23 := Aside0.mk HG23
         clear gb23 gl23 HG23
         have HMgo23 := Aside0.mk (show (P0_ go23 ∨ w.heap.size ≤ go23) from (HO_0.out.1 _ rfl))
         (first | simp only [add_plain] at hx135_0 | skip)
         obtain ⟨hx23_0, hf23_0⟩ := Kd.R_celln 0 HO_0.out (x6_2 : Int) p23 q23
         replace p23 := eq_true p23
         replace q23 := eq_true q23
         have HP24 := Kd.R_putg HO_0.out (x6_2 : Int) 2
         go_wp2_with (first | ((with_reducible refine gate_store (t := 23) (p := 46) rfl ?_); refine store_event (t := 23) (p := 46) (v := ?vo_w25) (w1 := (wr.setCell ⟨go23, (x6_2 : Int).toNat, none⟩ (.int .u8 2))) ?hg ?ho ?hn ?hr ?_; (case ho => rfl); (case hg => rfl); (case hn => rfl); (case hr => first | (go_simp; done) | (go_simp; rfl)); intro w25 hw; have hg : wr.grownBy w25 (some go23) := (by rw [hw]; exact HP24.2); have hp_ : Kd.R (Kd.int .u8) 23 w25 w0.heap.size (fun k_ => (P0_ k_ ∨ w.heap.size ≤ k_)) (.slice (some ⟨go23, 0, none⟩) x0_2.length co19) y136 := (by rw [hw, Ny136.out]; exact HP24.1); clear HP24; have n0_ := Aside0.mk (hp_); have n1_ := Aside0.mk ((by rw [hw]; exact below_set (HB.out) GB23.out : Below w0.heap.size w0 w25)); have n2_ := Aside0.mk (Kept.of_grown (S := (fun k_ => P0_ k_)) hg (by repeat (first | (with_reducible first | exact HK.out | apply Kept.alloc | apply Kept.drewN | apply Kept.drew) | exact HK.out)) (fun k_ e_ => (HO_0.out.1 k_ e_))); clear HO_0; clear HB; clear HK; have HO_0 := n0_; have HB := n1_; have HK := n2_; clear n0_ n1_ n2_; clear hg hw hp_))
         (try simp only [← hl0_2])
         go_roundg k2
         case measure => have := HK1.out; have := HK2.out; omega
         case rel => exact ⟨(y136), (wrap64 (x6_2 + 1)), (by first | rfl | (simp; done) | (simp [*]; done)), H', ⟨by have := HK1.out; have := HK2.out; omega⟩, ⟨by (try simp only [hl0_2]); (with_reducible repeat (first | apply Kd.R_alloc | apply Kd.R_drewN | apply Kd.R_drew)); exact HO_0.out⟩, ⟨by repeat (first | (with_reducible first | exact HK.out | apply Kept.alloc | apply Kept.drewN | apply Kept.drew) | exact HK.out)⟩, ⟨mvB HB⟩⟩
        ·rw [if_neg c22] at H
         have c22b0 : ((rd x0_2 x6_2) == 3) = false := beq_eq_false_iff_ne.mpr c22
         have c22b1 : ((rd x0_2 x6_2) != 3) = true := bne_iff_ne.mpr c22
         have H' := Aside0.mk H
         clear H
         obtain ⟨ad135, e135, hx135_0, p135, q135⟩ := atI (Kd.R_reads' HO_0.out).2.2 x6_2
         cases e135
         go_wp2
         (try simp only [← hl0_2])
         go_roundg k2
         case measure => have := HK1.out; have := HK2.out; omega
         case rel => exact ⟨(x0_2), (wrap64 (x6_2 + 1)), (by first | rfl | (simp; done) | (simp [*]; done)), H', ⟨by have := HK1.out; have := HK2.out; omega⟩, ⟨by (try simp only [hl0_2]); (with_reducible repeat (first | apply Kd.R_alloc | apply Kd.R_drewN | apply Kd.R_drew)); exact HO_0.out⟩, ⟨by repeat (first | (with_reducible first | exact HK.out | apply Kept.alloc | apply Kept.drewN | apply Kept.drew) | exact HK.out)⟩, ⟨mvB HB⟩⟩
       ·rw [if_neg c21] at H
        exact absurd H (by simp)
      ·rw [if_neg c20] at H
       have c20b0 : decide (x6_2 < (x0_2.length : Int)) = false := decide_eq_false c20
       clear c20
       obtain rfl := Option.some.inj H
       go_wp2
       first | go_end0 | ((try simp only [Exit.inBlock, Exit.then]); refine bodyPost_ret (results_none rfl _ _ _) rfl ?_)
       exact ⟨by first | rfl | (simp [errW_none, errW_some] <;> rfl) | (simp [*, errW_none, errW_some] <;> rfl), (by first | exact (mvR HO_0) | (simp only [hl0_2]; exact (mvR HO_0))), mvB HB, by repeat (first | (with_reducible first | exact HK.out | apply Kept.alloc | apply Kept.drewN | apply Kept.drew) | exact HK.out)⟩

end Go.Proofs.Ytnpcfiahmadkjaa.X
