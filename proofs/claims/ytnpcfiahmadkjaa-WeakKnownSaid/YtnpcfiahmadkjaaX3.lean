-- by xprint.py: the kit's printer over texts of this session
import Derived.Test.YtnpcfiahmadkjaaX0
namespace Go.Proofs.Ytnpcfiahmadkjaa.X
open Go.RowKit Go.Proofs.YtnpcfiahmadkjaaW.PrintWords Go.Proofs.YtnpcfiahmadkjaaW.PrintLast Go.Proofs.YtnpcfiahmadkjaaW.PrintMore
attribute [local go_sem] max2_int min2_int max_two min_two max_three min_three max_four min_four   -- for this text's walks alone
set_option linter.unusedVariables false
set_option linter.unusedSimpArgs false

/-! ### selvedgeref16_w4: function 20 -/
def selvedgeref16_w4.l0 : Nat → List Int → Int → Option (List Int)
 | 0, _, _ => none
 | k + 1, x0, x2 => if (wrap64 (x2 + 1)) < (x0.length : Int) then (if 0 ≤ (wrap64 (x2 - 1)) then (if (wrap64 (x2 - 1)) < (x0.length : Int) then (if 0 ≤ (wrap64 (x2 + 1)) then (if (rd x0 (wrap64 (x2 - 1))) = (rd x0 (wrap64 (x2 + 1))) then (if (rd x0 (wrap64 (x2 - 1))) = 4 then (if 0 ≤ x2 then (if x2 < (x0.length : Int) then (if (rd x0 x2) = 5 then (selvedgeref16_w4.l0 k (x0.set (x2 : Int).toNat (rd x0 (wrap64 (x2 - 1)))) (wrap64 (x2 + 1))) else (if (rd x0 x2) = 8 then (selvedgeref16_w4.l0 k (x0.set (x2 : Int).toNat (rd x0 (wrap64 (x2 - 1)))) (wrap64 (x2 + 1))) else (if (rd x0 (wrap64 (x2 - 1))) = 7 then (selvedgeref16_w4.l0 k x0 (wrap64 (x2 + 1))) else (selvedgeref16_w4.l0 k x0 (wrap64 (x2 + 1)))))) else (none)) else (none)) else (if (rd x0 (wrap64 (x2 - 1))) = 7 then (if 0 ≤ x2 then (if x2 < (x0.length : Int) then (if (rd x0 x2) = 8 then (selvedgeref16_w4.l0 k (x0.set (x2 : Int).toNat (rd x0 (wrap64 (x2 - 1)))) (wrap64 (x2 + 1))) else (selvedgeref16_w4.l0 k x0 (wrap64 (x2 + 1)))) else (none)) else (none)) else (selvedgeref16_w4.l0 k x0 (wrap64 (x2 + 1))))) else (selvedgeref16_w4.l0 k x0 (wrap64 (x2 + 1)))) else (none)) else (none)) else (none)) else (some x0)
def selvedgeref16_w4.f (k : Nat) (l0 : List Int) : Option (List Int) := selvedgeref16_w4.l0 k l0 1
theorem selvedgeref16_w4.mono_l : ∀ k, (∀ y0 y1, LeO (selvedgeref16_w4.l0 k y0 y1) (selvedgeref16_w4.l0 (k + 1) y0 y1))
 | 0 => fun _ _ r h => by simp [selvedgeref16_w4.l0] at h
 | k + 1 => by
  have ih0 := selvedgeref16_w4.mono_l k
  ·intro y0 y1
   unfold selvedgeref16_w4.l0
   repeat' first
   | (with_reducible exact ih0 _ _)
   | (with_reducible exact LeO.refl _)
   | (with_reducible exact LeO.none _)
   | (with_reducible refine LeO.ite ?_ ?_)
   | (with_reducible refine LeO.bind ?_ (fun _ => ?_))
   | exact ih0 _ _
   | exact LeO.none _
   | refine LeO.ite ?_ ?_
   | refine LeO.bind ?_ (fun _ => ?_)
theorem selvedgeref16_w4.mono : ∀ a0 k, LeO (selvedgeref16_w4.f k a0) (selvedgeref16_w4.f (k + 1) a0) := by
 intro a0 k
 have ih0 := selvedgeref16_w4.mono_l k
 unfold selvedgeref16_w4.f
 repeat' first
   | (with_reducible exact ih0 _ _)
   | (with_reducible exact LeO.refl _)
   | (with_reducible exact LeO.none _)
   | (with_reducible refine LeO.ite ?_ ?_)
   | (with_reducible refine LeO.bind ?_ (fun _ => ?_))
   | exact ih0 _ _
   | exact LeO.none _
   | refine LeO.ite ?_ ?_
   | refine LeO.bind ?_ (fun _ => ?_)
set_option maxHeartbeats 8000000 in
set_option maxRecDepth 100000 in
theorem selvedgeref16_w4.calls (k : Nat) (P0_ : Nat → Prop) (u9000_ : Value) (l0 : List Int) (r : List Int) (w0 w : World) (hB : Below w0.heap.size w0 w) (ho0 : Kd.R (Kd.int .u8) 23 w w0.heap.size P0_ u9000_ l0) (h : selvedgeref16_w4.f k l0 = some r) :
  Calls Try.prog 20 #[u9000_] w fun e w' => e = .returned (.tuple #[]) ∧ Kd.R (Kd.int .u8) 23 w' w0.heap.size (fun k_ => (P0_ k_ ∨ w.heap.size ≤ k_)) u9000_ r ∧ Below w0.heap.size w0 w' ∧ Kept w w' (fun k_ => P0_ k_) := by
 have HO0 := Aside0.mk (show Kd.R (Kd.int .u8) 23 w w0.heap.size (fun k_ => (P0_ k_ ∨ w.heap.size ≤ k_)) u9000_ l0 from Kd.R_mono ho0 (fun k_ hk => (.inl hk)))
 have HK := Aside0.mk (Kept.refl w (fun k_ => P0_ k_))
 have HW0 := Aside0.mk hB.size
 have HB := Aside0.mk hB
 clear hB
 have H : (selvedgeref16_w4.l0 k l0 1) = some r := h
 clear h
 have H' := Aside0.mk H
 clear H
 go_enter Try.func20, Try.ntmps20
 go_wp2
 repeat (go_quiet (fail); try go_wp2)
 go_loopg [2] k (fun kq v2 w' => ∃ (x0_1 : List Int) (x2_1 : Int), v2 = .int .i64 x2_1 ∧ Aside0 (selvedgeref16_w4.l0 kq x0_1 x2_1 = some r) ∧ Aside0 (kq ≤ k) ∧ Aside0 (Kd.R (Kd.int .u8) 23 w' w0.heap.size (fun k_ => (P0_ k_ ∨ w.heap.size ≤ k_)) u9000_ x0_1) ∧ Aside0 (Kept w w' (fun k_ => P0_ k_)) ∧ Aside0 (Below w0.heap.size w0 w'))
 case atStart => exact ⟨(l0), (1), (by first | rfl | (simp; done) | (simp [*]; done)), H', ⟨Nat.le_refl _⟩, ⟨mvR HO0⟩, ⟨by repeat (first | (with_reducible first | exact HK.out | apply Kept.alloc | apply Kept.drewN | apply Kept.drew) | exact HK.out)⟩, ⟨mvB HB⟩⟩
 case round =>
  clear H'
  obtain ⟨x0_1, x2_1, rfl, HA, HK1, HO_0, HK, HB⟩ := hrel
  cases gk with
  | zero => exact absurd HA.out (by simp [selvedgeref16_w4.l0])
  | succ k1 =>
   have H := HA.out
   clear HA
   simp only [selvedgeref16_w4.l0] at H
   by_cases c2 : (wrap64 (x2_1 + 1)) < (x0_1.length : Int)
   ·rw [if_pos c2] at H
    have c2b0 : decide ((wrap64 (x2_1 + 1)) < (x0_1.length : Int)) = true := decide_eq_true c2
    clear c2
    obtain ⟨ji3, hji3⟩ : ∃ j_ : Int, (wrap64 (x2_1 - 1)) = j_ := ⟨_, rfl⟩
    replace H : (if 0 ≤ (ji3) then (if (ji3) < (x0_1.length : Int) then (if 0 ≤ (wrap64 (x2_1 + 1)) then (if (rd x0_1 (ji3)) = (rd x0_1 (wrap64 (x2_1 + 1))) then (if (rd x0_1 (ji3)) = 4 then (if 0 ≤ x2_1 then (if x2_1 < (x0_1.length : Int) then (if (rd x0_1 x2_1) = 5 then (selvedgeref16_w4.l0 k1 (x0_1.set (x2_1 : Int).toNat (rd x0_1 (ji3))) (wrap64 (x2_1 + 1))) else (if (rd x0_1 x2_1) = 8 then (selvedgeref16_w4.l0 k1 (x0_1.set (x2_1 : Int).toNat (rd x0_1 (ji3))) (wrap64 (x2_1 + 1))) else (if (rd x0_1 (ji3)) = 7 then (selvedgeref16_w4.l0 k1 x0_1 (wrap64 (x2_1 + 1))) else (selvedgeref16_w4.l0 k1 x0_1 (wrap64 (x2_1 + 1)))))) else (none)) else (none)) else (if (rd x0_1 (ji3)) = 7 then (if 0 ≤ x2_1 then (if x2_1 < (x0_1.length : Int) then (if (rd x0_1 x2_1) = 8 then (selvedgeref16_w4.l0 k1 (x0_1.set (x2_1 : Int).toNat (rd x0_1 (ji3))) (wrap64 (x2_1 + 1))) else (selvedgeref16_w4.l0 k1 x0_1 (wrap64 (x2_1 + 1)))) else (none)) else (none)) else (selvedgeref16_w4.l0 k1 x0_1 (wrap64 (x2_1 + 1))))) else (selvedgeref16_w4.l0 k1 x0_1 (wrap64 (x2_1 + 1)))) else (none)) else (none)) else (none)) = some r := by first | (rw [hji3] at H; exact H) | (simp only [hji3] at H ⊢; exact H)
    have hji3w : (IntKind.i64.wrap (x2_1 - 1)) = ji3 := (i64_w _).trans hji3
    by_cases c4 : 0 ≤ (ji3)
    ·rw [if_pos c4] at H
     have c4b0 : decide (0 ≤ (ji3)) = true := decide_eq_true c4
     clear c4
     by_cases c5 : (ji3) < (x0_1.length : Int)
     ·rw [if_pos c5] at H
      have c5b0 : decide ((ji3) < (x0_1.length : Int)) = true := decide_eq_true c5
      clear c5
      obtain ⟨ji6, hji6⟩ : ∃ j_ : Int, (wrap64 (x2_1 + 1)) = j_ := ⟨_, rfl⟩
      replace H : (if 0 ≤ (ji6) then (if (rd x0_1 (ji3)) = (rd x0_1 (ji6)) then (if (rd x0_1 (ji3)) = 4 then (if 0 ≤ x2_1 then (if x2_1 < (x0_1.length : Int) then (if (rd x0_1 x2_1) = 5 then (selvedgeref16_w4.l0 k1 (x0_1.set (x2_1 : Int).toNat (rd x0_1 (ji3))) ji6) else (if (rd x0_1 x2_1) = 8 then (selvedgeref16_w4.l0 k1 (x0_1.set (x2_1 : Int).toNat (rd x0_1 (ji3))) ji6) else (if (rd x0_1 (ji3)) = 7 then (selvedgeref16_w4.l0 k1 x0_1 ji6) else (selvedgeref16_w4.l0 k1 x0_1 ji6)))) else (none)) else (none)) else (if (rd x0_1 (ji3)) = 7 then (if 0 ≤ x2_1 then (if x2_1 < (x0_1.length : Int) then (if (rd x0_1 x2_1) = 8 then (selvedgeref16_w4.l0 k1 (x0_1.set (x2_1 : Int).toNat (rd x0_1 (ji3))) ji6) else (selvedgeref16_w4.l0 k1 x0_1 ji6)) else (none)) else (none)) else (selvedgeref16_w4.l0 k1 x0_1 ji6))) else (selvedgeref16_w4.l0 k1 x0_1 ji6)) else (none)) = some r := by first | (rw [hji6] at H; exact H) | (simp only [hji6] at H ⊢; exact H)
      (try rw [hji6] at c2b0)
      have hji6w : (IntKind.i64.wrap (x2_1 + 1)) = ji6 := (i64_w _).trans hji6
      by_cases c7 : 0 ≤ (ji6)
      ·rw [if_pos c7] at H
       have c7b0 : decide (0 ≤ (ji6)) = true := decide_eq_true c7
       clear c7
       by_cases c8 : (rd x0_1 (ji3)) = (rd x0_1 (ji6))
       ·rw [if_pos c8] at H
        have c8b0 : ((rd x0_1 (ji3)) == (rd x0_1 (ji6))) = true := beq_iff_eq.mpr c8
        have c8b1 : ((rd x0_1 (ji3)) != (rd x0_1 (ji6))) = false := bne_eq_false_iff_eq.mpr c8
        clear c8
        by_cases c9 : (rd x0_1 (ji3)) = 4
        ·rw [if_pos c9] at H
         have c9b0 : ((rd x0_1 (ji3)) == 4) = true := beq_iff_eq.mpr c9
         have c9b1 : ((rd x0_1 (ji3)) != 4) = false := bne_eq_false_iff_eq.mpr c9
         clear c9
         by_cases c10 : 0 ≤ x2_1
         ·rw [if_pos c10] at H
          have c10b0 : decide (0 ≤ x2_1) = true := decide_eq_true c10
          clear c10
          by_cases c11 : x2_1 < (x0_1.length : Int)
          ·rw [if_pos c11] at H
           have c11b0 : decide (x2_1 < (x0_1.length : Int)) = true := decide_eq_true c11
           clear c11
           by_cases c12 : (rd x0_1 x2_1) = 5
           ·rw [if_pos c12] at H
            have c12b0 : ((rd x0_1 x2_1) == 5) = true := beq_iff_eq.mpr c12
            have c12b1 : ((rd x0_1 x2_1) != 5) = false := bne_eq_false_iff_eq.mpr c12
            clear c12
            obtain ⟨y140, hy140⟩ : ∃ y_ : List Int, y_ = (x0_1.set (x2_1 : Int).toNat (rd x0_1 (ji3))) := ⟨_, rfl⟩
            replace H : (selvedgeref16_w4.l0 k1 y140 ji6) = some r := by first | (rw [hy140]; with_reducible exact H) | (have H2_ := (Option.bind_some _ _).symm.trans H; rw [hy140]; with_reducible exact H2_) | (have H2_ := (Option.bind_some _ _).symm.trans H; with_reducible exact H2_) | with_reducible exact H | (rw [hy140]; exact H) | exact H
            have Ny140 := Aside0.mk hy140
            clear hy140
            have H' := Aside0.mk H
            clear H
            obtain ⟨Ao14, co14, eo14⟩ := Kd.R_slice HO_0.out
            subst eo14
            obtain ⟨ad137, e137, hx137_0, p137, q137⟩ := atI (Kd.R_reads' HO_0.out).2.2 (ji3)
            cases e137
            obtain ⟨ad138, e138, hx138_0, p138, q138⟩ := atI (Kd.R_reads' HO_0.out).2.2 (ji6)
            obtain rfl : ad137 = ad138 := (by injection e138)
            obtain ⟨ad139, e139, hx139_0, p139, q139⟩ := atI (Kd.R_reads' HO_0.out).2.2 x2_1
            obtain rfl : ad137 = ad139 := (by injection e139)
            have p13 := dT (0 ≤ (x2_1 : Int))
            have q13 : (x2_1 : Int) < ((x0_1.length : Int) : Int) := of_decide_eq_true (by first | (with_reducible assumption) | assumption)
            obtain ⟨go13, co13, eo13, gb13, gl13, cl13, HG13⟩ := Kd.R_form HO_0.out (by omega)
            (first | cases eo13 | (injection eo13 with ea_ en_ ec_; (first | subst ea_ | (injection ea_ with ea_; subst ea_)); subst ec_; clear en_))
            have GB13 := Aside0.mk gb13
            have GG13 := Aside0.mk HG13
            clear gb13 gl13 HG13
            have HMgo13 := Aside0.mk (show (P0_ go13 ∨ w.heap.size ≤ go13) from (HO_0.out.1 _ rfl))
            (first | simp only [add_plain] at hx137_0 | skip)
            (first | simp only [add_plain] at hx138_0 | skip)
            (first | simp only [add_plain] at hx139_0 | skip)
            obtain ⟨hx13_0, hf13_0⟩ := Kd.R_celln 0 HO_0.out (x2_1 : Int) p13 q13
            replace p13 := eq_true p13
            replace q13 := eq_true q13
            have HP15 := Kd.R_putg HO_0.out (x2_1 : Int) (rd x0_1 (ji3))
            go_wp2_with (first | ((with_reducible refine gate_store (t := 23) (p := 57) rfl ?_); (try (rw [drewN_self wr]; generalize hq_ : World.drewN wr _ = wr; have n0_ := Aside0.mk (Kd.R_at hq_ HO_0.out); have n1_ := Aside0.mk (kept_at hq_ HK.out); have n2_ := Aside0.mk (below_at hq_ HB.out); clear hq_ HO_0 HK HB; have HO_0 := n0_; have HK := n1_; have HB := n2_; clear n0_ n1_ n2_; (try (have HP15 := Kd.R_putg HO_0.out (x2_1 : Int) (rd x0_1 (ji3)))))); refine store_event (t := 23) (p := 57) (v := ?vo_w16) (w1 := (wr.setCell ⟨go13, (x2_1 : Int).toNat, none⟩ (.int .u8 (rd x0_1 (ji3))))) ?hg ?ho ?hn ?hr ?_; (case ho => rfl); (case hg => rfl); (case hn => rfl); (case hr => first | (go_simp; done) | (go_simp; rfl)); intro w16 hw; have hg : wr.grownBy w16 (some go13) := (by rw [hw]; exact HP15.2); have hp_ : Kd.R (Kd.int .u8) 23 w16 w0.heap.size (fun k_ => (P0_ k_ ∨ w.heap.size ≤ k_)) (.slice (some ⟨go13, 0, none⟩) x0_1.length co14) y140 := (by rw [hw, Ny140.out]; exact HP15.1); clear HP15; have n0_ := Aside0.mk (hp_); have n1_ := Aside0.mk ((by rw [hw]; exact below_set (HB.out) GB13.out : Below w0.heap.size w0 w16)); have n2_ := Aside0.mk (Kept.of_grown (S := (fun k_ => P0_ k_)) hg (by repeat (first | (with_reducible first | exact HK.out | apply Kept.alloc | apply Kept.drewN | apply Kept.drew) | exact HK.out)) (fun k_ e_ => (HO_0.out.1 k_ e_))); clear HO_0; clear HB; clear HK; have HO_0 := n0_; have HB := n1_; have HK := n2_; clear n0_ n1_ n2_; clear hg hw hp_))
            repeat (go_quiet (first | ((with_reducible refine gate_store (t := 23) (p := 57) rfl ?_); (try (rw [drewN_self wr]; generalize hq_ : World.drewN wr _ = wr; have n0_ := Aside0.mk (Kd.R_at hq_ HO_0.out); have n1_ := Aside0.mk (kept_at hq_ HK.out); have n2_ := Aside0.mk (below_at hq_ HB.out); clear hq_ HO_0 HK HB; have HO_0 := n0_; have HK := n1_; have HB := n2_; clear n0_ n1_ n2_; (try (have HP15 := Kd.R_putg HO_0.out (x2_1 : Int) (rd x0_1 (ji3)))))); refine store_event (t := 23) (p := 57) (v := ?vo_w16) (w1 := (wr.setCell ⟨go13, (x2_1 : Int).toNat, none⟩ (.int .u8 (rd x0_1 (ji3))))) ?hg ?ho ?hn ?hr ?_; (case ho => rfl); (case hg => rfl); (case hn => rfl); (case hr => first | (go_simp; done) | (go_simp; rfl)); intro w16 hw; have hg : wr.grownBy w16 (some go13) := (by rw [hw]; exact HP15.2); have hp_ : Kd.R (Kd.int .u8) 23 w16 w0.heap.size (fun k_ => (P0_ k_ ∨ w.heap.size ≤ k_)) (.slice (some ⟨go13, 0, none⟩) x0_1.length co14) y140 := (by rw [hw, Ny140.out]; exact HP15.1); clear HP15; have n0_ := Aside0.mk (hp_); have n1_ := Aside0.mk ((by rw [hw]; exact below_set (HB.out) GB13.out : Below w0.heap.size w0 w16)); have n2_ := Aside0.mk (Kept.of_grown (S := (fun k_ => P0_ k_)) hg (by repeat (first | (with_reducible first | exact HK.out | apply Kept.alloc | apply Kept.drewN | apply Kept.drew) | exact HK.out)) (fun k_ e_ => (HO_0.out.1 k_ e_))); clear HO_0; clear HB; clear HK; have HO_0 := n0_; have HB := n1_; have HK := n2_; clear n0_ n1_ n2_; clear hg hw hp_)); try go_wp2_with (first | ((with_reducible refine gate_store (t := 23) (p := 57) rfl ?_); (try (rw [drewN_self wr]; generalize hq_ : World.drewN wr _ = wr; have n0_ := Aside0.mk (Kd.R_at hq_ HO_0.out); have n1_ := Aside0.mk (kept_at hq_ HK.out); have n2_ := Aside0.mk (below_at hq_ HB.out); clear hq_ HO_0 HK HB; have HO_0 := n0_; have HK := n1_; have HB := n2_; clear n0_ n1_ n2_; (try (have HP15 := Kd.R_putg HO_0.out (x2_1 : Int) (rd x0_1 (ji3)))))); refine store_event (t := 23) (p := 57) (v := ?vo_w16) (w1 := (wr.setCell ⟨go13, (x2_1 : Int).toNat, none⟩ (.int .u8 (rd x0_1 (ji3))))) ?hg ?ho ?hn ?hr ?_; (case ho => rfl); (case hg => rfl); (case hn => rfl); (case hr => first | (go_simp; done) | (go_simp; rfl)); intro w16 hw; have hg : wr.grownBy w16 (some go13) := (by rw [hw]; exact HP15.2); have hp_ : Kd.R (Kd.int .u8) 23 w16 w0.heap.size (fun k_ => (P0_ k_ ∨ w.heap.size ≤ k_)) (.slice (some ⟨go13, 0, none⟩) x0_1.length co14) y140 := (by rw [hw, Ny140.out]; exact HP15.1); clear HP15; have n0_ := Aside0.mk (hp_); have n1_ := Aside0.mk ((by rw [hw]; exact below_set (HB.out) GB13.out : Below w0.heap.size w0 w16)); have n2_ := Aside0.mk (Kept.of_grown (S := (fun k_ => P0_ k_)) hg (by repeat (first | (with_reducible first | exact HK.out | apply Kept.alloc | apply Kept.drewN | apply Kept.drew) | exact HK.out)) (fun k_ e_ => (HO_0.out.1 k_ e_))); clear HO_0; clear HB; clear HK; have HO_0 := n0_; have HB := n1_; have HK := n2_; clear n0_ n1_ n2_; clear hg hw hp_)))
            go_roundg k1
            case measure => have := HK1.out; omega
            case rel =>
              have W1_ := Kd.R_putg (Kd.R_at (rfl : World.drewN wr nq = wr.drewN nq) HO_0.out) (x2_1 : Int) (rd x0_1 (ji3))
              exact ⟨(y140), (ji6), (by first | rfl | (simp; done) | (simp only [← hji6] <;> (first | rfl | simp)) | (simp [*]; done)), H', ⟨by have := HK1.out; omega⟩, ⟨by rw [Ny140.out]; exact W1_.1⟩, ⟨Kept.of_grown (S := (fun k_ => P0_ k_)) W1_.2 (kept_at rfl HK.out) (fun k_ e_ => (HO_0.out.1 k_ e_))⟩, ⟨below_set (below_at rfl HB.out) GB13.out⟩⟩
           ·rw [if_neg c12] at H
            have c12b0 : ((rd x0_1 x2_1) == 5) = false := beq_eq_false_iff_ne.mpr c12
            have c12b1 : ((rd x0_1 x2_1) != 5) = true := bne_iff_ne.mpr c12
            by_cases c17 : (rd x0_1 x2_1) = 8
            ·rw [if_pos c17] at H
             have c17b0 : ((rd x0_1 x2_1) == 8) = true := beq_iff_eq.mpr c17
             have c17b1 : ((rd x0_1 x2_1) != 8) = false := bne_eq_false_iff_eq.mpr c17
             clear c17
             obtain ⟨y142, hy142⟩ : ∃ y_ : List Int, y_ = (x0_1.set (x2_1 : Int).toNat (rd x0_1 (ji3))) := ⟨_, rfl⟩
             replace H : (selvedgeref16_w4.l0 k1 y142 ji6) = some r := by first | (rw [hy142]; with_reducible exact H) | (have H2_ := (Option.bind_some _ _).symm.trans H; rw [hy142]; with_reducible exact H2_) | (have H2_ := (Option.bind_some _ _).symm.trans H; with_reducible exact H2_) | with_reducible exact H | (rw [hy142]; exact H) | exact H
             have Ny142 := Aside0.mk hy142
             clear hy142
             have H' := Aside0.mk H
             clear H
             obtain ⟨Ao19, co19, eo19⟩ := Kd.R_slice HO_0.out
             subst eo19
             obtain ⟨ad137, e137, hx137_0, p137, q137⟩ := atI (Kd.R_reads' HO_0.out).2.2 (ji3)
             cases e137
             obtain ⟨ad138, e138, hx138_0, p138, q138⟩ := atI (Kd.R_reads' HO_0.out).2.2 (ji6)
             obtain rfl : ad137 = ad138 := (by injection e138)
             obtain ⟨ad139, e139, hx139_0, p139, q139⟩ := atI (Kd.R_reads' HO_0.out).2.2 x2_1
             obtain rfl : ad137 = ad139 := (by injection e139)
             obtain ⟨ad141, e141, hx141_0, p141, q141⟩ := atI (Kd.R_reads' HO_0.out).2.2 x2_1
             obtain rfl : ad137 = ad141 := (by injection e141)
             have p18 := dT (0 ≤ (x2_1 : Int))
             have q18 : (x2_1 : Int) < ((x0_1.length : Int) : Int) := of_decide_eq_true (by first | (with_reducible assumption) | assumption)
             obtain ⟨go18, co18, eo18, gb18, gl18, cl18, HG18⟩ := Kd.R_form HO_0.out (by omega)
             (first | cases eo18 | (injection eo18 with ea_ en_ ec_; (first | subst ea_ | (injection ea_ with ea_; subst ea_)); subst ec_; clear en_))
             have GB18 := Aside0.mk gb18
             have GG18 := Aside0.mk HG18
             clear gb18 gl18 HG18
             have HMgo18 := Aside0.mk (show (P0_ go18 ∨ w.heap.size ≤ go18) from (HO_0.out.1 _ rfl))
             (first | simp only [add_plain] at hx137_0 | skip)
             (first | simp only [add_plain] at hx138_0 | skip)
             (first | simp only [add_plain] at hx139_0 | skip)
             (first | simp only [add_plain] at hx141_0 | skip)
             obtain ⟨hx18_0, hf18_0⟩ := Kd.R_celln 0 HO_0.out (x2_1 : Int) p18 q18
             replace p18 := eq_true p18
             replace q18 := eq_true q18
             have HP20 := Kd.R_putg HO_0.out (x2_1 : Int) (rd x0_1 (ji3))
             go_wp2_with (first | ((with_reducible refine gate_store (t := 23) (p := 57) rfl ?_); (try (rw [drewN_self wr]; generalize hq_ : World.drewN wr _ = wr; have n0_ := Aside0.mk (Kd.R_at hq_ HO_0.out); have n1_ := Aside0.mk (kept_at hq_ HK.out); have n2_ := Aside0.mk (below_at hq_ HB.out); clear hq_ HO_0 HK HB; have HO_0 := n0_; have HK := n1_; have HB := n2_; clear n0_ n1_ n2_; (try (have HP20 := Kd.R_putg HO_0.out (x2_1 : Int) (rd x0_1 (ji3)))))); refine store_event (t := 23) (p := 57) (v := ?vo_w21) (w1 := (wr.setCell ⟨go18, (x2_1 : Int).toNat, none⟩ (.int .u8 (rd x0_1 (ji3))))) ?hg ?ho ?hn ?hr ?_; (case ho => rfl); (case hg => rfl); (case hn => rfl); (case hr => first | (go_simp; done) | (go_simp; rfl)); intro w21 hw; have hg : wr.grownBy w21 (some go18) := (by rw [hw]; exact HP20.2); have hp_ : Kd.R (Kd.int .u8) 23 w21 w0.heap.size (fun k_ => (P0_ k_ ∨ w.heap.size ≤ k_)) (.slice (some ⟨go18, 0, none⟩) x0_1.length co19) y142 := (by rw [hw, Ny142.out]; exact HP20.1); clear HP20; have n0_ := Aside0.mk (hp_); have n1_ := Aside0.mk ((by rw [hw]; exact below_set (HB.out) GB18.out : Below w0.heap.size w0 w21)); have n2_ := Aside0.mk (Kept.of_grown (S := (fun k_ => P0_ k_)) hg (by repeat (first | (with_reducible first | exact HK.out | apply Kept.alloc | apply Kept.drewN | apply Kept.drew) | exact HK.out)) (fun k_ e_ => (HO_0.out.1 k_ e_))); clear HO_0; clear HB; clear HK; have HO_0 := n0_; have HB := n1_; have HK := n2_; clear n0_ n1_ n2_; clear hg hw hp_))
             repeat (go_quiet (first | ((with_reducible refine gate_store (t := 23) (p := 57) rfl ?_); (try (rw [drewN_self wr]; generalize hq_ : World.drewN wr _ = wr; have n0_ := Aside0.mk (Kd.R_at hq_ HO_0.out); have n1_ := Aside0.mk (kept_at hq_ HK.out); have n2_ := Aside0.mk (below_at hq_ HB.out); clear hq_ HO_0 HK HB; have HO_0 := n0_; have HK := n1_; have HB := n2_; clear n0_ n1_ n2_; (try (have HP20 := Kd.R_putg HO_0.out (x2_1 : Int) (rd x0_1 (ji3)))))); refine store_event (t := 23) (p := 57) (v := ?vo_w21) (w1 := (wr.setCell ⟨go18, (x2_1 : Int).toNat, none⟩ (.int .u8 (rd x0_1 (ji3))))) ?hg ?ho ?hn ?hr ?_; (case ho => rfl); (case hg => rfl); (case hn => rfl); (case hr => first | (go_simp; done) | (go_simp; rfl)); intro w21 hw; have hg : wr.grownBy w21 (some go18) := (by rw [hw]; exact HP20.2); have hp_ : Kd.R (Kd.int .u8) 23 w21 w0.heap.size (fun k_ => (P0_ k_ ∨ w.heap.size ≤ k_)) (.slice (some ⟨go18, 0, none⟩) x0_1.length co19) y142 := (by rw [hw, Ny142.out]; exact HP20.1); clear HP20; have n0_ := Aside0.mk (hp_); have n1_ := Aside0.mk ((by rw [hw]; exact below_set (HB.out) GB18.out : Below w0.heap.size w0 w21)); have n2_ := Aside0.mk (Kept.of_grown (S := (fun k_ => P0_ k_)) hg (by repeat (first | (with_reducible first | exact HK.out | apply Kept.alloc | apply Kept.drewN | apply Kept.drew) | exact HK.out)) (fun k_ e_ => (HO_0.out.1 k_ e_))); clear HO_0; clear HB; clear HK; have HO_0 := n0_; have HB := n1_; have HK := n2_; clear n0_ n1_ n2_; clear hg hw hp_)); try go_wp2_with (first | ((with_reducible refine gate_store (t := 23) (p := 57) rfl ?_); (try (rw [drewN_self wr]; generalize hq_ : World.drewN wr _ = wr; have n0_ := Aside0.mk (Kd.R_at hq_ HO_0.out); have n1_ := Aside0.mk (kept_at hq_ HK.out); have n2_ := Aside0.mk (below_at hq_ HB.out); clear hq_ HO_0 HK HB; have HO_0 := n0_; have HK := n1_; have HB := n2_; clear n0_ n1_ n2_; (try (have HP20 := Kd.R_putg HO_0.out (x2_1 : Int) (rd x0_1 (ji3)))))); refine store_event (t := 23) (p := 57) (v := ?vo_w21) (w1 := (wr.setCell ⟨go18, (x2_1 : Int).toNat, none⟩ (.int .u8 (rd x0_1 (ji3))))) ?hg ?ho ?hn ?hr ?_; (case ho => rfl); (case hg => rfl); (case hn => rfl); (case hr => first | (go_simp; done) | (go_simp; rfl)); intro w21 hw; have hg : wr.grownBy w21 (some go18) := (by rw [hw]; exact HP20.2); have hp_ : Kd.R (Kd.int .u8) 23 w21 w0.heap.size (fun k_ => (P0_ k_ ∨ w.heap.size ≤ k_)) (.slice (some ⟨go18, 0, none⟩) x0_1.length co19) y142 := (by rw [hw, Ny142.out]; exact HP20.1); clear HP20; have n0_ := Aside0.mk (hp_); have n1_ := Aside0.mk ((by rw [hw]; exact below_set (HB.out) GB18.out : Below w0.heap.size w0 w21)); have n2_ := Aside0.mk (Kept.of_grown (S := (fun k_ => P0_ k_)) hg (by repeat (first | (with_reducible first | exact HK.out | apply Kept.alloc | apply Kept.drewN | apply Kept.drew) | exact HK.out)) (fun k_ e_ => (HO_0.out.1 k_ e_))); clear HO_0; clear HB; clear HK; have HO_0 := n0_; have HB := n1_; have HK := n2_; clear n0_ n1_ n2_; clear hg hw hp_)))
             go_roundg k1
             case measure => have := HK1.out; omega
             case rel =>
              have W1_ := Kd.R_putg (Kd.R_at (rfl : World.drewN wr nq = wr.drewN nq) HO_0.out) (x2_1 : Int) (rd x0_1 (ji3))
              exact ⟨(y142), (ji6), (by first | rfl | (simp; done) | (simp only [← hji6] <;> (first | rfl | simp)) | (simp [*]; done)), H', ⟨by have := HK1.out; omega⟩, ⟨by rw [Ny142.out]; exact W1_.1⟩, ⟨Kept.of_grown (S := (fun k_ => P0_ k_)) W1_.2 (kept_at rfl HK.out) (fun k_ e_ => (HO_0.out.1 k_ e_))⟩, ⟨below_set (below_at rfl HB.out) GB18.out⟩⟩
            ·rw [if_neg c17] at H
             have c17b0 : ((rd x0_1 x2_1) == 8) = false := beq_eq_false_iff_ne.mpr c17
             have c17b1 : ((rd x0_1 x2_1) != 8) = true := bne_iff_ne.mpr c17
             by_cases c22 : (rd x0_1 (ji3)) = 7
             ·rw [if_pos c22] at H
              have c22b0 : ((rd x0_1 (ji3)) == 7) = true := beq_iff_eq.mpr c22
              have c22b1 : ((rd x0_1 (ji3)) != 7) = false := bne_eq_false_iff_eq.mpr c22
              clear c22
              have H' := Aside0.mk H
              clear H
              obtain ⟨Ao23, co23, eo23⟩ := Kd.R_slice HO_0.out
              subst eo23
              obtain ⟨ad137, e137, hx137_0, p137, q137⟩ := atI (Kd.R_reads' HO_0.out).2.2 (ji3)
              cases e137
              obtain ⟨ad138, e138, hx138_0, p138, q138⟩ := atI (Kd.R_reads' HO_0.out).2.2 (ji6)
              obtain rfl : ad137 = ad138 := (by injection e138)
              obtain ⟨ad139, e139, hx139_0, p139, q139⟩ := atI (Kd.R_reads' HO_0.out).2.2 x2_1
              obtain rfl : ad137 = ad139 := (by injection e139)
              obtain ⟨ad141, e141, hx141_0, p141, q141⟩ := atI (Kd.R_reads' HO_0.out).2.2 x2_1
              obtain rfl : ad137 = ad141 := (by injection e141)
              obtain ⟨ad143, e143, hx143_0, p143, q143⟩ := atI (Kd.R_reads' HO_0.out).2.2 x2_1
              obtain rfl : ad137 = ad143 := (by injection e143)
              go_wp2
              repeat (go_quiet (fail); try go_wp2)
              go_roundg k1
              case measure => have := HK1.out; omega
              case rel => exact ⟨(x0_1), (ji6), (by first | rfl | (simp; done) | (simp only [← hji6] <;> (first | rfl | simp)) | (simp [*]; done)), H', ⟨by have := HK1.out; omega⟩, ⟨mvR HO_0⟩, ⟨by repeat (first | (with_reducible first | exact HK.out | apply Kept.alloc | apply Kept.drewN | apply Kept.drew) | exact HK.out)⟩, ⟨mvB HB⟩⟩
             ·rw [if_neg c22] at H
              have c22b0 : ((rd x0_1 (ji3)) == 7) = false := beq_eq_false_iff_ne.mpr c22
              have c22b1 : ((rd x0_1 (ji3)) != 7) = true := bne_iff_ne.mpr c22
              have H' := Aside0.mk H
              clear H
              obtain ⟨Ao24, co24, eo24⟩ := Kd.R_slice HO_0.out
              subst eo24
              obtain ⟨ad137, e137, hx137_0, p137, q137⟩ := atI (Kd.R_reads' HO_0.out).2.2 (ji3)
              cases e137
              obtain ⟨ad138, e138, hx138_0, p138, q138⟩ := atI (Kd.R_reads' HO_0.out).2.2 (ji6)
              obtain rfl : ad137 = ad138 := (by injection e138)
              obtain ⟨ad139, e139, hx139_0, p139, q139⟩ := atI (Kd.R_reads' HO_0.out).2.2 x2_1
              obtain rfl : ad137 = ad139 := (by injection e139)
              obtain ⟨ad141, e141, hx141_0, p141, q141⟩ := atI (Kd.R_reads' HO_0.out).2.2 x2_1
              obtain rfl : ad137 = ad141 := (by injection e141)
              go_wp2
              repeat (go_quiet (fail); try go_wp2)
              go_roundg k1
              case measure => have := HK1.out; omega
              case rel => exact ⟨(x0_1), (ji6), (by first | rfl | (simp; done) | (simp only [← hji6] <;> (first | rfl | simp)) | (simp [*]; done)), H', ⟨by have := HK1.out; omega⟩, ⟨mvR HO_0⟩, ⟨by repeat (first | (with_reducible first | exact HK.out | apply Kept.alloc | apply Kept.drewN | apply Kept.drew) | exact HK.out)⟩, ⟨mvB HB⟩⟩
          ·rw [if_neg c11] at H
           exact absurd H (by simp)
         ·rw [if_neg c10] at H
          exact absurd H (by simp)
        ·rw [if_neg c9] at H
         have c9b0 : ((rd x0_1 (ji3)) == 4) = false := beq_eq_false_iff_ne.mpr c9
         have c9b1 : ((rd x0_1 (ji3)) != 4) = true := bne_iff_ne.mpr c9
         by_cases c25 : (rd x0_1 (ji3)) = 7
         ·rw [if_pos c25] at H
          have c25b0 : ((rd x0_1 (ji3)) == 7) = true := beq_iff_eq.mpr c25
          have c25b1 : ((rd x0_1 (ji3)) != 7) = false := bne_eq_false_iff_eq.mpr c25
          clear c25
          by_cases c26 : 0 ≤ x2_1
          ·rw [if_pos c26] at H
           have c26b0 : decide (0 ≤ x2_1) = true := decide_eq_true c26
           clear c26
           by_cases c27 : x2_1 < (x0_1.length : Int)
           ·rw [if_pos c27] at H
            have c27b0 : decide (x2_1 < (x0_1.length : Int)) = true := decide_eq_true c27
            clear c27
            by_cases c28 : (rd x0_1 x2_1) = 8
            ·rw [if_pos c28] at H
             have c28b0 : ((rd x0_1 x2_1) == 8) = true := beq_iff_eq.mpr c28
             have c28b1 : ((rd x0_1 x2_1) != 8) = false := bne_eq_false_iff_eq.mpr c28
             clear c28
             obtain ⟨y145, hy145⟩ : ∃ y_ : List Int, y_ = (x0_1.set (x2_1 : Int).toNat (rd x0_1 (ji3))) := ⟨_, rfl⟩
             replace H : (selvedgeref16_w4.l0 k1 y145 ji6) = some r := by first | (rw [hy145]; with_reducible exact H) | (have H2_ := (Option.bind_some _ _).symm.trans H; rw [hy145]; with_reducible exact H2_) | (have H2_ := (Option.bind_some _ _).symm.trans H; with_reducible exact H2_) | with_reducible exact H | (rw [hy145]; exact H) | exact H
             have Ny145 := Aside0.mk hy145
             clear hy145
             have H' := Aside0.mk H
             clear H
             obtain ⟨Ao30, co30, eo30⟩ := Kd.R_slice HO_0.out
             subst eo30
             obtain ⟨ad137, e137, hx137_0, p137, q137⟩ := atI (Kd.R_reads' HO_0.out).2.2 (ji3)
             cases e137
             obtain ⟨ad138, e138, hx138_0, p138, q138⟩ := atI (Kd.R_reads' HO_0.out).2.2 (ji6)
             obtain rfl : ad137 = ad138 := (by injection e138)
             obtain ⟨ad144, e144, hx144_0, p144, q144⟩ := atI (Kd.R_reads' HO_0.out).2.2 x2_1
             obtain rfl : ad137 = ad144 := (by injection e144)
             have p29 := dT (0 ≤ (x2_1 : Int))
             have q29 : (x2_1 : Int) < ((x0_1.length : Int) : Int) := of_decide_eq_true (by first | (with_reducible assumption) | assumption)
             obtain ⟨go29, co29, eo29, gb29, gl29, cl29, HG29⟩ := Kd.R_form HO_0.out (by omega)
             (first | cases eo29 | (injection eo29 with ea_ en_ ec_; (first | subst ea_ | (injection ea_ with ea_; subst ea_)); subst ec_; clear en_))
             have GB29 := Aside0.mk gb29
             have GG29 := Aside0.mk HG29
             clear gb29 gl29 HG29
             have HMgo29 := Aside0.mk (show (P0_ go29 ∨ w.heap.size ≤ go29) from (HO_0.out.1 _ rfl))
             (first | simp only [add_plain] at hx137_0 | skip)
             (first | simp only [add_plain] at hx138_0 | skip)
             (first | simp only [add_plain] at hx139_0 | skip)
             (first | simp only [add_plain] at hx141_0 | skip)
             (first | simp only [add_plain] at hx143_0 | skip)
             (first | simp only [add_plain] at hx144_0 | skip)
             obtain ⟨hx29_0, hf29_0⟩ := Kd.R_celln 0 HO_0.out (x2_1 : Int) p29 q29
             replace p29 := eq_true p29
             replace q29 := eq_true q29
             have HP31 := Kd.R_putg HO_0.out (x2_1 : Int) (rd x0_1 (ji3))
             go_wp2_with (first | ((with_reducible refine gate_store (t := 23) (p := 57) rfl ?_); (try (rw [drewN_self wr]; generalize hq_ : World.drewN wr _ = wr; have n0_ := Aside0.mk (Kd.R_at hq_ HO_0.out); have n1_ := Aside0.mk (kept_at hq_ HK.out); have n2_ := Aside0.mk (below_at hq_ HB.out); clear hq_ HO_0 HK HB; have HO_0 := n0_; have HK := n1_; have HB := n2_; clear n0_ n1_ n2_; (try (have HP31 := Kd.R_putg HO_0.out (x2_1 : Int) (rd x0_1 (ji3)))))); refine store_event (t := 23) (p := 57) (v := ?vo_w32) (w1 := (wr.setCell ⟨go29, (x2_1 : Int).toNat, none⟩ (.int .u8 (rd x0_1 (ji3))))) ?hg ?ho ?hn ?hr ?_; (case ho => rfl); (case hg => rfl); (case hn => rfl); (case hr => first | (go_simp; done) | (go_simp; rfl)); intro w32 hw; have hg : wr.grownBy w32 (some go29) := (by rw [hw]; exact HP31.2); have hp_ : Kd.R (Kd.int .u8) 23 w32 w0.heap.size (fun k_ => (P0_ k_ ∨ w.heap.size ≤ k_)) (.slice (some ⟨go29, 0, none⟩) x0_1.length co30) y145 := (by rw [hw, Ny145.out]; exact HP31.1); clear HP31; have n0_ := Aside0.mk (hp_); have n1_ := Aside0.mk ((by rw [hw]; exact below_set (HB.out) GB29.out : Below w0.heap.size w0 w32)); have n2_ := Aside0.mk (Kept.of_grown (S := (fun k_ => P0_ k_)) hg (by repeat (first | (with_reducible first | exact HK.out | apply Kept.alloc | apply Kept.drewN | apply Kept.drew) | exact HK.out)) (fun k_ e_ => (HO_0.out.1 k_ e_))); clear HO_0; clear HB; clear HK; have HO_0 := n0_; have HB := n1_; have HK := n2_; clear n0_ n1_ n2_; clear hg hw hp_))
             repeat (go_quiet (first | ((with_reducible refine gate_store (t := 23) (p := 57) rfl ?_); (try (rw [drewN_self wr]; generalize hq_ : World.drewN wr _ = wr; have n0_ := Aside0.mk (Kd.R_at hq_ HO_0.out); have n1_ := Aside0.mk (kept_at hq_ HK.out); have n2_ := Aside0.mk (below_at hq_ HB.out); clear hq_ HO_0 HK HB; have HO_0 := n0_; have HK := n1_; have HB := n2_; clear n0_ n1_ n2_; (try (have HP31 := Kd.R_putg HO_0.out (x2_1 : Int) (rd x0_1 (ji3)))))); refine store_event (t := 23) (p := 57) (v := ?vo_w32) (w1 := (wr.setCell ⟨go29, (x2_1 : Int).toNat, none⟩ (.int .u8 (rd x0_1 (ji3))))) ?hg ?ho ?hn ?hr ?_; (case ho => rfl); (case hg => rfl); (case hn => rfl); (case hr => first | (go_simp; done) | (go_simp; rfl)); intro w32 hw; have hg : wr.grownBy w32 (some go29) := (by rw [hw]; exact HP31.2); have hp_ : Kd.R (Kd.int .u8) 23 w32 w0.heap.size (fun k_ => (P0_ k_ ∨ w.heap.size ≤ k_)) (.slice (some ⟨go29, 0, none⟩) x0_1.length co30) y145 := (by rw [hw, Ny145.out]; exact HP31.1); clear HP31; have n0_ := Aside0.mk (hp_); have n1_ := Aside0.mk ((by rw [hw]; exact below_set (HB.out) GB29.out : Below w0.heap.size w0 w32)); have n2_ := Aside0.mk (Kept.of_grown (S := (fun k_ => P0_ k_)) hg (by repeat (first | (with_reducible first | exact HK.out | apply Kept.alloc | apply Kept.drewN | apply Kept.drew) | exact HK.out)) (fun k_ e_ => (HO_0.out.1 k_ e_))); clear HO_0; clear HB; clear HK; have HO_0 := n0_; have HB := n1_; have HK := n2_; clear n0_ n1_ n2_; clear hg hw hp_)); try go_wp2_with (first | ((with_reducible refine gate_store (t := 23) (p := 57) rfl ?_); (try (rw [drewN_self wr]; generalize hq_ : World.drewN wr _ = wr; have n0_ := Aside0.mk (Kd.R_at hq_ HO_0.out); have n1_ := Aside0.mk (kept_at hq_ HK.out); have n2_ := Aside0.mk (below_at hq_ HB.out); clear hq_ HO_0 HK HB; have HO_0 := n0_; have HK := n1_; have HB := n2_; clear n0_ n1_ n2_; (try (have HP31 := Kd.R_putg HO_0.out (x2_1 : Int) (rd x0_1 (ji3)))))); refine store_event (t := 23) (p := 57) (v := ?vo_w32) (w1 := (wr.setCell ⟨go29, (x2_1 : Int).toNat, none⟩ (.int .u8 (rd x0_1 (ji3))))) ?hg ?ho ?hn ?hr ?_; (case ho => rfl); (case hg => rfl); (case hn => rfl); (case hr => first | (go_simp; done) | (go_simp; rfl)); intro w32 hw; have hg : wr.grownBy w32 (some go29) := (by rw [hw]; exact HP31.2); have hp_ : Kd.R (Kd.int .u8) 23 w32 w0.heap.size (fun k_ => (P0_ k_ ∨ w.heap.size ≤ k_)) (.slice (some ⟨go29, 0, none⟩) x0_1.length co30) y145 := (by rw [hw, Ny145.out]; exact HP31.1); clear HP31; have n0_ := Aside0.mk (hp_); have n1_ := Aside0.mk ((by rw [hw]; exact below_set (HB.out) GB29.out : Below w0.heap.size w0 w32)); have n2_ := Aside0.mk (Kept.of_grown (S := (fun k_ => P0_ k_)) hg (by repeat (first | (with_reducible first | exact HK.out | apply Kept.alloc | apply Kept.drewN | apply Kept.drew) | exact HK.out)) (fun k_ e_ => (HO_0.out.1 k_ e_))); clear HO_0; clear HB; clear HK; have HO_0 := n0_; have HB := n1_; have HK := n2_; clear n0_ n1_ n2_; clear hg hw hp_)))
             go_roundg k1
             case measure => have := HK1.out; omega
             case rel =>
              have W1_ := Kd.R_putg (Kd.R_at (rfl : World.drewN wr nq = wr.drewN nq) HO_0.out) (x2_1 : Int) (rd x0_1 (ji3))
              exact ⟨(y145), (ji6), (by first | rfl | (simp; done) | (simp only [← hji6] <;> (first | rfl | simp)) | (simp [*]; done)), H', ⟨by have := HK1.out; omega⟩, ⟨by rw [Ny145.out]; exact W1_.1⟩, ⟨Kept.of_grown (S := (fun k_ => P0_ k_)) W1_.2 (kept_at rfl HK.out) (fun k_ e_ => (HO_0.out.1 k_ e_))⟩, ⟨below_set (below_at rfl HB.out) GB29.out⟩⟩
            ·rw [if_neg c28] at H
             have c28b0 : ((rd x0_1 x2_1) == 8) = false := beq_eq_false_iff_ne.mpr c28
             have c28b1 : ((rd x0_1 x2_1) != 8) = true := bne_iff_ne.mpr c28
             have H' := Aside0.mk H
             clear H
             obtain ⟨Ao33, co33, eo33⟩ := Kd.R_slice HO_0.out
             subst eo33
             obtain ⟨ad137, e137, hx137_0, p137, q137⟩ := atI (Kd.R_reads' HO_0.out).2.2 (ji3)
             cases e137
             obtain ⟨ad138, e138, hx138_0, p138, q138⟩ := atI (Kd.R_reads' HO_0.out).2.2 (ji6)
             obtain rfl : ad137 = ad138 := (by injection e138)
             obtain ⟨ad144, e144, hx144_0, p144, q144⟩ := atI (Kd.R_reads' HO_0.out).2.2 x2_1
             obtain rfl : ad137 = ad144 := (by injection e144)
             go_wp2
             repeat (go_quiet (fail); try go_wp2)
             go_roundg k1
             case measure => have := HK1.out; omega
             case rel => exact ⟨(x0_1), (ji6), (by first | rfl | (simp; done) | (simp only [← hji6] <;> (first | rfl | simp)) | (simp [*]; done)), H', ⟨by have := HK1.out; omega⟩, ⟨mvR HO_0⟩, ⟨by repeat (first | (with_reducible first | exact HK.out | apply Kept.alloc | apply Kept.drewN | apply Kept.drew) | exact HK.out)⟩, ⟨mvB HB⟩⟩
           ·rw [if_neg c27] at H
            exact absurd H (by simp)
          ·rw [if_neg c26] at H
           exact absurd H (by simp)
         ·rw [if_neg c25] at H
          have c25b0 : ((rd x0_1 (ji3)) == 7) = false := beq_eq_false_iff_ne.mpr c25
          have c25b1 : ((rd x0_1 (ji3)) != 7) = true := bne_iff_ne.mpr c25
          have H' := Aside0.mk H
          clear H
          obtain ⟨Ao34, co34, eo34⟩ := Kd.R_slice HO_0.out
          subst eo34
          obtain ⟨ad137, e137, hx137_0, p137, q137⟩ := atI (Kd.R_reads' HO_0.out).2.2 (ji3)
          cases e137
          obtain ⟨ad138, e138, hx138_0, p138, q138⟩ := atI (Kd.R_reads' HO_0.out).2.2 (ji6)
          obtain rfl : ad137 = ad138 := (by injection e138)
          go_wp2
          repeat (go_quiet (fail); try go_wp2)
          go_roundg k1
          case measure => have := HK1.out; omega
          case rel => exact ⟨(x0_1), (ji6), (by first | rfl | (simp; done) | (simp only [← hji6] <;> (first | rfl | simp)) | (simp [*]; done)), H', ⟨by have := HK1.out; omega⟩, ⟨mvR HO_0⟩, ⟨by repeat (first | (with_reducible first | exact HK.out | apply Kept.alloc | apply Kept.drewN | apply Kept.drew) | exact HK.out)⟩, ⟨mvB HB⟩⟩
       ·rw [if_neg c8] at H
        have c8b0 : ((rd x0_1 (ji3)) == (rd x0_1 (ji6))) = false := beq_eq_false_iff_ne.mpr c8
        have c8b1 : ((rd x0_1 (ji3)) != (rd x0_1 (ji6))) = true := bne_iff_ne.mpr c8
        have H' := Aside0.mk H
        clear H
        obtain ⟨Ao35, co35, eo35⟩ := Kd.R_slice HO_0.out
        subst eo35
        obtain ⟨ad137, e137, hx137_0, p137, q137⟩ := atI (Kd.R_reads' HO_0.out).2.2 (ji3)
        cases e137
        obtain ⟨ad138, e138, hx138_0, p138, q138⟩ := atI (Kd.R_reads' HO_0.out).2.2 (ji6)
        obtain rfl : ad137 = ad138 := (by injection e138)
        go_wp2
        repeat (go_quiet (fail); try go_wp2)
        go_roundg k1
        case measure => have := HK1.out; omega
        case rel => exact ⟨(x0_1), (ji6), (by first | rfl | (simp; done) | (simp only [← hji6] <;> (first | rfl | simp)) | (simp [*]; done)), H', ⟨by have := HK1.out; omega⟩, ⟨mvR HO_0⟩, ⟨by repeat (first | (with_reducible first | exact HK.out | apply Kept.alloc | apply Kept.drewN | apply Kept.drew) | exact HK.out)⟩, ⟨mvB HB⟩⟩
      ·rw [if_neg c7] at H
       exact absurd H (by simp)
     ·rw [if_neg c5] at H
      exact absurd H (by simp)
    ·rw [if_neg c4] at H
     exact absurd H (by simp)
   ·rw [if_neg c2] at H
    have c2b0 : decide ((wrap64 (x2_1 + 1)) < (x0_1.length : Int)) = false := decide_eq_false c2
    clear c2
    obtain rfl := Option.some.inj H
    obtain ⟨Ao36, co36, eo36⟩ := Kd.R_slice HO_0.out
    subst eo36
    go_wp2
    repeat (go_quiet (fail); try go_wp2)
    first | go_end0 | ((try simp only [Exit.inBlock, Exit.then]); refine bodyPost_ret (results_none rfl _ _ _) rfl ?_)
    exact ⟨by first | rfl | (simp [errW_none, errW_some] <;> rfl) | (simp [*, errW_none, errW_some] <;> rfl), mvR HO_0, mvB HB, by repeat (first | (with_reducible first | exact HK.out | apply Kept.alloc | apply Kept.drewN | apply Kept.drew) | exact HK.out)⟩

end Go.Proofs.Ytnpcfiahmadkjaa.X
