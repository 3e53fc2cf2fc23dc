-- by xprint.py: the kit's printer over texts of this session
import Derived.Test.YtaohghcmlohngaaDoorX0
import Derived.Test.YtaohghcmlohngaaDoorX3
import Derived.Test.YtaohghcmlohngaaDoorX3b
import Derived.Test.YtaohghcmlohngaaDoorX6
import Derived.Test.YtaohghcmlohngaaDoorT4
import Derived.Test.YtaohghcmlohngaaDoorT6
namespace Go.Proofs.YtaohghcmlohngaaDoor.X
open Go.RowKit Go.Proofs.YtaohghcmlohngaaDoorW.PrintWords Go.Proofs.YtaohghcmlohngaaDoorW.PrintLast Go.Proofs.YtaohghcmlohngaaDoorW.PrintMore
attribute [local go_sem] max2_int min2_int max_two min_two max_three min_three max_four min_four   -- for this text's walks alone
set_option linter.unusedVariables false
set_option linter.unusedSimpArgs false

/-! ### selvedgelaw03_CharrefFinds: function 3 -/
mutual
def selvedgelaw03_CharrefFinds.j0 : Nat → ByteArray → Int → ByteArray → Bool → Bool → Option (Bool)
 | 0, _, _, _, _, _ => none
 | k + 1, x0, x1, x2, x3, x26 => if x26 = true then ((selvedgelaw03_works.f k).bind fun t155 => (some t155)) else ((selvedgeref03_Names.f).bind fun t156 => (if (t156.length : Int) = 0 then (none) else (if 0 ≤ (Int.tmod (wrap64 (x1)) (t156.length : Int)) then (if (Int.tmod (wrap64 (x1)) (t156.length : Int)) < (t156.length : Int) then (if 1 + ((rd_T26 t156 (Int.tmod (wrap64 (x1)) (t156.length : Int))).f0).size ≤ 9223372036854775807 then (if ((⟨#[38]⟩ : ByteArray) ++ ((rd_T26 t156 (Int.tmod (wrap64 (x1)) (t156.length : Int))).f0)).size + x2.size ≤ 9223372036854775807 then (if 2 + x2.size ≤ 9223372036854775807 then (if 3 + x2.size ≤ 9223372036854775807 then ((some (([x0, ((⟨#[38]⟩ : ByteArray) ++ ((rd_T26 t156 (Int.tmod (wrap64 (x1)) (t156.length : Int))).f0)) ++ x2, (⟨#[38, 35]⟩ : ByteArray) ++ x2, (⟨#[38, 35, 120]⟩ : ByteArray) ++ x2] : List ByteArray) : List ByteArray)).bind fun y160 => (selvedgelaw03_CharrefFinds.l0 k x3 y160 (y160.length : Int) 0)) else (none)) else (none)) else (none)) else (none)) else (none)) else (none))))
def selvedgelaw03_CharrefFinds.l0 : Nat → Bool → List ByteArray → Int → Int → Option (Bool)
 | 0, _, _, _, _ => none
 | k + 1, x3, x47, x48, x49 => if x49 < x48 then (if 0 ≤ x49 then (if x49 < (x47.length : Int) then ((charref_Find.f k (rdOf ByteArray.empty x47 x49) x3).bind fun bt165 => ((selvedgeref03_Find.f k (rdOf ByteArray.empty x47 x49) x3).bind fun bt168 => (if bt165.1 = bt168.1 then (if bt165.2.1 = bt168.2.1 then (if (bt165.2.2 != bt168.2.2) = true then (some false) else (selvedgelaw03_CharrefFinds.l0 k x3 x47 x48 (wrap64 (x49 + 1)))) else (some false)) else (some false)))) else (none)) else (none)) else ((selvedgelaw03_works.f k).bind fun t163 => (some t163))
end
def selvedgelaw03_CharrefFinds.f (k : Nat) (a0 : ByteArray) (a1 : Int) (a2 : ByteArray) (a3 : Bool) : Option (Bool) := if (a0.size : Int) > 5000 then (selvedgelaw03_CharrefFinds.j0 k a0 a1 a2 a3 true) else (selvedgelaw03_CharrefFinds.j0 k a0 a1 a2 a3 (decide ((a2.size : Int) > 5000)))
theorem selvedgelaw03_CharrefFinds.mono_l : ∀ k, (∀ y0 y1 y2 y3 y4, LeO (selvedgelaw03_CharrefFinds.j0 k y0 y1 y2 y3 y4) (selvedgelaw03_CharrefFinds.j0 (k + 1) y0 y1 y2 y3 y4)) ∧ (∀ y0 y1 y2 y3, LeO (selvedgelaw03_CharrefFinds.l0 k y0 y1 y2 y3) (selvedgelaw03_CharrefFinds.l0 (k + 1) y0 y1 y2 y3))
 | 0 => ⟨fun _ _ _ _ _ r h => by simp [selvedgelaw03_CharrefFinds.j0] at h, fun _ _ _ _ r h => by simp [selvedgelaw03_CharrefFinds.l0] at h⟩
 | k + 1 => by
  obtain ⟨ih0, ih1⟩ := selvedgelaw03_CharrefFinds.mono_l k
  refine ⟨?_, ?_⟩
  ·intro y0 y1 y2 y3 y4
   unfold selvedgelaw03_CharrefFinds.j0
   repeat' first
   | (with_reducible exact ih0 _ _ _ _ _)
   | (with_reducible exact ih1 _ _ _ _)
   | (with_reducible exact charref_Find.mono _ _ _)
   | (with_reducible exact selvedgelaw03_works.mono _)
   | (with_reducible exact selvedgeref03_Find.mono _ _ _)
   | (with_reducible exact LeO.refl _)
   | (with_reducible exact LeO.none _)
   | (with_reducible refine LeO.ite ?_ ?_)
   | (with_reducible refine LeO.bind ?_ (fun _ => ?_))
   | exact ih0 _ _ _ _ _
   | exact ih1 _ _ _ _
   | exact charref_Find.mono _ _ _
   | exact selvedgelaw03_works.mono _
   | exact selvedgeref03_Find.mono _ _ _
   | exact LeO.none _
   | refine LeO.ite ?_ ?_
   | refine LeO.bind ?_ (fun _ => ?_)
  ·intro y0 y1 y2 y3
   unfold selvedgelaw03_CharrefFinds.l0
   repeat' first
   | (with_reducible exact ih0 _ _ _ _ _)
   | (with_reducible exact ih1 _ _ _ _)
   | (with_reducible exact charref_Find.mono _ _ _)
   | (with_reducible exact selvedgelaw03_works.mono _)
   | (with_reducible exact selvedgeref03_Find.mono _ _ _)
   | (with_reducible exact LeO.refl _)
   | (with_reducible exact LeO.none _)
   | (with_reducible refine LeO.ite ?_ ?_)
   | (with_reducible refine LeO.bind ?_ (fun _ => ?_))
   | exact ih0 _ _ _ _ _
   | exact ih1 _ _ _ _
   | exact charref_Find.mono _ _ _
   | exact selvedgelaw03_works.mono _
   | exact selvedgeref03_Find.mono _ _ _
   | exact LeO.none _
   | refine LeO.ite ?_ ?_
   | refine LeO.bind ?_ (fun _ => ?_)
theorem selvedgelaw03_CharrefFinds.mono : ∀ a0 a1 a2 a3 k, LeO (selvedgelaw03_CharrefFinds.f k a0 a1 a2 a3) (selvedgelaw03_CharrefFinds.f (k + 1) a0 a1 a2 a3) := by
 intro a0 a1 a2 a3 k
 obtain ⟨ih0, ih1⟩ := selvedgelaw03_CharrefFinds.mono_l k
 unfold selvedgelaw03_CharrefFinds.f
 repeat' first
   | (with_reducible exact ih0 _ _ _ _ _)
   | (with_reducible exact ih1 _ _ _ _)
   | (with_reducible exact charref_Find.mono _ _ _)
   | (with_reducible exact selvedgelaw03_works.mono _)
   | (with_reducible exact selvedgeref03_Find.mono _ _ _)
   | (with_reducible exact LeO.refl _)
   | (with_reducible exact LeO.none _)
   | (with_reducible refine LeO.ite ?_ ?_)
   | (with_reducible refine LeO.bind ?_ (fun _ => ?_))
   | exact ih0 _ _ _ _ _
   | exact ih1 _ _ _ _
   | exact charref_Find.mono _ _ _
   | exact selvedgelaw03_works.mono _
   | exact selvedgeref03_Find.mono _ _ _
   | exact LeO.none _
   | refine LeO.ite ?_ ?_
   | refine LeO.bind ?_ (fun _ => ?_)
set_option maxHeartbeats 8000000 in
set_option maxRecDepth 100000 in
theorem selvedgelaw03_CharrefFinds.calls (k : Nat) (a0 : ByteArray) (a1 : Int) (a2 : ByteArray) (a3 : Bool) (r : Bool) (w : World) (h : selvedgelaw03_CharrefFinds.f k a0 a1 a2 a3 = some r) (hT : Tabs w) :
  Calls Tryd.prog 3 #[.string a0, .int .u8 a1, .string a2, .bool a3] w fun e w' => e = .returned (.bool r) ∧ Below w.heap.size w w' := by
 have HT := Aside0.mk hT
 clear hT
 have HB := Aside0.mk (Below.refl w.heap.size w)
 have H : (if (a0.size : Int) > 5000 then (selvedgelaw03_CharrefFinds.j0 k a0 a1 a2 a3 true) else (selvedgelaw03_CharrefFinds.j0 k a0 a1 a2 a3 (decide ((a2.size : Int) > 5000)))) = some r := h
 clear h
 have HC5 := Aside0.mk H
 clear H
 go_enter Tryd.func3, Tryd.ntmps3
 go_upto_region 1 with (fail)
 go_cut [26] (fun v26 wc => ∃ (kq : Nat) (x26_4 : Bool), v26 = .bool x26_4 ∧ Aside0 (selvedgelaw03_CharrefFinds.j0 kq a0 a1 a2 a3 x26_4 = some r) ∧ Aside0 (kq ≤ k) ∧ Aside0 (Below w.heap.size w wc))
 case first =>
  have H := HC5.out
  clear HC5
  by_cases c6 : (a0.size : Int) > 5000
  ·rw [if_pos c6] at H
   have c6b0 : decide (5000 < (a0.size : Int)) = true := decide_eq_true c6
   have c6b1 : decide (5000 < a0.size) = true := decide_eq_true (by omega)
   clear c6
   (first | rw [c6b0] | (simp only [i64_w, i32_w]; rw [c6b0]) | skip)
   have H' := Aside0.mk H
   clear H
   go_wp2
   go_meet
   case rel => exact ⟨_, (true), (by first | rfl | (simp; done) | (simp [*]; done)), H', ⟨by first | omega | exact Nat.le_refl _⟩, ⟨mvB HB⟩⟩
  ·rw [if_neg c6] at H
   have c6b0 : decide (5000 < (a0.size : Int)) = false := decide_eq_false c6
   have c6b1 : decide (5000 < a0.size) = false := decide_eq_false (by omega)
   clear c6
   (first | rw [c6b0] | (simp only [i64_w, i32_w]; rw [c6b0]) | skip)
   have H' := Aside0.mk H
   clear H
   go_wp2
   go_meet
   case rel => exact ⟨_, (decide ((a2.size : Int) > 5000)), (by first | rfl | (simp; done) | (simp [*]; done)), H', ⟨by first | omega | exact Nat.le_refl _⟩, ⟨mvB HB⟩⟩
 case rest =>
  clear HC5
  try clear p2
  try clear c3
  try clear c6
  try clear c6b0
  try clear c6b1
  obtain ⟨kq, x26_4, rfl, HA, HJ4, HB⟩ := hcut
  cases kq with
  | zero => exact absurd HA.out (by simp [selvedgelaw03_CharrefFinds.j0])
  | succ kj4 =>
   have H := HA.out
   clear HA
   simp only [selvedgelaw03_CharrefFinds.j0] at H
   by_cases c7 : x26_4 = true
   ·subst c7
    have H1 : ((selvedgelaw03_works.f kj4).bind fun t155 => (some t155)) = some r := by rw [if_pos rfl] at H; exact H
    clear H
    have H := H1
    clear H1
    replace H := Option.bind_eq_some_iff.mp H
    obtain ⟨t155, A80, H⟩ := H
    replace H : (some t155) = some r := H
    have A8 := Aside0.mk A80
    clear A80
    obtain rfl := Option.some.inj H
    go_wp2_with (first | ((with_reducible refine gate_callee (f := 10) rfl ?_); refine goesL_ (some 27) rfl rfl Tryd.func10 (by kernel_rfl) rfl #[] rfl (by (try simp only [List.map_toArray, List.map_cons, List.map_nil]); first | done | rfl | (simp only [List.length_drop, List.length_take]; rfl)) ?_; (with_reducible refine (selvedgelaw03_works.calls kj4  t155 _ A8.out (by exact HT.out.below (mvB HB))).mono ?_); rintro e w9 ⟨rfl, hb⟩; refine ⟨_, rfl, ?_⟩; have n0_ := Aside0.mk (below_step (mvB HB) hb); clear HB; have HB := n0_; clear n0_; (try clear hb); (try clear hb2); (try clear hk); (try clear hi)))
    go_ret
    exact ⟨by first | rfl | (simp [errW_none, errW_some] <;> rfl) | (simp [*, errW_none, errW_some] <;> rfl), mvB HB⟩
   ·replace c7 := Bool.eq_false_iff.mpr c7
    subst c7
    have H1 : ((selvedgeref03_Names.f).bind fun t156 => (if (t156.length : Int) = 0 then (none) else (if 0 ≤ (Int.tmod (wrap64 (a1)) (t156.length : Int)) then (if (Int.tmod (wrap64 (a1)) (t156.length : Int)) < (t156.length : Int) then (if 1 + ((rd_T26 t156 (Int.tmod (wrap64 (a1)) (t156.length : Int))).f0).size ≤ 9223372036854775807 then (if ((⟨#[38]⟩ : ByteArray) ++ ((rd_T26 t156 (Int.tmod (wrap64 (a1)) (t156.length : Int))).f0)).size + a2.size ≤ 9223372036854775807 then (if 2 + a2.size ≤ 9223372036854775807 then (if 3 + a2.size ≤ 9223372036854775807 then ((some (([a0, ((⟨#[38]⟩ : ByteArray) ++ ((rd_T26 t156 (Int.tmod (wrap64 (a1)) (t156.length : Int))).f0)) ++ a2, (⟨#[38, 35]⟩ : ByteArray) ++ a2, (⟨#[38, 35, 120]⟩ : ByteArray) ++ a2] : List ByteArray) : List ByteArray)).bind fun y160 => (selvedgelaw03_CharrefFinds.l0 kj4 a3 y160 (y160.length : Int) 0)) else (none)) else (none)) else (none)) else (none)) else (none)) else (none)))) = some r := by rw [if_neg (show ¬ (false = true) by decide)] at H; exact H
    clear H
    have H := H1
    clear H1
    replace H := Option.bind_eq_some_iff.mp H
    obtain ⟨t156, A100, H⟩ := H
    replace H : (if (t156.length : Int) = 0 then (none) else (if 0 ≤ (Int.tmod (wrap64 (a1)) (t156.length : Int)) then (if (Int.tmod (wrap64 (a1)) (t156.length : Int)) < (t156.length : Int) then (if 1 + ((rd_T26 t156 (Int.tmod (wrap64 (a1)) (t156.length : Int))).f0).size ≤ 9223372036854775807 then (if ((⟨#[38]⟩ : ByteArray) ++ ((rd_T26 t156 (Int.tmod (wrap64 (a1)) (t156.length : Int))).f0)).size + a2.size ≤ 9223372036854775807 then (if 2 + a2.size ≤ 9223372036854775807 then (if 3 + a2.size ≤ 9223372036854775807 then ((some (([a0, ((⟨#[38]⟩ : ByteArray) ++ ((rd_T26 t156 (Int.tmod (wrap64 (a1)) (t156.length : Int))).f0)) ++ a2, (⟨#[38, 35]⟩ : ByteArray) ++ a2, (⟨#[38, 35, 120]⟩ : ByteArray) ++ a2] : List ByteArray) : List ByteArray)).bind fun y160 => (selvedgelaw03_CharrefFinds.l0 kj4 a3 y160 (y160.length : Int) 0)) else (none)) else (none)) else (none)) else (none)) else (none)) else (none))) = some r := H
    have A10 := Aside0.mk A100
    clear A100
    by_cases c11 : (t156.length : Int) = 0
    ·rw [if_pos c11] at H
     exact absurd H (by simp)
    ·rw [if_neg c11] at H
     have c11b0 : ((t156.length : Int) == 0) = false := beq_eq_false_iff_ne.mpr c11
     have c11b1 : ((t156.length : Int) != 0) = true := bne_iff_ne.mpr c11
     have c11b2 : ¬ (t156 = []) := fun h_ => c11 (by rw [h_]; rfl)
     obtain ⟨ji12, hji12⟩ : ∃ j_ : Int, (Int.tmod (wrap64 (a1)) (t156.length : Int)) = j_ := ⟨_, rfl⟩
     replace H : (if 0 ≤ (ji12) then (if (ji12) < (t156.length : Int) then (if 1 + ((rd_T26 t156 (ji12)).f0).size ≤ 9223372036854775807 then (if ((⟨#[38]⟩ : ByteArray) ++ ((rd_T26 t156 (ji12)).f0)).size + a2.size ≤ 9223372036854775807 then (if 2 + a2.size ≤ 9223372036854775807 then (if 3 + a2.size ≤ 9223372036854775807 then ((some (([a0, ((⟨#[38]⟩ : ByteArray) ++ ((rd_T26 t156 (ji12)).f0)) ++ a2, (⟨#[38, 35]⟩ : ByteArray) ++ a2, (⟨#[38, 35, 120]⟩ : ByteArray) ++ a2] : List ByteArray) : List ByteArray)).bind fun y160 => (selvedgelaw03_CharrefFinds.l0 kj4 a3 y160 (y160.length : Int) 0)) else (none)) else (none)) else (none)) else (none)) else (none)) else (none)) = some r := by first | (rw [hji12] at H; exact H) | (simp only [hji12] at H ⊢; exact H)
     (try rw [hji12] at A10)
     by_cases c13 : 0 ≤ (ji12)
     ·rw [if_pos c13] at H
      have c13b0 : decide (0 ≤ (ji12)) = true := decide_eq_true c13
      clear c13
      by_cases c14 : (ji12) < (t156.length : Int)
      ·rw [if_pos c14] at H
       have c14b0 : decide ((ji12) < (t156.length : Int)) = true := decide_eq_true c14
       clear c14
       by_cases c15 : 1 + ((rd_T26 t156 (ji12)).f0).size ≤ 9223372036854775807
       ·rw [if_pos c15] at H
        have c15b0 := eq_true c15
        have c15b1 : decide (1 + ((rd_T26 t156 (ji12)).f0).size ≤ 9223372036854775807) = true := decide_eq_true c15
        try have c15b2 : (9223372036854775807 < 1 + ((rd_T26 t156 (ji12)).f0).size) = False := eq_false (Nat.not_lt.2 c15)
        by_cases c16 : ((⟨#[38]⟩ : ByteArray) ++ ((rd_T26 t156 (ji12)).f0)).size + a2.size ≤ 9223372036854775807
        ·rw [if_pos c16] at H
         have c16b0 := eq_true c16
         have c16b1 : decide (((⟨#[38]⟩ : ByteArray) ++ ((rd_T26 t156 (ji12)).f0)).size + a2.size ≤ 9223372036854775807) = true := decide_eq_true c16
         try have c16b2 : (9223372036854775807 < ((⟨#[38]⟩ : ByteArray) ++ ((rd_T26 t156 (ji12)).f0)).size + a2.size) = False := eq_false (Nat.not_lt.2 c16)
         try have c16b3 : (9223372036854775807 < 1 + ((rd_T26 t156 (ji12)).f0).size + a2.size) = False := eq_false (by have z_ := c16; simp only [ByteArray.size_append, show (⟨#[38]⟩ : ByteArray).size = 1 from rfl] at z_; omega)
         by_cases c17 : 2 + a2.size ≤ 9223372036854775807
         ·rw [if_pos c17] at H
          have c17b0 := eq_true c17
          have c17b1 : decide (2 + a2.size ≤ 9223372036854775807) = true := decide_eq_true c17
          try have c17b2 : (9223372036854775807 < 2 + a2.size) = False := eq_false (Nat.not_lt.2 c17)
          by_cases c18 : 3 + a2.size ≤ 9223372036854775807
          ·rw [if_pos c18] at H
           have c18b0 := eq_true c18
           have c18b1 : decide (3 + a2.size ≤ 9223372036854775807) = true := decide_eq_true c18
           try have c18b2 : (9223372036854775807 < 3 + a2.size) = False := eq_false (Nat.not_lt.2 c18)
           obtain ⟨y160, hy160⟩ : ∃ y_ : List ByteArray, y_ = (([a0, ((⟨#[38]⟩ : ByteArray) ++ ((rd_T26 t156 (ji12)).f0)) ++ a2, (⟨#[38, 35]⟩ : ByteArray) ++ a2, (⟨#[38, 35, 120]⟩ : ByteArray) ++ a2] : List ByteArray)) := ⟨_, rfl⟩
           replace H : (selvedgelaw03_CharrefFinds.l0 kj4 a3 y160 (y160.length : Int) 0) = some r := by first | (rw [hy160]; with_reducible exact H) | (have H2_ := (Option.bind_some _ _).symm.trans H; rw [hy160]; with_reducible exact H2_) | (have H2_ := (Option.bind_some _ _).symm.trans H; with_reducible exact H2_) | with_reducible exact H | (rw [hy160]; exact H) | exact H
           have Ny160 := Aside0.mk hy160
           clear hy160
           have H' := Aside0.mk H
           clear H
           go_wp2_with (first | ((with_reducible refine gate_callee (f := 11) rfl ?_); refine goesL_ (some 28) rfl rfl Tryd.func11 (by kernel_rfl) rfl #[] rfl (by (try simp only [List.map_toArray, List.map_cons, List.map_nil]); first | done | rfl | (simp only [List.length_drop, List.length_take]; rfl)) ?_; (with_reducible refine (selvedgeref03_Names.calls  t156 _ A10.out).mono ?_); rintro e w19 ⟨v157, rfl, ho0, hb⟩; refine ⟨_, rfl, ?_⟩; have n0_ := Aside0.mk (Kd.R_lower ho0 (below_size (mvB HB))); have n1_ := Aside0.mk (below_step (mvB HB) hb); clear HB; have HO158 := n0_; have HB := n1_; clear n0_ n1_; (try clear hb); (try clear hb2); (try clear hk); (try clear hi); (try clear ho0); obtain ⟨Ao20, co20, eo20⟩ := Kd.R_slice HO158.out; subst eo20; have p159 := dT (0 ≤ ((ji12) : Int)); have q159 := dT ((ji12) < (t156.length : Int)); obtain ⟨ad159, e159, hx159_0, hx159_1, hx159_2⟩ := at_T26 (Kd.R_reads' HO158.out).2.2 (ji12) p159 q159; cases e159; replace p159 := eq_true p159; replace q159 := eq_true q159) | ((with_reducible refine gate_dst (N := 47) rfl ?_); (try (refine gate_guard (by rfl) ?_; dsimp only)); refine Kd.R_lit Kd.string _ 9 ?hg (N := 47) ?hd (xs := ([a0, ((⟨#[38]⟩ : ByteArray) ++ ((rd_T26 t156 (ji12)).f0)) ++ a2, (⟨#[38, 35]⟩ : ByteArray) ++ a2, (⟨#[38, 35, 120]⟩ : ByteArray) ++ a2] : List ByteArray)) (inner := [.string a0, .string (((⟨#[38]⟩ : ByteArray) ++ ((rd_T26 t156 (ji12)).f0)) ++ a2), .string ((⟨#[38, 35]⟩ : ByteArray) ++ a2), .string ((⟨#[38, 35, 120]⟩ : ByteArray) ++ a2)]) (ok := fun _ => True) (okp := fun _ => True) ?hr ?hp (fun _ hk => hk) trivial (Below.refl _ _) (Nat.le_refl _) (by simp) ?_; (case hd => rfl); (case hg => rfl); (case hr => first | (go_simp; done) | (go_simp; rfl)); (case hp => exact (Reps.one (show Kd.M Kd.string _ _ _ a0 [.string a0] from rfl) (Reps.one (show Kd.M Kd.string _ _ _ (((⟨#[38]⟩ : ByteArray) ++ ((rd_T26 t156 (ji12)).f0)) ++ a2) [.string (((⟨#[38]⟩ : ByteArray) ++ ((rd_T26 t156 (ji12)).f0)) ++ a2)] from rfl) (Reps.one (show Kd.M Kd.string _ _ _ ((⟨#[38, 35]⟩ : ByteArray) ++ a2) [.string ((⟨#[38, 35]⟩ : ByteArray) ++ a2)] from rfl) (Reps.one (show Kd.M Kd.string _ _ _ ((⟨#[38, 35, 120]⟩ : ByteArray) ++ a2) [.string ((⟨#[38, 35, 120]⟩ : ByteArray) ++ a2)] from rfl) (Reps.none _ _)))))); intro v161 w21 ho22 hb hg_ hnew_; clear hg_ hnew_; (first | rw [← Ny160.out] at ho22 | (simp only [Int.reduceToNat] at ho22; rw [← Ny160.out] at ho22)); have n0_ := Aside0.mk (Kd.R_below (mvR HO158) hb); have n1_ := Aside0.mk (Kd.R_lower ho22 (below_size (mvB HB))); have n2_ := Aside0.mk (below_step (mvB HB) hb); clear HO158; clear HB; have HO158 := n0_; have HO162 := n1_; have HB := n2_; clear n0_ n1_ n2_; clear hb ho22; obtain ⟨Ao23, co23, eo23⟩ := Kd.R_slice HO162.out; subst eo23))
           go_loopg [49] kj4 (fun kq v49 w' => ∃ (x49_2 : Int), v49 = .int .i64 x49_2 ∧ Aside0 (selvedgelaw03_CharrefFinds.l0 kq a3 y160 (y160.length : Int) x49_2 = some r) ∧ Aside0 (kq ≤ kj4) ∧ Aside0 (Kd.R Kd.string 9 w' w.heap.size (fun _ => True) (.slice Ao23 y160.length co23) y160) ∧ Aside0 (Below w.heap.size w w'))
           case atStart => exact ⟨(0), (by first | rfl | (simp; done) | (simp [*]; done)), H', ⟨Nat.le_refl _⟩, ⟨mvR HO162⟩, ⟨mvB HB⟩⟩
           case round =>
            clear H'
            try clear c1
            try clear p1
            try clear q1
            try clear hx1
            try clear p2
            try clear c3
            try clear c6
            try clear c6b0
            try clear c6b1
            try clear p6
            try clear c7
            try clear c10
            try clear c11
            try clear c11b0
            try clear c11b1
            try clear c11b2
            try clear c13
            try clear c13b0
            try clear c14
            try clear c14b0
            try clear c15
            try clear c15b0
            try clear c15b1
            try clear c15b2
            try clear p15
            try clear q15
            try clear hx15
            try clear c16
            try clear c16b0
            try clear c16b1
            try clear c16b2
            try clear c17
            try clear c17b0
            try clear c17b1
            try clear c17b2
            try clear c18
            try clear c18b0
            try clear c18b1
            try clear c18b2
            try clear hx159_0
            try clear hx159_1
            try clear hx159_2
            try clear p159
            try clear p2
            try clear q159
            obtain ⟨x49_2, rfl, HA, HK2, HO_47, HB⟩ := hrel
            cases gk with
            | zero => exact absurd HA.out (by simp [selvedgelaw03_CharrefFinds.l0])
            | succ k2 =>
             have H := HA.out
             clear HA
             simp only [selvedgelaw03_CharrefFinds.l0] at H
             by_cases c24 : x49_2 < (y160.length : Int)
             ·rw [if_pos c24] at H
              have c24b0 : decide (x49_2 < (y160.length : Int)) = true := decide_eq_true c24
              clear c24
              by_cases c25 : 0 ≤ x49_2
              ·rw [if_pos c25] at H
               have c25b0 : decide (0 ≤ x49_2) = true := decide_eq_true c25
               clear c25
               by_cases c26 : x49_2 < (y160.length : Int)
               ·rw [if_pos c26] at H
                have c26b0 : decide (x49_2 < (y160.length : Int)) = true := decide_eq_true c26
                clear c26
                replace H := Option.bind_eq_some_iff.mp H
                obtain ⟨⟨t165, t166, t167⟩, A270, H⟩ := H
                replace H : ((selvedgeref03_Find.f k2 (rdOf ByteArray.empty y160 x49_2) a3).bind fun bt168 => (if t165 = bt168.1 then (if t166 = bt168.2.1 then (if (t167 != bt168.2.2) = true then (some false) else (selvedgelaw03_CharrefFinds.l0 k2 a3 y160 (y160.length : Int) (wrap64 (x49_2 + 1)))) else (some false)) else (some false))) = some r := H
                have A27 := Aside0.mk A270
                clear A270
                replace H := Option.bind_eq_some_iff.mp H
                obtain ⟨⟨t168, t169, t170⟩, A280, H⟩ := H
                replace H : (if t165 = t168 then (if t166 = t169 then (if (t167 != t170) = true then (some false) else (selvedgelaw03_CharrefFinds.l0 k2 a3 y160 (y160.length : Int) (wrap64 (x49_2 + 1)))) else (some false)) else (some false)) = some r := H
                have A28 := Aside0.mk A280
                clear A280
                by_cases c29 : t165 = t168
                ·rw [if_pos c29] at H
                 have c29b0 : (t165 == t168) = true := beq_iff_eq.mpr c29
                 have c29b1 : (t165 != t168) = false := bne_eq_false_iff_eq.mpr c29
                 clear c29
                 by_cases c30 : t166 = t169
                 ·rw [if_pos c30] at H
                  have c30b0 : (t166 == t169) = true := beq_iff_eq.mpr c30
                  have c30b1 : (t166 != t169) = false := bne_eq_false_iff_eq.mpr c30
                  clear c30
                  by_cases c31 : (t167 != t170) = true
                  ·rw [if_pos c31] at H
                   have c31b0 : (t167 != t170) = true := c31
                   (try (have c31b1 : decide (t167 = t170) = false := by simpa using c31))
                   (try (have c31b2 : (t167 == t170) = false := by simpa using c31))
                   (try (have c31b3 : ¬ (t167 = t170) := by simpa using c31))
                   clear c31
                   obtain rfl := Option.some.inj H
                   have p164 := dT (0 ≤ (x49_2 : Int))
                   have q164 := dT (x49_2 < (y160.length : Int))
                   obtain ⟨ad164, e164, hx164_0⟩ := Kd.at_string (Kd.R_reads' HO_47.out).2.2 x49_2 p164 q164
                   cases e164
                   replace p164 := eq_true p164
                   replace q164 := eq_true q164
                   go_wp2_with (first | ((with_reducible refine gate_callee (f := 12) rfl ?_); refine goesL_ (some 56) rfl rfl Tryd.func12 (by kernel_rfl) rfl #[.string (rdOf ByteArray.empty y160 x49_2), .bool a3] rfl (by (try simp only [List.map_toArray, List.map_cons, List.map_nil]); first | done | rfl | (simp only [List.length_drop, List.length_take]; rfl)) ?_; (with_reducible refine (charref_Find.calls k2 (rdOf ByteArray.empty y160 x49_2) a3 t165 t166 t167 _ A27.out (by exact HT.out.below (mvB HB))).mono ?_); rintro e w32 ⟨rfl, hb⟩; refine ⟨_, rfl, ?_⟩; have n0_ := Aside0.mk (Kd.R_below (mvR HO_47) hb); have n1_ := Aside0.mk (below_step (mvB HB) hb); clear HO_47; clear HB; have HO_47 := n0_; have HB := n1_; clear n0_ n1_; (try clear hb); (try clear hb2); (try clear hk); (try clear hi)) | ((with_reducible refine gate_callee (f := 13) rfl ?_); refine goesL_ (some 63) rfl rfl Tryd.func13 (by kernel_rfl) rfl #[.string (rdOf ByteArray.empty y160 x49_2), .bool a3] rfl (by (try simp only [List.map_toArray, List.map_cons, List.map_nil]); first | done | rfl | (simp only [List.length_drop, List.length_take]; rfl)) ?_; (with_reducible refine (selvedgeref03_Find.calls k2 (rdOf ByteArray.empty y160 x49_2) a3 t168 t169 t170 _ A28.out).mono ?_); rintro e w33 ⟨rfl, hb⟩; refine ⟨_, rfl, ?_⟩; have n0_ := Aside0.mk (Kd.R_below (mvR HO_47) hb); have n1_ := Aside0.mk (below_step (mvB HB) hb); clear HO_47; clear HB; have HO_47 := n0_; have HB := n1_; clear n0_ n1_; (try clear hb); (try clear hb2); (try clear hk); (try clear hi)))
                   go_ret
                   exact ⟨by first | rfl | (simp [errW_none, errW_some] <;> rfl) | (simp only [← hji12]; first | rfl | (simp [errW_none, errW_some] <;> rfl)) | (simp [*, errW_none, errW_some] <;> rfl), mvB HB⟩
                  ·rw [if_neg c31] at H
                   have c31b0 : (t167 != t170) = false := by simpa using c31
                   (try (have c31b1 : decide (t167 = t170) = true := by simpa using c31))
                   (try (have c31b2 : (t167 == t170) = true := by simpa using c31))
                   clear c31
                   have H' := Aside0.mk H
                   clear H
                   have p164 := dT (0 ≤ (x49_2 : Int))
                   have q164 := dT (x49_2 < (y160.length : Int))
                   obtain ⟨ad164, e164, hx164_0⟩ := Kd.at_string (Kd.R_reads' HO_47.out).2.2 x49_2 p164 q164
                   cases e164
                   replace p164 := eq_true p164
                   replace q164 := eq_true q164
                   go_wp2_with (first | ((with_reducible refine gate_callee (f := 12) rfl ?_); refine goesL_ (some 56) rfl rfl Tryd.func12 (by kernel_rfl) rfl #[.string (rdOf ByteArray.empty y160 x49_2), .bool a3] rfl (by (try simp only [List.map_toArray, List.map_cons, List.map_nil]); first | done | rfl | (simp only [List.length_drop, List.length_take]; rfl)) ?_; (with_reducible refine (charref_Find.calls k2 (rdOf ByteArray.empty y160 x49_2) a3 t165 t166 t167 _ A27.out (by exact HT.out.below (mvB HB))).mono ?_); rintro e w34 ⟨rfl, hb⟩; refine ⟨_, rfl, ?_⟩; have n0_ := Aside0.mk (Kd.R_below (mvR HO_47) hb); have n1_ := Aside0.mk (below_step (mvB HB) hb); clear HO_47; clear HB; have HO_47 := n0_; have HB := n1_; clear n0_ n1_; (try clear hb); (try clear hb2); (try clear hk); (try clear hi)) | ((with_reducible refine gate_callee (f := 13) rfl ?_); refine goesL_ (some 63) rfl rfl Tryd.func13 (by kernel_rfl) rfl #[.string (rdOf ByteArray.empty y160 x49_2), .bool a3] rfl (by (try simp only [List.map_toArray, List.map_cons, List.map_nil]); first | done | rfl | (simp only [List.length_drop, List.length_take]; rfl)) ?_; (with_reducible refine (selvedgeref03_Find.calls k2 (rdOf ByteArray.empty y160 x49_2) a3 t168 t169 t170 _ A28.out).mono ?_); rintro e w35 ⟨rfl, hb⟩; refine ⟨_, rfl, ?_⟩; have n0_ := Aside0.mk (Kd.R_below (mvR HO_47) hb); have n1_ := Aside0.mk (below_step (mvB HB) hb); clear HO_47; clear HB; have HO_47 := n0_; have HB := n1_; clear n0_ n1_; (try clear hb); (try clear hb2); (try clear hk); (try clear hi)))
                   go_roundg k2
                   case measure => have := HJ4.out; have := HK2.out; omega
                   case rel => exact ⟨(wrap64 (x49_2 + 1)), (by first | rfl | (simp; done) | (simp [*]; done)), H', ⟨by have := HJ4.out; have := HK2.out; omega⟩, ⟨mvR HO_47⟩, ⟨mvB HB⟩⟩
                 ·rw [if_neg c30] at H
                  have c30b0 : (t166 == t169) = false := beq_eq_false_iff_ne.mpr c30
                  have c30b1 : (t166 != t169) = true := bne_iff_ne.mpr c30
                  obtain rfl := Option.some.inj H
                  have p164 := dT (0 ≤ (x49_2 : Int))
                  have q164 := dT (x49_2 < (y160.length : Int))
                  obtain ⟨ad164, e164, hx164_0⟩ := Kd.at_string (Kd.R_reads' HO_47.out).2.2 x49_2 p164 q164
                  cases e164
                  replace p164 := eq_true p164
                  replace q164 := eq_true q164
                  go_wp2_with (first | ((with_reducible refine gate_callee (f := 12) rfl ?_); refine goesL_ (some 56) rfl rfl Tryd.func12 (by kernel_rfl) rfl #[.string (rdOf ByteArray.empty y160 x49_2), .bool a3] rfl (by (try simp only [List.map_toArray, List.map_cons, List.map_nil]); first | done | rfl | (simp only [List.length_drop, List.length_take]; rfl)) ?_; (with_reducible refine (charref_Find.calls k2 (rdOf ByteArray.empty y160 x49_2) a3 t165 t166 t167 _ A27.out (by exact HT.out.below (mvB HB))).mono ?_); rintro e w36 ⟨rfl, hb⟩; refine ⟨_, rfl, ?_⟩; have n0_ := Aside0.mk (Kd.R_below (mvR HO_47) hb); have n1_ := Aside0.mk (below_step (mvB HB) hb); clear HO_47; clear HB; have HO_47 := n0_; have HB := n1_; clear n0_ n1_; (try clear hb); (try clear hb2); (try clear hk); (try clear hi)) | ((with_reducible refine gate_callee (f := 13) rfl ?_); refine goesL_ (some 63) rfl rfl Tryd.func13 (by kernel_rfl) rfl #[.string (rdOf ByteArray.empty y160 x49_2), .bool a3] rfl (by (try simp only [List.map_toArray, List.map_cons, List.map_nil]); first | done | rfl | (simp only [List.length_drop, List.length_take]; rfl)) ?_; (with_reducible refine (selvedgeref03_Find.calls k2 (rdOf ByteArray.empty y160 x49_2) a3 t168 t169 t170 _ A28.out).mono ?_); rintro e w37 ⟨rfl, hb⟩; refine ⟨_, rfl, ?_⟩; have n0_ := Aside0.mk (Kd.R_below (mvR HO_47) hb); have n1_ := Aside0.mk (below_step (mvB HB) hb); clear HO_47; clear HB; have HO_47 := n0_; have HB := n1_; clear n0_ n1_; (try clear hb); (try clear hb2); (try clear hk); (try clear hi)))
                  go_ret
                  exact ⟨by first | rfl | (simp [errW_none, errW_some] <;> rfl) | (simp only [← hji12]; first | rfl | (simp [errW_none, errW_some] <;> rfl)) | (simp [*, errW_none, errW_some] <;> rfl), mvB HB⟩
                ·rw [if_neg c29] at H
                 have c29b0 : (t165 == t168) = false := beq_eq_false_iff_ne.mpr c29
                 have c29b1 : (t165 != t168) = true := bne_iff_ne.mpr c29
                 obtain rfl := Option.some.inj H
                 have p164 := dT (0 ≤ (x49_2 : Int))
                 have q164 := dT (x49_2 < (y160.length : Int))
                 obtain ⟨ad164, e164, hx164_0⟩ := Kd.at_string (Kd.R_reads' HO_47.out).2.2 x49_2 p164 q164
                 cases e164
                 replace p164 := eq_true p164
                 replace q164 := eq_true q164
                 go_wp2_with (first | ((with_reducible refine gate_callee (f := 12) rfl ?_); refine goesL_ (some 56) rfl rfl Tryd.func12 (by kernel_rfl) rfl #[.string (rdOf ByteArray.empty y160 x49_2), .bool a3] rfl (by (try simp only [List.map_toArray, List.map_cons, List.map_nil]); first | done | rfl | (simp only [List.length_drop, List.length_take]; rfl)) ?_; (with_reducible refine (charref_Find.calls k2 (rdOf ByteArray.empty y160 x49_2) a3 t165 t166 t167 _ A27.out (by exact HT.out.below (mvB HB))).mono ?_); rintro e w38 ⟨rfl, hb⟩; refine ⟨_, rfl, ?_⟩; have n0_ := Aside0.mk (Kd.R_below (mvR HO_47) hb); have n1_ := Aside0.mk (below_step (mvB HB) hb); clear HO_47; clear HB; have HO_47 := n0_; have HB := n1_; clear n0_ n1_; (try clear hb); (try clear hb2); (try clear hk); (try clear hi)) | ((with_reducible refine gate_callee (f := 13) rfl ?_); refine goesL_ (some 63) rfl rfl Tryd.func13 (by kernel_rfl) rfl #[.string (rdOf ByteArray.empty y160 x49_2), .bool a3] rfl (by (try simp only [List.map_toArray, List.map_cons, List.map_nil]); first | done | rfl | (simp only [List.length_drop, List.length_take]; rfl)) ?_; (with_reducible refine (selvedgeref03_Find.calls k2 (rdOf ByteArray.empty y160 x49_2) a3 t168 t169 t170 _ A28.out).mono ?_); rintro e w39 ⟨rfl, hb⟩; refine ⟨_, rfl, ?_⟩; have n0_ := Aside0.mk (Kd.R_below (mvR HO_47) hb); have n1_ := Aside0.mk (below_step (mvB HB) hb); clear HO_47; clear HB; have HO_47 := n0_; have HB := n1_; clear n0_ n1_; (try clear hb); (try clear hb2); (try clear hk); (try clear hi)))
                 go_ret
                 exact ⟨by first | rfl | (simp [errW_none, errW_some] <;> rfl) | (simp only [← hji12]; first | rfl | (simp [errW_none, errW_some] <;> rfl)) | (simp [*, errW_none, errW_some] <;> rfl), mvB HB⟩
               ·rw [if_neg c26] at H
                exact absurd H (by simp)
              ·rw [if_neg c25] at H
               exact absurd H (by simp)
             ·rw [if_neg c24] at H
              have c24b0 : decide (x49_2 < (y160.length : Int)) = false := decide_eq_false c24
              clear c24
              replace H := Option.bind_eq_some_iff.mp H
              obtain ⟨t163, A400, H⟩ := H
              replace H : (some t163) = some r := H
              have A40 := Aside0.mk A400
              clear A400
              obtain rfl := Option.some.inj H
              go_wp2_with (first | ((with_reducible refine gate_callee (f := 10) rfl ?_); refine goesL_ (some 81) rfl rfl Tryd.func10 (by kernel_rfl) rfl #[] rfl (by (try simp only [List.map_toArray, List.map_cons, List.map_nil]); first | done | rfl | (simp only [List.length_drop, List.length_take]; rfl)) ?_; (with_reducible refine (selvedgelaw03_works.calls k2  t163 _ A40.out (by exact HT.out.below (mvB HB))).mono ?_); rintro e w41 ⟨rfl, hb⟩; refine ⟨_, rfl, ?_⟩; have n0_ := Aside0.mk (Kd.R_below (mvR HO_47) hb); have n1_ := Aside0.mk (below_step (mvB HB) hb); clear HO_47; clear HB; have HO_47 := n0_; have HB := n1_; clear n0_ n1_; (try clear hb); (try clear hb2); (try clear hk); (try clear hi)))
              go_ret
              exact ⟨by first | rfl | (simp [errW_none, errW_some] <;> rfl) | (simp only [← hji12]; first | rfl | (simp [errW_none, errW_some] <;> rfl)) | (simp [*, errW_none, errW_some] <;> rfl), mvB HB⟩
          ·rw [if_neg c18] at H
           exact absurd H (by simp)
         ·rw [if_neg c17] at H
          exact absurd H (by simp)
        ·rw [if_neg c16] at H
         exact absurd H (by simp)
       ·rw [if_neg c15] at H
        exact absurd H (by simp)
      ·rw [if_neg c14] at H
       exact absurd H (by simp)
     ·rw [if_neg c13] at H
      exact absurd H (by simp)

/-- THE ONE PURE STATEMENT of selvedgelaw03_CharrefFinds: yours. -/
def selvedgelaw03_CharrefFinds.Pure : Prop := ∀ (a0 : ByteArray) (a1 : Int) (a2 : ByteArray) (a3 : Bool), a0.size ≤ 140737488351232 → (Lit.int .u8 a1).wf = true → a2.size ≤ 140737488351232 → ∃ k, selvedgelaw03_CharrefFinds.f k a0 a1 a2 a3 = some true
theorem selvedgelaw03_CharrefFinds.walk (P : selvedgelaw03_CharrefFinds.Pure) (a0 : ByteArray) (a1 : Int) (a2 : ByteArray) (a3 : Bool) (w : World) (w0 : a0.size ≤ 140737488351232) (w1 : (Lit.int .u8 a1).wf = true) (w2 : a2.size ≤ 140737488351232) (hT : Tabs w) :
  Calls Tryd.prog 3 #[.string a0, .int .u8 a1, .string a2, .bool a3] w fun e w' => e = .returned (.bool true) ∧ Below w.heap.size w w' := by
 obtain ⟨k, h⟩ := P a0 a1 a2 a3 w0 w1 w2
 refine (selvedgelaw03_CharrefFinds.calls k a0 a1 a2 a3 true w h hT).mono ?_
 rintro e w' ⟨rfl, hd⟩
 exact ⟨rfl, hd⟩

/-! ### selvedgeref02_One: function 32 -/
def selvedgeref02_One.j0 : Nat → Int → Bool → Option (List Int)
 | 0, _, _ => none
 | k + 1, x0, x3 => if x3 = true then (some (([239, 191, 189] : List Int))) else (if x0 < 128 then (some (([(x0) % 256] : List Int))) else (if x0 < 2048 then (some (([Go.bits .or .u8 192 ((x0 / 64) % 256), Go.bits .or .u8 128 ((Go.bits .and .i32 x0 63) % 256)] : List Int))) else (if x0 < 65536 then (some (([Go.bits .or .u8 224 ((x0 / 4096) % 256), Go.bits .or .u8 128 ((Go.bits .and .i32 (x0 / 64) 63) % 256), Go.bits .or .u8 128 ((Go.bits .and .i32 x0 63) % 256)] : List Int))) else (some (([Go.bits .or .u8 240 ((x0 / 262144) % 256), Go.bits .or .u8 128 ((Go.bits .and .i32 (x0 / 4096) 63) % 256), Go.bits .or .u8 128 ((Go.bits .and .i32 (x0 / 64) 63) % 256), Go.bits .or .u8 128 ((Go.bits .and .i32 x0 63) % 256)] : List Int))))))
def selvedgeref02_One.f (k : Nat) (a0 : Int) : Option (List Int) := if a0 < 0 then (selvedgeref02_One.j0 k a0 true) else (if a0 > 1114111 then (selvedgeref02_One.j0 k a0 true) else (if a0 ≥ 55296 then (selvedgeref02_One.j0 k a0 (decide (a0 ≤ 57343))) else (selvedgeref02_One.j0 k a0 false)))
theorem selvedgeref02_One.mono_l : ∀ k, (∀ y0 y1, LeO (selvedgeref02_One.j0 k y0 y1) (selvedgeref02_One.j0 (k + 1) y0 y1))
 | 0 => fun _ _ r h => by simp [selvedgeref02_One.j0] at h
 | k + 1 => by
  have ih0 := selvedgeref02_One.mono_l k
  ·intro y0 y1
   unfold selvedgeref02_One.j0
   repeat' first
   | (with_reducible exact ih0 _ _)
   | (with_reducible exact LeO.refl _)
   | (with_reducible exact LeO.none _)
   | (with_reducible refine LeO.ite ?_ ?_)
   | (with_reducible refine LeO.bind ?_ (fun _ => ?_))
   | exact ih0 _ _
   | exact LeO.none _
   | refine LeO.ite ?_ ?_
   | refine LeO.bind ?_ (fun _ => ?_)
theorem selvedgeref02_One.mono : ∀ a0 k, LeO (selvedgeref02_One.f k a0) (selvedgeref02_One.f (k + 1) a0) := by
 intro a0 k
 have ih0 := selvedgeref02_One.mono_l k
 unfold selvedgeref02_One.f
 repeat' first
   | (with_reducible exact ih0 _ _)
   | (with_reducible exact LeO.refl _)
   | (with_reducible exact LeO.none _)
   | (with_reducible refine LeO.ite ?_ ?_)
   | (with_reducible refine LeO.bind ?_ (fun _ => ?_))
   | exact ih0 _ _
   | exact LeO.none _
   | refine LeO.ite ?_ ?_
   | refine LeO.bind ?_ (fun _ => ?_)
set_option maxHeartbeats 8000000 in
set_option maxRecDepth 100000 in
theorem selvedgeref02_One.calls (k : Nat) (a0 : Int) (r : List Int) (w : World) (h : selvedgeref02_One.f k a0 = some r) :
  Calls Tryd.prog 32 #[.int .i32 a0] w fun e w' => ∃ v0_ : Value, e = .returned (v0_) ∧ Kd.R (Kd.int .u8) 5 w' w.heap.size (fun _ => True) v0_ r ∧ Below w.heap.size w w' := by
 have HB := Aside0.mk (Below.refl w.heap.size w)
 have H : (if a0 < 0 then (selvedgeref02_One.j0 k a0 true) else (if a0 > 1114111 then (selvedgeref02_One.j0 k a0 true) else (if a0 ≥ 55296 then (selvedgeref02_One.j0 k a0 (decide (a0 ≤ 57343))) else (selvedgeref02_One.j0 k a0 false)))) = some r := h
 clear h
 have HC2 := Aside0.mk H
 clear H
 go_enter Tryd.func32, Tryd.ntmps32
 go_upto_region 1 with (fail)
 go_cut [3] (fun v3 wc => ∃ (kq : Nat) (x3_1 : Bool), v3 = .bool x3_1 ∧ Aside0 (selvedgeref02_One.j0 kq a0 x3_1 = some r) ∧ Aside0 (kq ≤ k) ∧ Aside0 (Below w.heap.size w wc))
 case first =>
  have H := HC2.out
  clear HC2
  by_cases c3 : a0 < 0
  ·rw [if_pos c3] at H
   have c3b0 : decide (a0 < 0) = true := decide_eq_true c3
   clear c3
   (first | rw [c3b0] | (simp only [i64_w, i32_w]; rw [c3b0]) | skip)
   have H' := Aside0.mk H
   clear H
   go_wp2
   go_meet
   case rel => exact ⟨_, (true), (by first | rfl | (simp; done) | (simp [*]; done)), H', ⟨by first | omega | exact Nat.le_refl _⟩, ⟨mvB HB⟩⟩
  ·rw [if_neg c3] at H
   have c3b0 : decide (a0 < 0) = false := decide_eq_false c3
   clear c3
   (first | rw [c3b0] | (simp only [i64_w, i32_w]; rw [c3b0]) | skip)
   by_cases c4 : a0 > 1114111
   ·rw [if_pos c4] at H
    have c4b0 : decide (1114111 < a0) = true := decide_eq_true c4
    clear c4
    have H' := Aside0.mk H
    clear H
    go_wp2
    go_meet
    case rel => exact ⟨_, (true), (by first | rfl | (simp; done) | (simp [*]; done)), H', ⟨by first | omega | exact Nat.le_refl _⟩, ⟨mvB HB⟩⟩
   ·rw [if_neg c4] at H
    have c4b0 : decide (1114111 < a0) = false := decide_eq_false c4
    clear c4
    by_cases c5 : a0 ≥ 55296
    ·rw [if_pos c5] at H
     have c5b0 : decide (55296 ≤ a0) = true := decide_eq_true c5
     clear c5
     have H' := Aside0.mk H
     clear H
     go_wp2
     go_meet
     case rel => exact ⟨_, (decide (a0 ≤ 57343)), (by first | rfl | (simp; done) | (simp [*]; done)), H', ⟨by first | omega | exact Nat.le_refl _⟩, ⟨mvB HB⟩⟩
    ·rw [if_neg c5] at H
     have c5b0 : decide (55296 ≤ a0) = false := decide_eq_false c5
     clear c5
     have H' := Aside0.mk H
     clear H
     go_wp2
     go_meet
     case rel => exact ⟨_, (false), (by first | rfl | (simp; done) | (simp [*]; done)), H', ⟨by first | omega | exact Nat.le_refl _⟩, ⟨mvB HB⟩⟩
 case rest =>
  clear HC2
  try clear p2
  try clear c3
  try clear c3b0
  try clear c4
  try clear c4b0
  try clear c5
  try clear c5b0
  obtain ⟨kq, x3_1, rfl, HA, HJ1, HB⟩ := hcut
  cases kq with
  | zero => exact absurd HA.out (by simp [selvedgeref02_One.j0])
  | succ kj1 =>
   have H := HA.out
   clear HA
   simp only [selvedgeref02_One.j0] at H
   by_cases c6 : x3_1 = true
   ·subst c6
    have H1 : (some (([239, 191, 189] : List Int))) = some r := by rw [if_pos rfl] at H; exact H
    clear H
    have H := H1
    clear H1
    obtain ⟨y171, hy171⟩ : ∃ y_ : List Int, y_ = (([239, 191, 189] : List Int)) := ⟨_, rfl⟩
    replace H : (some y171) = some r := by first | (rw [hy171]; with_reducible exact H) | (have H2_ := (Option.bind_some _ _).symm.trans H; rw [hy171]; with_reducible exact H2_) | (have H2_ := (Option.bind_some _ _).symm.trans H; with_reducible exact H2_) | with_reducible exact H | (rw [hy171]; exact H) | exact H
    have Ny171 := Aside0.mk hy171
    clear hy171
    obtain rfl := Option.some.inj H
    go_wp2_with (first | ((with_reducible refine gate_dst (N := 18) rfl ?_); refine Kd.R_lit (Kd.int .u8) _ 5 ?hg (N := 18) ?hd (xs := ([239, 191, 189] : List Int)) (inner := [.int .u8 239, .int .u8 191, .int .u8 189]) (ok := fun _ => True) (okp := fun _ => True) ?hr ?hp (fun _ hk => hk) trivial (Below.refl _ _) (Nat.le_refl _) (by simp) ?_; (case hd => rfl); (case hg => rfl); (case hr => first | (go_simp; done) | (go_simp; rfl)); (case hp => exact (Reps.one (show Kd.M (Kd.int .u8) _ _ _ 239 [.int .u8 239] from rfl) (Reps.one (show Kd.M (Kd.int .u8) _ _ _ 191 [.int .u8 191] from rfl) (Reps.one (show Kd.M (Kd.int .u8) _ _ _ 189 [.int .u8 189] from rfl) (Reps.none _ _))))); intro v172 w7 ho8 hb hg_ hnew_; clear hg_ hnew_; (first | rw [← Ny171.out] at ho8 | (simp only [Int.reduceToNat] at ho8; rw [← Ny171.out] at ho8)); have n0_ := Aside0.mk (Kd.R_lower ho8 (below_size (mvB HB))); have n1_ := Aside0.mk (below_step (mvB HB) hb); clear HB; have HO173 := n0_; have HB := n1_; clear n0_ n1_; clear hb ho8))
    go_ret
    exact ⟨_, by first | rfl | (simp [errW_none, errW_some] <;> rfl) | (simp [*, errW_none, errW_some] <;> rfl), mvR HO173, mvB HB⟩
   ·replace c6 := Bool.eq_false_iff.mpr c6
    subst c6
    have H1 : (if a0 < 128 then (some (([(a0) % 256] : List Int))) else (if a0 < 2048 then (some (([Go.bits .or .u8 192 ((a0 / 64) % 256), Go.bits .or .u8 128 ((Go.bits .and .i32 a0 63) % 256)] : List Int))) else (if a0 < 65536 then (some (([Go.bits .or .u8 224 ((a0 / 4096) % 256), Go.bits .or .u8 128 ((Go.bits .and .i32 (a0 / 64) 63) % 256), Go.bits .or .u8 128 ((Go.bits .and .i32 a0 63) % 256)] : List Int))) else (some (([Go.bits .or .u8 240 ((a0 / 262144) % 256), Go.bits .or .u8 128 ((Go.bits .and .i32 (a0 / 4096) 63) % 256), Go.bits .or .u8 128 ((Go.bits .and .i32 (a0 / 64) 63) % 256), Go.bits .or .u8 128 ((Go.bits .and .i32 a0 63) % 256)] : List Int)))))) = some r := by rw [if_neg (show ¬ (false = true) by decide)] at H; exact H
    clear H
    have H := H1
    clear H1
    by_cases c9 : a0 < 128
    ·rw [if_pos c9] at H
     have c9b0 : decide (a0 < 128) = true := decide_eq_true c9
     clear c9
     obtain ⟨y174, hy174⟩ : ∃ y_ : List Int, y_ = (([(a0) % 256] : List Int)) := ⟨_, rfl⟩
     replace H : (some y174) = some r := by first | (rw [hy174]; with_reducible exact H) | (have H2_ := (Option.bind_some _ _).symm.trans H; rw [hy174]; with_reducible exact H2_) | (have H2_ := (Option.bind_some _ _).symm.trans H; with_reducible exact H2_) | with_reducible exact H | (rw [hy174]; exact H) | exact H
     have Ny174 := Aside0.mk hy174
     clear hy174
     obtain rfl := Option.some.inj H
     go_wp2_with (first | ((with_reducible refine gate_dst (N := 24) rfl ?_); refine Kd.R_lit (Kd.int .u8) _ 5 ?hg (N := 24) ?hd (xs := ([(a0) % 256] : List Int)) (inner := [.int .u8 ((a0) % 256)]) (ok := fun _ => True) (okp := fun _ => True) ?hr ?hp (fun _ hk => hk) trivial (Below.refl _ _) (Nat.le_refl _) (by simp) ?_; (case hd => rfl); (case hg => rfl); (case hr => first | (go_simp; done) | (go_simp; rfl)); (case hp => exact (Reps.one (show Kd.M (Kd.int .u8) _ _ _ ((a0) % 256) [.int .u8 ((a0) % 256)] from rfl) (Reps.none _ _))); intro v175 w10 ho11 hb hg_ hnew_; clear hg_ hnew_; (first | rw [← Ny174.out] at ho11 | (simp only [Int.reduceToNat] at ho11; rw [← Ny174.out] at ho11)); have n0_ := Aside0.mk (Kd.R_lower ho11 (below_size (mvB HB))); have n1_ := Aside0.mk (below_step (mvB HB) hb); clear HB; have HO176 := n0_; have HB := n1_; clear n0_ n1_; clear hb ho11))
     go_ret
     exact ⟨_, by first | rfl | (simp [errW_none, errW_some] <;> rfl) | (simp [*, errW_none, errW_some] <;> rfl), mvR HO176, mvB HB⟩
    ·rw [if_neg c9] at H
     have c9b0 : decide (a0 < 128) = false := decide_eq_false c9
     clear c9
     by_cases c12 : a0 < 2048
     ·rw [if_pos c12] at H
      have c12b0 : decide (a0 < 2048) = true := decide_eq_true c12
      clear c12
      obtain ⟨y177, hy177⟩ : ∃ y_ : List Int, y_ = (([Go.bits .or .u8 192 ((a0 / 64) % 256), Go.bits .or .u8 128 ((Go.bits .and .i32 a0 63) % 256)] : List Int)) := ⟨_, rfl⟩
      replace H : (some y177) = some r := by first | (rw [hy177]; with_reducible exact H) | (have H2_ := (Option.bind_some _ _).symm.trans H; rw [hy177]; with_reducible exact H2_) | (have H2_ := (Option.bind_some _ _).symm.trans H; with_reducible exact H2_) | with_reducible exact H | (rw [hy177]; exact H) | exact H
      have Ny177 := Aside0.mk hy177
      clear hy177
      obtain rfl := Option.some.inj H
      go_wp2_with (first | ((with_reducible refine gate_dst (N := 36) rfl ?_); refine Kd.R_lit (Kd.int .u8) _ 5 ?hg (N := 36) ?hd (xs := ([Go.bits .or .u8 192 ((a0 / 64) % 256), Go.bits .or .u8 128 ((Go.bits .and .i32 a0 63) % 256)] : List Int)) (inner := [.int .u8 (Go.bits .or .u8 192 ((a0 / 64) % 256)), .int .u8 (Go.bits .or .u8 128 ((Go.bits .and .i32 a0 63) % 256))]) (ok := fun _ => True) (okp := fun _ => True) ?hr ?hp (fun _ hk => hk) trivial (Below.refl _ _) (Nat.le_refl _) (by simp) ?_; (case hd => rfl); (case hg => rfl); (case hr => first | (go_simp; done) | (go_simp; rfl)); (case hp => exact (Reps.one (show Kd.M (Kd.int .u8) _ _ _ (Go.bits .or .u8 192 ((a0 / 64) % 256)) [.int .u8 (Go.bits .or .u8 192 ((a0 / 64) % 256))] from rfl) (Reps.one (show Kd.M (Kd.int .u8) _ _ _ (Go.bits .or .u8 128 ((Go.bits .and .i32 a0 63) % 256)) [.int .u8 (Go.bits .or .u8 128 ((Go.bits .and .i32 a0 63) % 256))] from rfl) (Reps.none _ _)))); intro v178 w13 ho14 hb hg_ hnew_; clear hg_ hnew_; (first | rw [← Ny177.out] at ho14 | (simp only [Int.reduceToNat] at ho14; rw [← Ny177.out] at ho14)); have n0_ := Aside0.mk (Kd.R_lower ho14 (below_size (mvB HB))); have n1_ := Aside0.mk (below_step (mvB HB) hb); clear HB; have HO179 := n0_; have HB := n1_; clear n0_ n1_; clear hb ho14))
      go_ret
      exact ⟨_, by first | rfl | (simp [errW_none, errW_some] <;> rfl) | (simp [*, errW_none, errW_some] <;> rfl), mvR HO179, mvB HB⟩
     ·rw [if_neg c12] at H
      have c12b0 : decide (a0 < 2048) = false := decide_eq_false c12
      clear c12
      by_cases c15 : a0 < 65536
      ·rw [if_pos c15] at H
       have c15b0 : decide (a0 < 65536) = true := decide_eq_true c15
       clear c15
       obtain ⟨y180, hy180⟩ : ∃ y_ : List Int, y_ = (([Go.bits .or .u8 224 ((a0 / 4096) % 256), Go.bits .or .u8 128 ((Go.bits .and .i32 (a0 / 64) 63) % 256), Go.bits .or .u8 128 ((Go.bits .and .i32 a0 63) % 256)] : List Int)) := ⟨_, rfl⟩
       replace H : (some y180) = some r := by first | (rw [hy180]; with_reducible exact H) | (have H2_ := (Option.bind_some _ _).symm.trans H; rw [hy180]; with_reducible exact H2_) | (have H2_ := (Option.bind_some _ _).symm.trans H; with_reducible exact H2_) | with_reducible exact H | (rw [hy180]; exact H) | exact H
       have Ny180 := Aside0.mk hy180
       clear hy180
       obtain rfl := Option.some.inj H
       go_wp2_with (first | ((with_reducible refine gate_dst (N := 53) rfl ?_); refine Kd.R_lit (Kd.int .u8) _ 5 ?hg (N := 53) ?hd (xs := ([Go.bits .or .u8 224 ((a0 / 4096) % 256), Go.bits .or .u8 128 ((Go.bits .and .i32 (a0 / 64) 63) % 256), Go.bits .or .u8 128 ((Go.bits .and .i32 a0 63) % 256)] : List Int)) (inner := [.int .u8 (Go.bits .or .u8 224 ((a0 / 4096) % 256)), .int .u8 (Go.bits .or .u8 128 ((Go.bits .and .i32 (a0 / 64) 63) % 256)), .int .u8 (Go.bits .or .u8 128 ((Go.bits .and .i32 a0 63) % 256))]) (ok := fun _ => True) (okp := fun _ => True) ?hr ?hp (fun _ hk => hk) trivial (Below.refl _ _) (Nat.le_refl _) (by simp) ?_; (case hd => rfl); (case hg => rfl); (case hr => first | (go_simp; done) | (go_simp; rfl)); (case hp => exact (Reps.one (show Kd.M (Kd.int .u8) _ _ _ (Go.bits .or .u8 224 ((a0 / 4096) % 256)) [.int .u8 (Go.bits .or .u8 224 ((a0 / 4096) % 256))] from rfl) (Reps.one (show Kd.M (Kd.int .u8) _ _ _ (Go.bits .or .u8 128 ((Go.bits .and .i32 (a0 / 64) 63) % 256)) [.int .u8 (Go.bits .or .u8 128 ((Go.bits .and .i32 (a0 / 64) 63) % 256))] from rfl) (Reps.one (show Kd.M (Kd.int .u8) _ _ _ (Go.bits .or .u8 128 ((Go.bits .and .i32 a0 63) % 256)) [.int .u8 (Go.bits .or .u8 128 ((Go.bits .and .i32 a0 63) % 256))] from rfl) (Reps.none _ _))))); intro v181 w16 ho17 hb hg_ hnew_; clear hg_ hnew_; (first | rw [← Ny180.out] at ho17 | (simp only [Int.reduceToNat] at ho17; rw [← Ny180.out] at ho17)); have n0_ := Aside0.mk (Kd.R_lower ho17 (below_size (mvB HB))); have n1_ := Aside0.mk (below_step (mvB HB) hb); clear HB; have HO182 := n0_; have HB := n1_; clear n0_ n1_; clear hb ho17))
       go_ret
       exact ⟨_, by first | rfl | (simp [errW_none, errW_some] <;> rfl) | (simp [*, errW_none, errW_some] <;> rfl), mvR HO182, mvB HB⟩
      ·rw [if_neg c15] at H
       have c15b0 : decide (a0 < 65536) = false := decide_eq_false c15
       clear c15
       obtain ⟨y183, hy183⟩ : ∃ y_ : List Int, y_ = (([Go.bits .or .u8 240 ((a0 / 262144) % 256), Go.bits .or .u8 128 ((Go.bits .and .i32 (a0 / 4096) 63) % 256), Go.bits .or .u8 128 ((Go.bits .and .i32 (a0 / 64) 63) % 256), Go.bits .or .u8 128 ((Go.bits .and .i32 a0 63) % 256)] : List Int)) := ⟨_, rfl⟩
       replace H : (some y183) = some r := by first | (rw [hy183]; with_reducible exact H) | (have H2_ := (Option.bind_some _ _).symm.trans H; rw [hy183]; with_reducible exact H2_) | (have H2_ := (Option.bind_some _ _).symm.trans H; with_reducible exact H2_) | with_reducible exact H | (rw [hy183]; exact H) | exact H
       have Ny183 := Aside0.mk hy183
       clear hy183
       obtain rfl := Option.some.inj H
       go_wp2_with (first | ((with_reducible refine gate_dst (N := 72) rfl ?_); refine Kd.R_lit (Kd.int .u8) _ 5 ?hg (N := 72) ?hd (xs := ([Go.bits .or .u8 240 ((a0 / 262144) % 256), Go.bits .or .u8 128 ((Go.bits .and .i32 (a0 / 4096) 63) % 256), Go.bits .or .u8 128 ((Go.bits .and .i32 (a0 / 64) 63) % 256), Go.bits .or .u8 128 ((Go.bits .and .i32 a0 63) % 256)] : List Int)) (inner := [.int .u8 (Go.bits .or .u8 240 ((a0 / 262144) % 256)), .int .u8 (Go.bits .or .u8 128 ((Go.bits .and .i32 (a0 / 4096) 63) % 256)), .int .u8 (Go.bits .or .u8 128 ((Go.bits .and .i32 (a0 / 64) 63) % 256)), .int .u8 (Go.bits .or .u8 128 ((Go.bits .and .i32 a0 63) % 256))]) (ok := fun _ => True) (okp := fun _ => True) ?hr ?hp (fun _ hk => hk) trivial (Below.refl _ _) (Nat.le_refl _) (by simp) ?_; (case hd => rfl); (case hg => rfl); (case hr => first | (go_simp; done) | (go_simp; rfl)); (case hp => exact (Reps.one (show Kd.M (Kd.int .u8) _ _ _ (Go.bits .or .u8 240 ((a0 / 262144) % 256)) [.int .u8 (Go.bits .or .u8 240 ((a0 / 262144) % 256))] from rfl) (Reps.one (show Kd.M (Kd.int .u8) _ _ _ (Go.bits .or .u8 128 ((Go.bits .and .i32 (a0 / 4096) 63) % 256)) [.int .u8 (Go.bits .or .u8 128 ((Go.bits .and .i32 (a0 / 4096) 63) % 256))] from rfl) (Reps.one (show Kd.M (Kd.int .u8) _ _ _ (Go.bits .or .u8 128 ((Go.bits .and .i32 (a0 / 64) 63) % 256)) [.int .u8 (Go.bits .or .u8 128 ((Go.bits .and .i32 (a0 / 64) 63) % 256))] from rfl) (Reps.one (show Kd.M (Kd.int .u8) _ _ _ (Go.bits .or .u8 128 ((Go.bits .and .i32 a0 63) % 256)) [.int .u8 (Go.bits .or .u8 128 ((Go.bits .and .i32 a0 63) % 256))] from rfl) (Reps.none _ _)))))); intro v184 w18 ho19 hb hg_ hnew_; clear hg_ hnew_; (first | rw [← Ny183.out] at ho19 | (simp only [Int.reduceToNat] at ho19; rw [← Ny183.out] at ho19)); have n0_ := Aside0.mk (Kd.R_lower ho19 (below_size (mvB HB))); have n1_ := Aside0.mk (below_step (mvB HB) hb); clear HB; have HO185 := n0_; have HB := n1_; clear n0_ n1_; clear hb ho19))
       go_ret
       exact ⟨_, by first | rfl | (simp [errW_none, errW_some] <;> rfl) | (simp [*, errW_none, errW_some] <;> rfl), mvR HO185, mvB HB⟩

/-! ### selvedgeref03_Decode: function 15 -/
def selvedgeref03_Decode.l0 : Nat → ByteArray → Bool → List Int → Int → Option (ByteArray)
 | 0, _, _, _, _ => none
 | k + 1, x0, x1, x5, x6 => if x6 < (x0.size : Int) then (if 0 ≤ x6 then (if x6 ≤ (x0.size : Int) then ((selvedgeref03_Find.f k (x0.extract (x6 : Int).toNat x0.size) x1).bind fun bt186 => (if bt186.2.2 = true then ((selvedgeref02_One.f k bt186.1).bind fun t189 => (if x5.length + t189.length < 140737488355328 then (selvedgeref03_Decode.l0 k x0 x1 (x5 ++ t189) (wrap64 (x6 + bt186.2.1))) else (none))) else (if x5.length < 140737488355328 then (selvedgeref03_Decode.l0 k x0 x1 (x5 ++ [bt x0 x6]) (wrap64 (x6 + 1))) else (none)))) else (none)) else (none)) else (some (strOfNums x5))
def selvedgeref03_Decode.f (k : Nat) (a0 : ByteArray) (a1 : Bool) : Option (ByteArray) := selvedgeref03_Decode.l0 k a0 a1 ([] : List Int) 0
theorem selvedgeref03_Decode.mono_l : ∀ k, (∀ y0 y1 y2 y3, LeO (selvedgeref03_Decode.l0 k y0 y1 y2 y3) (selvedgeref03_Decode.l0 (k + 1) y0 y1 y2 y3))
 | 0 => fun _ _ _ _ r h => by simp [selvedgeref03_Decode.l0] at h
 | k + 1 => by
  have ih0 := selvedgeref03_Decode.mono_l k
  ·intro y0 y1 y2 y3
   unfold selvedgeref03_Decode.l0
   repeat' first
   | (with_reducible exact ih0 _ _ _ _)
   | (with_reducible exact selvedgeref02_One.mono _ _)
   | (with_reducible exact selvedgeref03_Find.mono _ _ _)
   | (with_reducible exact LeO.refl _)
   | (with_reducible exact LeO.none _)
   | (with_reducible refine LeO.ite ?_ ?_)
   | (with_reducible refine LeO.bind ?_ (fun _ => ?_))
   | exact ih0 _ _ _ _
   | exact selvedgeref02_One.mono _ _
   | exact selvedgeref03_Find.mono _ _ _
   | exact LeO.none _
   | refine LeO.ite ?_ ?_
   | refine LeO.bind ?_ (fun _ => ?_)
theorem selvedgeref03_Decode.mono : ∀ a0 a1 k, LeO (selvedgeref03_Decode.f k a0 a1) (selvedgeref03_Decode.f (k + 1) a0 a1) := by
 intro a0 a1 k
 have ih0 := selvedgeref03_Decode.mono_l k
 unfold selvedgeref03_Decode.f
 repeat' first
   | (with_reducible exact ih0 _ _ _ _)
   | (with_reducible exact selvedgeref02_One.mono _ _)
   | (with_reducible exact selvedgeref03_Find.mono _ _ _)
   | (with_reducible exact LeO.refl _)
   | (with_reducible exact LeO.none _)
   | (with_reducible refine LeO.ite ?_ ?_)
   | (with_reducible refine LeO.bind ?_ (fun _ => ?_))
   | exact ih0 _ _ _ _
   | exact selvedgeref02_One.mono _ _
   | exact selvedgeref03_Find.mono _ _ _
   | exact LeO.none _
   | refine LeO.ite ?_ ?_
   | refine LeO.bind ?_ (fun _ => ?_)
set_option maxHeartbeats 8000000 in
set_option maxRecDepth 100000 in
theorem selvedgeref03_Decode.calls (k : Nat) (a0 : ByteArray) (a1 : Bool) (r : ByteArray) (w : World) (h : selvedgeref03_Decode.f k a0 a1 = some r) :
  Calls Tryd.prog 15 #[.string a0, .bool a1] w fun e w' => e = .returned (.string r) ∧ Below w.heap.size w w' := by
 have HB := Aside0.mk (Below.refl w.heap.size w)
 have H : (selvedgeref03_Decode.l0 k a0 a1 ([] : List Int) 0) = some r := h
 clear h
 have H' := Aside0.mk H
 clear H
 go_enter Tryd.func15, Tryd.ntmps15
 go_wp2
 go_loopg [5, 6] k (fun kq v5 v6 w' => ∃ (x5_1 : List Int) (x6_1 : Int), v6 = .int .i64 x6_1 ∧ Aside0 (selvedgeref03_Decode.l0 kq a0 a1 x5_1 x6_1 = some r) ∧ Aside0 (kq ≤ k) ∧ Aside0 (Kd.R (Kd.int .u8) 5 w' w.heap.size (fun _ => True) v5 x5_1) ∧ Aside0 (Below w.heap.size w w'))
 case atStart => exact ⟨(([] : List Int)), (0), (by first | rfl | (simp; done) | (simp [*]; done)), H', ⟨Nat.le_refl _⟩, ⟨by first | exact Kd.R_nil _ _ _ _ _ | exact Kd.N_nil _ _ _ _ _ | exact Kd.V_nil _ _ _ _ _ | exact Kd.Q_nil _ _ _ _ _ | exact Kd.S_nil _ _ _ _ _⟩, ⟨mvB HB⟩⟩
 case round =>
  clear H'
  try clear c1
  try clear p2
  obtain ⟨x5_1, x6_1, rfl, HA, HK1, HO_5, HB⟩ := hrel
  cases gk with
  | zero => exact absurd HA.out (by simp [selvedgeref03_Decode.l0])
  | succ k1 =>
   have H := HA.out
   clear HA
   simp only [selvedgeref03_Decode.l0] at H
   by_cases c3 : x6_1 < (a0.size : Int)
   ·rw [if_pos c3] at H
    have c3b0 : decide (x6_1 < (a0.size : Int)) = true := decide_eq_true c3
    clear c3
    by_cases c4 : 0 ≤ x6_1
    ·rw [if_pos c4] at H
     have c4b0 := eq_true c4
     have c4b1 : decide (0 ≤ x6_1) = true := decide_eq_true c4
     clear c4
     by_cases c5 : x6_1 ≤ (a0.size : Int)
     ·rw [if_pos c5] at H
      have c5b0 := eq_true c5
      have c5b1 : decide (x6_1 ≤ (a0.size : Int)) = true := decide_eq_true c5
      clear c5
      replace H := Option.bind_eq_some_iff.mp H
      obtain ⟨⟨t186, t187, t188⟩, A60, H⟩ := H
      replace H : (if t188 = true then ((selvedgeref02_One.f k1 t186).bind fun t189 => (if x5_1.length + t189.length < 140737488355328 then (selvedgeref03_Decode.l0 k1 a0 a1 (x5_1 ++ t189) (wrap64 (x6_1 + t187))) else (none))) else (if x5_1.length < 140737488355328 then (selvedgeref03_Decode.l0 k1 a0 a1 (x5_1 ++ [bt a0 x6_1]) (wrap64 (x6_1 + 1))) else (none))) = some r := H
      have A6 := Aside0.mk A60
      clear A60
      by_cases c7 : t188 = true
      ·subst c7
       have H1 : ((selvedgeref02_One.f k1 t186).bind fun t189 => (if x5_1.length + t189.length < 140737488355328 then (selvedgeref03_Decode.l0 k1 a0 a1 (x5_1 ++ t189) (wrap64 (x6_1 + t187))) else (none))) = some r := by rw [if_pos rfl] at H; exact H
       clear H
       have H := H1
       clear H1
       replace H := Option.bind_eq_some_iff.mp H
       obtain ⟨t189, A80, H⟩ := H
       replace H : (if x5_1.length + t189.length < 140737488355328 then (selvedgeref03_Decode.l0 k1 a0 a1 (x5_1 ++ t189) (wrap64 (x6_1 + t187))) else (none)) = some r := H
       have A8 := Aside0.mk A80
       clear A80
       by_cases c9 : x5_1.length + t189.length < 140737488355328
       ·rw [if_pos c9] at H
        have LMc9 := Aside0.mk c9
        clear c9
        obtain ⟨y192, hy192⟩ : ∃ y_ : List Int, y_ = (x5_1 ++ t189) := ⟨_, rfl⟩
        replace H : (selvedgeref03_Decode.l0 k1 a0 a1 y192 (wrap64 (x6_1 + t187))) = some r := by first | (rw [hy192]; with_reducible exact H) | (have H2_ := (Option.bind_some _ _).symm.trans H; rw [hy192]; with_reducible exact H2_) | (have H2_ := (Option.bind_some _ _).symm.trans H; with_reducible exact H2_) | with_reducible exact H | (rw [hy192]; exact H) | exact H
        have Ny192 := Aside0.mk hy192
        clear hy192
        have H' := Aside0.mk H
        clear H
        go_wp2_with (first | ((with_reducible refine gate_callee (f := 13) rfl ?_); refine goesL_ (some 19) rfl rfl Tryd.func13 (by kernel_rfl) rfl #[.string (a0.extract (x6_1 : Int).toNat a0.size), .bool a1] rfl (by (try simp only [List.map_toArray, List.map_cons, List.map_nil]); first | done | rfl | (simp only [List.length_drop, List.length_take]; rfl)) ?_; (with_reducible refine (selvedgeref03_Find.calls k1 (a0.extract (x6_1 : Int).toNat a0.size) a1 t186 t187 true _ A6.out).mono ?_); rintro e w10 ⟨rfl, hb⟩; refine ⟨_, rfl, ?_⟩; have n0_ := Aside0.mk (Kd.R_below (mvR HO_5) hb); have n1_ := Aside0.mk (below_step (mvB HB) hb); clear HO_5; clear HB; have HO_5 := n0_; have HB := n1_; clear n0_ n1_; (try clear hb); (try clear hb2); (try clear hk); (try clear hi)) | ((with_reducible refine gate_callee (f := 32) rfl ?_); refine goesL_ (some 35) rfl rfl Tryd.func32 (by kernel_rfl) rfl #[.int .i32 t186] rfl (by (try simp only [List.map_toArray, List.map_cons, List.map_nil]); first | done | rfl | (simp only [List.length_drop, List.length_take]; rfl)) ?_; (with_reducible refine (selvedgeref02_One.calls k1 t186 t189 _ A8.out).mono ?_); rintro e w11 ⟨v190, rfl, ho0, hb⟩; refine ⟨_, rfl, ?_⟩; have n0_ := Aside0.mk (Kd.R_elder' (mvR HO_5) (Kd.R_base ho0) hb); have n1_ := Aside0.mk (Kd.R_lower (Kd.R_new' ho0 (Kd.R_lt (mvR HO_5))) (below_size (mvB HB))); have n2_ := Aside0.mk (below_step (mvB HB) hb); clear HO_5; clear HB; have HO_5 := n0_; have HO191 := n1_; have HB := n2_; clear n0_ n1_ n2_; (try clear hb); (try clear hb2); (try clear hk); (try clear hi); (try clear ho0); obtain ⟨Ao13, co13, eo13⟩ := Kd.R_slice HO191.out; subst eo13) | ((with_reducible refine gate_builtin (b := .append) (xs := #[.tmp 33, .tmp 35]) rfl ?_); at_builtin; refine Kd.R_append_rows (Kd.int .u8) (w0 := w) w.heap.size rfl (.tmp 33) (.tmp 35) 33 5 (.int .u8 0) 1 rfl Tryd.underlying33 info5 rfl (by decide) (by omega) u5 x5_1 t189 _ _ _ (fun k_ => some k_ ≠ (.slice Ao13 t189.length co13 : Value).ownBlock) (fun _ => False) rfl rfl ?aO ?aR (fun _ _ h => h) (fun _ h => h.elim) ?aF ?aB ?aS ?aL ?_; (case aR => repeat (first | exact (Kd.R_reads' HO191.out).2.2 | (with_reducible refine Kd.C_alloc ?_ _) | (with_reducible refine Kd.C_drewN ?_ _) | (with_reducible refine Kd.C_drew ?_))); (case aB => exact (mvB HB)); (case aF => exact (fun k_ hk => Kd.fresh' (Kd.R_lt (mvR HO191)) k_ hk)); (case aO => exact (by (with_reducible repeat (first | apply Kd.R_alloc | apply Kd.R_drewN | apply Kd.R_drew)); exact Kd.R_mono HO_5.out (fun _ hk => hk.2))); (case aS => exact (below_size (mvB HB))); (case aL => have := LMc9.out; omega); intro v193 w12 ho hb hg hat; rw [← Ny192.out] at ho; have n0_ := Aside0.mk (Kd.R_after (ok := (fun _ => True)) (mvR HO191) hg hat); have n1_ := Aside0.mk (hb); have n2_ := Aside0.mk (ho); clear HO191; clear HB; clear HO_5; have HO191 := n0_; have HB := n1_; have HO194 := n2_; clear n0_ n1_ n2_; clear ho hb hg hat))
        go_roundg k1
        case measure => have := HK1.out; omega
        case rel => exact ⟨(y192), (wrap64 (x6_1 + t187)), (by first | rfl | (simp; done) | (simp [*]; done)), H', ⟨by have := HK1.out; omega⟩, ⟨by (with_reducible repeat (first | apply Kd.R_alloc | apply Kd.R_drewN | apply Kd.R_drew)); exact Kd.R_mono HO194.out (fun _ hk => trivial)⟩, ⟨mvB HB⟩⟩
       ·rw [if_neg c9] at H
        exact absurd H (by simp)
      ·replace c7 := Bool.eq_false_iff.mpr c7
       subst c7
       have H1 : (if x5_1.length < 140737488355328 then (selvedgeref03_Decode.l0 k1 a0 a1 (x5_1 ++ [bt a0 x6_1]) (wrap64 (x6_1 + 1))) else (none)) = some r := by rw [if_neg (show ¬ (false = true) by decide)] at H; exact H
       clear H
       have H := H1
       clear H1
       by_cases c15 : x5_1.length < 140737488355328
       ·rw [if_pos c15] at H
        have LMc15 := Aside0.mk c15
        clear c15
        obtain ⟨y195, hy195⟩ : ∃ y_ : List Int, y_ = (x5_1 ++ [bt a0 x6_1]) := ⟨_, rfl⟩
        replace H : (selvedgeref03_Decode.l0 k1 a0 a1 y195 (wrap64 (x6_1 + 1))) = some r := by first | (rw [hy195]; with_reducible exact H) | (have H2_ := (Option.bind_some _ _).symm.trans H; rw [hy195]; with_reducible exact H2_) | (have H2_ := (Option.bind_some _ _).symm.trans H; with_reducible exact H2_) | with_reducible exact H | (rw [hy195]; exact H) | exact H
        have Ny195 := Aside0.mk hy195
        clear hy195
        have H' := Aside0.mk H
        clear H
        go_wp2_with (first | ((with_reducible refine gate_callee (f := 13) rfl ?_); refine goesL_ (some 19) rfl rfl Tryd.func13 (by kernel_rfl) rfl #[.string (a0.extract (x6_1 : Int).toNat a0.size), .bool a1] rfl (by (try simp only [List.map_toArray, List.map_cons, List.map_nil]); first | done | rfl | (simp only [List.length_drop, List.length_take]; rfl)) ?_; (with_reducible refine (selvedgeref03_Find.calls k1 (a0.extract (x6_1 : Int).toNat a0.size) a1 t186 t187 false _ A6.out).mono ?_); rintro e w16 ⟨rfl, hb⟩; refine ⟨_, rfl, ?_⟩; have n0_ := Aside0.mk (Kd.R_below (mvR HO_5) hb); have n1_ := Aside0.mk (below_step (mvB HB) hb); clear HO_5; clear HB; have HO_5 := n0_; have HB := n1_; clear n0_ n1_; (try clear hb); (try clear hb2); (try clear hk); (try clear hi); have p14 := dT (0 ≤ (x6_1 : Int)); have q14 := dT (x6_1 < (a0.size : Int)); have hx14 := bt_at a0 x6_1; replace p14 := eq_true p14; replace q14 := eq_true q14) | ((with_reducible refine gate_builtin (b := .append) (xs := #[.tmp 25, .tmp 29]) rfl ?_); at_builtin; refine Kd.R_append (Kd.int .u8) (w0 := w) w.heap.size rfl (.tmp 25) (.tmp 29) 33 5 (.int .u8 0) 1 rfl Tryd.underlying33 info5 rfl (by decide) (by omega) u5 x5_1 (bt a0 x6_1) [.int .u8 (bt a0 x6_1)] (fun _ => True) (fun _ => False) rfl rfl ?aP (fun _ hk => hk.elim) ?aF ?aO ?aB ?aS ?aL ?_; (case aP => exact rfl); (case aB => exact (mvB HB)); (case aF => exact (fun _ _ => trivial)); (case aO => exact (mvR HO_5)); (case aS => exact (below_size (mvB HB))); (case aL => have := LMc15.out; omega); intro v196 w17 ho hb hg hat; rw [← Ny195.out] at ho; have n0_ := Aside0.mk (hb); have n1_ := Aside0.mk (ho); clear HB; clear HO_5; have HB := n0_; have HO197 := n1_; clear n0_ n1_; clear ho hb hg hat))
        go_roundg k1
        case measure => have := HK1.out; omega
        case rel => exact ⟨(y195), (wrap64 (x6_1 + 1)), (by first | rfl | (simp; done) | (simp [*]; done)), H', ⟨by have := HK1.out; omega⟩, ⟨mvR HO197⟩, ⟨mvB HB⟩⟩
       ·rw [if_neg c15] at H
        exact absurd H (by simp)
     ·rw [if_neg c5] at H
      exact absurd H (by simp)
    ·rw [if_neg c4] at H
     exact absurd H (by simp)
   ·rw [if_neg c3] at H
    have c3b0 : decide (x6_1 < (a0.size : Int)) = false := decide_eq_false c3
    clear c3
    obtain rfl := Option.some.inj H
    have hcv18 := own_string (P := Tryd.prog) Tryd.underlying33 Tryd.underlying5 Tryd.underlying9 (Kd.own_of_R HO_5.out)
    go_wp2
    go_ret
    exact ⟨by first | rfl | (simp [errW_none, errW_some] <;> rfl) | (simp [*, errW_none, errW_some] <;> rfl), mvB HB⟩

/-! ### selvedgelaw03_CharrefDecodes: function 4 -/
def selvedgelaw03_CharrefDecodes.f (k : Nat) (a0 : ByteArray) (a1 : Bool) : Option (Bool) := if (a0.size : Int) > 5000 then ((selvedgelaw03_works.f k).bind fun t198 => (some t198)) else ((charref_Decode.f k a0 a1).bind fun t199 => ((selvedgeref03_Decode.f k a0 a1).bind fun t200 => (if t199.toList = t200.toList then ((selvedgelaw03_works.f k).bind fun t201 => (some t201)) else (some false))))
theorem selvedgelaw03_CharrefDecodes.mono : ∀ a0 a1 k, LeO (selvedgelaw03_CharrefDecodes.f k a0 a1) (selvedgelaw03_CharrefDecodes.f (k + 1) a0 a1) := by
 intro a0 a1 k
 unfold selvedgelaw03_CharrefDecodes.f
 repeat' first
   | (with_reducible exact charref_Decode.mono _ _ _)
   | (with_reducible exact selvedgelaw03_works.mono _)
   | (with_reducible exact selvedgeref03_Decode.mono _ _ _)
   | (with_reducible exact LeO.refl _)
   | (with_reducible exact LeO.none _)
   | (with_reducible refine LeO.ite ?_ ?_)
   | (with_reducible refine LeO.bind ?_ (fun _ => ?_))
   | exact charref_Decode.mono _ _ _
   | exact selvedgelaw03_works.mono _
   | exact selvedgeref03_Decode.mono _ _ _
   | exact LeO.none _
   | refine LeO.ite ?_ ?_
   | refine LeO.bind ?_ (fun _ => ?_)
set_option maxHeartbeats 8000000 in
set_option maxRecDepth 100000 in
theorem selvedgelaw03_CharrefDecodes.calls (k : Nat) (a0 : ByteArray) (a1 : Bool) (r : Bool) (w : World) (h : selvedgelaw03_CharrefDecodes.f k a0 a1 = some r) (hT : Tabs w) :
  Calls Tryd.prog 4 #[.string a0, .bool a1] w fun e w' => e = .returned (.bool r) ∧ Below w.heap.size w w' := by
 have HT := Aside0.mk hT
 clear hT
 have HB := Aside0.mk (Below.refl w.heap.size w)
 have H : (if (a0.size : Int) > 5000 then ((selvedgelaw03_works.f k).bind fun t198 => (some t198)) else ((charref_Decode.f k a0 a1).bind fun t199 => ((selvedgeref03_Decode.f k a0 a1).bind fun t200 => (if t199.toList = t200.toList then ((selvedgelaw03_works.f k).bind fun t201 => (some t201)) else (some false))))) = some r := h
 clear h
 by_cases c3 : (a0.size : Int) > 5000
 ·rw [if_pos c3] at H
  have c3b0 : decide (5000 < (a0.size : Int)) = true := decide_eq_true c3
  have c3b1 : decide (5000 < a0.size) = true := decide_eq_true (by omega)
  clear c3
  replace H := Option.bind_eq_some_iff.mp H
  obtain ⟨t198, A40, H⟩ := H
  replace H : (some t198) = some r := H
  have A4 := Aside0.mk A40
  clear A40
  obtain rfl := Option.some.inj H
  go_enter Tryd.func4, Tryd.ntmps4
  go_wp2_with (first | ((with_reducible refine gate_callee (f := 10) rfl ?_); refine goesL_ (some 8) rfl rfl Tryd.func10 (by kernel_rfl) rfl #[] rfl (by (try simp only [List.map_toArray, List.map_cons, List.map_nil]); first | done | rfl | (simp only [List.length_drop, List.length_take]; rfl)) ?_; (with_reducible refine (selvedgelaw03_works.calls k  t198 _ A4.out (by exact HT.out.below (mvB HB))).mono ?_); rintro e w5 ⟨rfl, hb⟩; refine ⟨_, rfl, ?_⟩; have n0_ := Aside0.mk (below_step (mvB HB) hb); clear HB; have HB := n0_; clear n0_; (try clear hb); (try clear hb2); (try clear hk); (try clear hi)))
  go_ret
  exact ⟨by first | rfl | (simp [errW_none, errW_some] <;> rfl) | (simp [*, errW_none, errW_some] <;> rfl), mvB HB⟩
 ·rw [if_neg c3] at H
  have c3b0 : decide (5000 < (a0.size : Int)) = false := decide_eq_false c3
  have c3b1 : decide (5000 < a0.size) = false := decide_eq_false (by omega)
  clear c3
  replace H := Option.bind_eq_some_iff.mp H
  obtain ⟨t199, A60, H⟩ := H
  replace H : ((selvedgeref03_Decode.f k a0 a1).bind fun t200 => (if t199.toList = t200.toList then ((selvedgelaw03_works.f k).bind fun t201 => (some t201)) else (some false))) = some r := H
  have A6 := Aside0.mk A60
  clear A60
  replace H := Option.bind_eq_some_iff.mp H
  obtain ⟨t200, A70, H⟩ := H
  replace H : (if t199.toList = t200.toList then ((selvedgelaw03_works.f k).bind fun t201 => (some t201)) else (some false)) = some r := H
  have A7 := Aside0.mk A70
  clear A70
  by_cases c8 : t199.toList = t200.toList
  ·rw [if_pos c8] at H
   have c8b0 : (t199.toList == t200.toList) = true := beq_iff_eq.mpr c8
   have c8b1 : (t199.toList != t200.toList) = false := bne_eq_false_iff_eq.mpr c8
   clear c8
   replace H := Option.bind_eq_some_iff.mp H
   obtain ⟨t201, A90, H⟩ := H
   replace H : (some t201) = some r := H
   have A9 := Aside0.mk A90
   clear A90
   obtain rfl := Option.some.inj H
   go_enter Tryd.func4, Tryd.ntmps4
   go_wp2_with (first | ((with_reducible refine gate_callee (f := 14) rfl ?_); refine goesL_ (some 11) rfl rfl Tryd.func14 (by kernel_rfl) rfl #[.string a0, .bool a1] rfl (by (try simp only [List.map_toArray, List.map_cons, List.map_nil]); first | done | rfl | (simp only [List.length_drop, List.length_take]; rfl)) ?_; (with_reducible refine (charref_Decode.calls k a0 a1 t199 _ A6.out (by exact HT.out.below (mvB HB))).mono ?_); rintro e w10 ⟨rfl, hb⟩; refine ⟨_, rfl, ?_⟩; have n0_ := Aside0.mk (below_step (mvB HB) hb); clear HB; have HB := n0_; clear n0_; (try clear hb); (try clear hb2); (try clear hk); (try clear hi)) | ((with_reducible refine gate_callee (f := 15) rfl ?_); refine goesL_ (some 14) rfl rfl Tryd.func15 (by kernel_rfl) rfl #[.string a0, .bool a1] rfl (by (try simp only [List.map_toArray, List.map_cons, List.map_nil]); first | done | rfl | (simp only [List.length_drop, List.length_take]; rfl)) ?_; (with_reducible refine (selvedgeref03_Decode.calls k a0 a1 t200 _ A7.out).mono ?_); rintro e w11 ⟨rfl, hb⟩; refine ⟨_, rfl, ?_⟩; have n0_ := Aside0.mk (below_step (mvB HB) hb); clear HB; have HB := n0_; clear n0_; (try clear hb); (try clear hb2); (try clear hk); (try clear hi)) | (go_at_call 10; (with_reducible refine (selvedgelaw03_works.calls k  t201 _ A9.out (by exact HT.out.below (mvB HB))).mono ?_); rintro e w12 ⟨rfl, hb⟩; have n0_ := Aside0.mk (below_step (mvB HB) hb); clear HB; have HB := n0_; clear n0_; (try clear hb); (try clear hb2); (try clear hk); (try clear hi)))
   go_ret
   exact ⟨by first | rfl | (simp [errW_none, errW_some] <;> rfl) | (simp [*, errW_none, errW_some] <;> rfl), mvB HB⟩
  ·rw [if_neg c8] at H
   have c8b0 : (t199.toList == t200.toList) = false := beq_eq_false_iff_ne.mpr c8
   have c8b1 : (t199.toList != t200.toList) = true := bne_iff_ne.mpr c8
   obtain rfl := Option.some.inj H
   go_enter Tryd.func4, Tryd.ntmps4
   go_wp2_with (first | ((with_reducible refine gate_callee (f := 14) rfl ?_); refine goesL_ (some 11) rfl rfl Tryd.func14 (by kernel_rfl) rfl #[.string a0, .bool a1] rfl (by (try simp only [List.map_toArray, List.map_cons, List.map_nil]); first | done | rfl | (simp only [List.length_drop, List.length_take]; rfl)) ?_; (with_reducible refine (charref_Decode.calls k a0 a1 t199 _ A6.out (by exact HT.out.below (mvB HB))).mono ?_); rintro e w13 ⟨rfl, hb⟩; refine ⟨_, rfl, ?_⟩; have n0_ := Aside0.mk (below_step (mvB HB) hb); clear HB; have HB := n0_; clear n0_; (try clear hb); (try clear hb2); (try clear hk); (try clear hi)) | ((with_reducible refine gate_callee (f := 15) rfl ?_); refine goesL_ (some 14) rfl rfl Tryd.func15 (by kernel_rfl) rfl #[.string a0, .bool a1] rfl (by (try simp only [List.map_toArray, List.map_cons, List.map_nil]); first | done | rfl | (simp only [List.length_drop, List.length_take]; rfl)) ?_; (with_reducible refine (selvedgeref03_Decode.calls k a0 a1 t200 _ A7.out).mono ?_); rintro e w14 ⟨rfl, hb⟩; refine ⟨_, rfl, ?_⟩; have n0_ := Aside0.mk (below_step (mvB HB) hb); clear HB; have HB := n0_; clear n0_; (try clear hb); (try clear hb2); (try clear hk); (try clear hi)))
   go_ret
   exact ⟨by first | rfl | (simp [errW_none, errW_some] <;> rfl) | (simp [*, errW_none, errW_some] <;> rfl), mvB HB⟩

/-- THE ONE PURE STATEMENT of selvedgelaw03_CharrefDecodes: yours. -/
def selvedgelaw03_CharrefDecodes.Pure : Prop := ∀ (a0 : ByteArray) (a1 : Bool), a0.size ≤ 140737488351232 → ∃ k, selvedgelaw03_CharrefDecodes.f k a0 a1 = some true
theorem selvedgelaw03_CharrefDecodes.walk (P : selvedgelaw03_CharrefDecodes.Pure) (a0 : ByteArray) (a1 : Bool) (w : World) (w0 : a0.size ≤ 140737488351232) (hT : Tabs w) :
  Calls Tryd.prog 4 #[.string a0, .bool a1] w fun e w' => e = .returned (.bool true) ∧ Below w.heap.size w w' := by
 obtain ⟨k, h⟩ := P a0 a1 w0
 refine (selvedgelaw03_CharrefDecodes.calls k a0 a1 true w h hT).mono ?_
 rintro e w' ⟨rfl, hd⟩
 exact ⟨rfl, hd⟩

end Go.Proofs.YtaohghcmlohngaaDoor.X
