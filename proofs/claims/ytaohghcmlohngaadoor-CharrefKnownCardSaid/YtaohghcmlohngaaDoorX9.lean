-- by xprint.py: the kit's printer over texts of this session
import Derived.Test.YtaohghcmlohngaaDoorX0
import Derived.Test.YtaohghcmlohngaaDoorX3
import Derived.Test.YtaohghcmlohngaaDoorX3b
import Derived.Test.YtaohghcmlohngaaDoorX7
import Derived.Test.YtaohghcmlohngaaDoorT4
namespace Go.Proofs.YtaohghcmlohngaaDoor.X
open Go.RowKit Go.Proofs.YtaohghcmlohngaaDoorW.PrintWords Go.Proofs.YtaohghcmlohngaaDoorW.PrintLast Go.Proofs.YtaohghcmlohngaaDoorW.PrintMore
attribute [local go_sem] max2_int min2_int max_two min_two max_three min_three max_four min_four   -- for this text's walks alone
set_option linter.unusedVariables false
set_option linter.unusedSimpArgs false

/-! ### selvedgeref02_String: function 16 -/
def selvedgeref02_String.l0 : Nat → List Int → List Int → Int → Option (ByteArray)
 | 0, _, _, _ => none
 | k + 1, x0, x3, x4 => if x4 < (x0.length : Int) then (if 0 ≤ x4 then ((selvedgeref02_One.f k (rd x0 x4)).bind fun t219 => (if x3.length + t219.length < 140737488355328 then (selvedgeref02_String.l0 k x0 (x3 ++ t219) (wrap64 (x4 + 1))) else (none))) else (none)) else (some (strOfNums x3))
def selvedgeref02_String.f (k : Nat) (l0 : List Int) : Option (ByteArray) := selvedgeref02_String.l0 k l0 ([] : List Int) 0
theorem selvedgeref02_String.mono_l : ∀ k, (∀ y0 y1 y2, LeO (selvedgeref02_String.l0 k y0 y1 y2) (selvedgeref02_String.l0 (k + 1) y0 y1 y2))
 | 0 => fun _ _ _ r h => by simp [selvedgeref02_String.l0] at h
 | k + 1 => by
  have ih0 := selvedgeref02_String.mono_l k
  ·intro y0 y1 y2
   unfold selvedgeref02_String.l0
   repeat' first
   | (with_reducible exact ih0 _ _ _)
   | (with_reducible exact selvedgeref02_One.mono _ _)
   | (with_reducible exact LeO.refl _)
   | (with_reducible exact LeO.none _)
   | (with_reducible refine LeO.ite ?_ ?_)
   | (with_reducible refine LeO.bind ?_ (fun _ => ?_))
   | exact ih0 _ _ _
   | exact selvedgeref02_One.mono _ _
   | exact LeO.none _
   | refine LeO.ite ?_ ?_
   | refine LeO.bind ?_ (fun _ => ?_)
theorem selvedgeref02_String.mono : ∀ a0 k, LeO (selvedgeref02_String.f k a0) (selvedgeref02_String.f (k + 1) a0) := by
 intro a0 k
 have ih0 := selvedgeref02_String.mono_l k
 unfold selvedgeref02_String.f
 repeat' first
   | (with_reducible exact ih0 _ _ _)
   | (with_reducible exact selvedgeref02_One.mono _ _)
   | (with_reducible exact LeO.refl _)
   | (with_reducible exact LeO.none _)
   | (with_reducible refine LeO.ite ?_ ?_)
   | (with_reducible refine LeO.bind ?_ (fun _ => ?_))
   | exact ih0 _ _ _
   | exact selvedgeref02_One.mono _ _
   | exact LeO.none _
   | refine LeO.ite ?_ ?_
   | refine LeO.bind ?_ (fun _ => ?_)
set_option maxHeartbeats 8000000 in
set_option maxRecDepth 100000 in
theorem selvedgeref02_String.calls (k : Nat) (A0 : Option Addr) (c0 : Nat) (l0 : List Int) (r : ByteArray) (w : World) (hr0 : Kd.C (Kd.int .i32) w A0 l0.length l0) (hc0 : l0.length ≤ c0) (h : selvedgeref02_String.f k l0 = some r) :
  Calls Tryd.prog 16 #[.slice A0 l0.length c0] w fun e w' => e = .returned (.string r) ∧ Below w.heap.size w w' := by
 have HR0 := Aside0.mk hr0
 have HC0 := Aside0.mk hc0
 clear hr0 hc0
 have HB := Aside0.mk (Below.refl w.heap.size w)
 have H : (selvedgeref02_String.l0 k l0 ([] : List Int) 0) = some r := h
 clear h
 have H' := Aside0.mk H
 clear H
 go_enter Tryd.func16, Tryd.ntmps16
 go_wp2
 go_loopg [3, 4] k (fun kq v3 v4 w' => ∃ (x3_1 : List Int) (x4_1 : Int), v4 = .int .i64 x4_1 ∧ Aside0 (selvedgeref02_String.l0 kq l0 x3_1 x4_1 = some r) ∧ Aside0 (kq ≤ k) ∧ Aside0 (Kd.R (Kd.int .u8) 5 w' w.heap.size (fun _ => True) v3 x3_1) ∧ Aside0 (Below w.heap.size w w'))
 case atStart => exact ⟨(([] : List Int)), (0), (by first | rfl | (simp; done) | (simp [*]; done)), H', ⟨Nat.le_refl _⟩, ⟨by first | exact Kd.R_nil _ _ _ _ _ | exact Kd.N_nil _ _ _ _ _ | exact Kd.V_nil _ _ _ _ _ | exact Kd.Q_nil _ _ _ _ _ | exact Kd.S_nil _ _ _ _ _⟩, ⟨mvB HB⟩⟩
 case round =>
  clear H'
  try clear c1
  obtain ⟨x3_1, x4_1, rfl, HA, HK1, HO_3, HB⟩ := hrel
  cases gk with
  | zero => exact absurd HA.out (by simp [selvedgeref02_String.l0])
  | succ k1 =>
   have H := HA.out
   clear HA
   simp only [selvedgeref02_String.l0] at H
   by_cases c2 : x4_1 < (l0.length : Int)
   ·rw [if_pos c2] at H
    have c2b0 : decide (x4_1 < (l0.length : Int)) = true := decide_eq_true c2
    clear c2
    by_cases c3 : 0 ≤ x4_1
    ·rw [if_pos c3] at H
     have c3b0 : decide (0 ≤ x4_1) = true := decide_eq_true c3
     clear c3
     replace H := Option.bind_eq_some_iff.mp H
     obtain ⟨t219, A40, H⟩ := H
     replace H : (if x3_1.length + t219.length < 140737488355328 then (selvedgeref02_String.l0 k1 l0 (x3_1 ++ t219) (wrap64 (x4_1 + 1))) else (none)) = some r := H
     have A4 := Aside0.mk A40
     clear A40
     by_cases c5 : x3_1.length + t219.length < 140737488355328
     ·rw [if_pos c5] at H
      have LMc5 := Aside0.mk c5
      clear c5
      obtain ⟨y222, hy222⟩ : ∃ y_ : List Int, y_ = (x3_1 ++ t219) := ⟨_, rfl⟩
      replace H : (selvedgeref02_String.l0 k1 l0 y222 (wrap64 (x4_1 + 1))) = some r := by first | (rw [hy222]; with_reducible exact H) | (have H2_ := (Option.bind_some _ _).symm.trans H; rw [hy222]; with_reducible exact H2_) | (have H2_ := (Option.bind_some _ _).symm.trans H; with_reducible exact H2_) | with_reducible exact H | (rw [hy222]; exact H) | exact H
      have Ny222 := Aside0.mk hy222
      clear hy222
      have H' := Aside0.mk H
      clear H
      obtain ⟨ad218, e218, hx218_0, p218, q218⟩ := atI HR0.out x4_1
      cases e218
      replace hx218_0 := (HB.out.cell (World.block_lt_of_cell? w _ hx218_0)).trans hx218_0
      go_wp2_with (first | ((with_reducible refine gate_callee (f := 32) rfl ?_); refine goesL_ (some 16) rfl rfl Tryd.func32 (by kernel_rfl) rfl #[.int .i32 (rd l0 x4_1)] rfl (by (try simp only [List.map_toArray, List.map_cons, List.map_nil]); first | done | rfl | (simp only [List.length_drop, List.length_take]; rfl)) ?_; (with_reducible refine (selvedgeref02_One.calls k1 (rd l0 x4_1) t219 _ A4.out).mono ?_); rintro e w6 ⟨v220, rfl, ho0, hb⟩; refine ⟨_, rfl, ?_⟩; have n0_ := Aside0.mk (Kd.R_elder' (mvR HO_3) (Kd.R_base ho0) hb); have n1_ := Aside0.mk (Kd.R_lower (Kd.R_new' ho0 (Kd.R_lt (mvR HO_3))) (below_size (mvB HB))); have n2_ := Aside0.mk (below_step (mvB HB) hb); clear HO_3; clear HB; have HO_3 := n0_; have HO221 := n1_; have HB := n2_; clear n0_ n1_ n2_; (try clear hb); (try clear hb2); (try clear hk); (try clear hi); (try clear ho0); obtain ⟨Ao8, co8, eo8⟩ := Kd.R_slice HO221.out; subst eo8) | ((with_reducible refine gate_builtin (b := .append) (xs := #[.tmp 11, .tmp 16]) rfl ?_); at_builtin; refine Kd.R_append_rows (Kd.int .u8) (w0 := w) w.heap.size rfl (.tmp 11) (.tmp 16) 33 5 (.int .u8 0) 1 rfl Tryd.underlying33 info5 rfl (by decide) (by omega) u3 x3_1 t219 _ _ _ (fun k_ => some k_ ≠ (.slice Ao8 t219.length co8 : Value).ownBlock) (fun _ => False) rfl rfl ?aO ?aR (fun _ _ h => h) (fun _ h => h.elim) ?aF ?aB ?aS ?aL ?_; (case aR => repeat (first | exact (Kd.R_reads' HO221.out).2.2 | (with_reducible refine Kd.C_alloc ?_ _) | (with_reducible refine Kd.C_drewN ?_ _) | (with_reducible refine Kd.C_drew ?_))); (case aB => exact (mvB HB)); (case aF => exact (fun k_ hk => Kd.fresh' (Kd.R_lt (mvR HO221)) k_ hk)); (case aO => exact (by (with_reducible repeat (first | apply Kd.R_alloc | apply Kd.R_drewN | apply Kd.R_drew)); exact Kd.R_mono HO_3.out (fun _ hk => hk.2))); (case aS => exact (below_size (mvB HB))); (case aL => have := LMc5.out; omega); intro v223 w7 ho hb hg hat; rw [← Ny222.out] at ho; have n0_ := Aside0.mk (Kd.R_after (ok := (fun _ => True)) (mvR HO221) hg hat); have n1_ := Aside0.mk (hb); have n2_ := Aside0.mk (ho); clear HO221; clear HB; clear HO_3; have HO221 := n0_; have HB := n1_; have HO224 := n2_; clear n0_ n1_ n2_; clear ho hb hg hat))
      go_roundg k1
      case measure => have := HK1.out; omega
      case rel => exact ⟨(y222), (wrap64 (x4_1 + 1)), (by first | rfl | (simp; done) | (simp [*]; done)), H', ⟨by have := HK1.out; omega⟩, ⟨by (with_reducible repeat (first | apply Kd.R_alloc | apply Kd.R_drewN | apply Kd.R_drew)); exact Kd.R_mono HO224.out (fun _ hk => trivial)⟩, ⟨mvB HB⟩⟩
     ·rw [if_neg c5] at H
      exact absurd H (by simp)
    ·rw [if_neg c3] at H
     exact absurd H (by simp)
   ·rw [if_neg c2] at H
    have c2b0 : decide (x4_1 < (l0.length : Int)) = false := decide_eq_false c2
    clear c2
    obtain rfl := Option.some.inj H
    have hcv9 := own_string (P := Tryd.prog) Tryd.underlying33 Tryd.underlying5 Tryd.underlying9 (Kd.own_of_R HO_3.out)
    go_wp2
    go_ret
    exact ⟨by first | rfl | (simp [errW_none, errW_some] <;> rfl) | (simp [*, errW_none, errW_some] <;> rfl), mvB HB⟩

/-! ### selvedgelaw03_digits: function 17 -/
mutual
def selvedgelaw03_digits.l0 : Nat → Int → Int → Int → ByteArray → Option (ByteArray)
 | 0, _, _, _, _ => none
 | k + 1, x0, x1, x2, x7 => if x0 > 0 then (if x1 = 0 then (none) else (if 0 ≤ (Int.tmod x0 x1) then (if (Int.tmod x0 x1) ≤ (((Int.tmod x0 x1) + 1) % 4294967296) then (if (((Int.tmod x0 x1) + 1) % 4294967296) ≤ 16 then (if ((⟨#[48, 49, 50, 51, 52, 53, 54, 55, 56, 57, 97, 66, 99, 68, 101, 70]⟩ : ByteArray).extract ((Int.tmod x0 x1) : Int).toNat ((((Int.tmod x0 x1) + 1) % 4294967296) : Int).toNat).size + x7.size ≤ 9223372036854775807 then (selvedgelaw03_digits.l0 k ((Int.tdiv x0 x1) % 4294967296) x1 x2 (((⟨#[48, 49, 50, 51, 52, 53, 54, 55, 56, 57, 97, 66, 99, 68, 101, 70]⟩ : ByteArray).extract ((Int.tmod x0 x1) : Int).toNat ((((Int.tmod x0 x1) + 1) % 4294967296) : Int).toNat) ++ x7)) else (none)) else (none)) else (none)) else (none))) else (if x7.toList = ([] : List UInt8) then (if x1 = 0 then (none) else (if 0 ≤ (Int.tmod x0 x1) then (if (Int.tmod x0 x1) ≤ (((Int.tmod x0 x1) + 1) % 4294967296) then (if (((Int.tmod x0 x1) + 1) % 4294967296) ≤ 16 then (if ((⟨#[48, 49, 50, 51, 52, 53, 54, 55, 56, 57, 97, 66, 99, 68, 101, 70]⟩ : ByteArray).extract ((Int.tmod x0 x1) : Int).toNat ((((Int.tmod x0 x1) + 1) % 4294967296) : Int).toNat).size + x7.size ≤ 9223372036854775807 then (selvedgelaw03_digits.l0 k ((Int.tdiv x0 x1) % 4294967296) x1 x2 (((⟨#[48, 49, 50, 51, 52, 53, 54, 55, 56, 57, 97, 66, 99, 68, 101, 70]⟩ : ByteArray).extract ((Int.tmod x0 x1) : Int).toNat ((((Int.tmod x0 x1) + 1) % 4294967296) : Int).toNat) ++ x7)) else (none)) else (none)) else (none)) else (none))) else (selvedgelaw03_digits.l1 k x2 x7 0))
def selvedgelaw03_digits.l1 : Nat → Int → ByteArray → Int → Option (ByteArray)
 | 0, _, _, _ => none
 | k + 1, x2, x7, x9 => if x9 < (Int.tmod x2 9) then (if 1 + x7.size ≤ 9223372036854775807 then (selvedgelaw03_digits.l1 k x2 ((⟨#[48]⟩ : ByteArray) ++ x7) ((x9 + 1) % 256)) else (none)) else (some x7)
end
def selvedgelaw03_digits.f (k : Nat) (a0 : Int) (a1 : Int) (a2 : Int) : Option (ByteArray) := selvedgelaw03_digits.l0 k a0 a1 a2 (⟨#[]⟩ : ByteArray)
theorem selvedgelaw03_digits.mono_l : ∀ k, (∀ y0 y1 y2 y3, LeO (selvedgelaw03_digits.l0 k y0 y1 y2 y3) (selvedgelaw03_digits.l0 (k + 1) y0 y1 y2 y3)) ∧ (∀ y0 y1 y2, LeO (selvedgelaw03_digits.l1 k y0 y1 y2) (selvedgelaw03_digits.l1 (k + 1) y0 y1 y2))
 | 0 => ⟨fun _ _ _ _ r h => by simp [selvedgelaw03_digits.l0] at h, fun _ _ _ r h => by simp [selvedgelaw03_digits.l1] at h⟩
 | k + 1 => by
  obtain ⟨ih0, ih1⟩ := selvedgelaw03_digits.mono_l k
  refine ⟨?_, ?_⟩
  ·intro y0 y1 y2 y3
   unfold selvedgelaw03_digits.l0
   repeat' first
   | (with_reducible exact ih0 _ _ _ _)
   | (with_reducible exact ih1 _ _ _)
   | (with_reducible exact LeO.refl _)
   | (with_reducible exact LeO.none _)
   | (with_reducible refine LeO.ite ?_ ?_)
   | (with_reducible refine LeO.bind ?_ (fun _ => ?_))
   | exact ih0 _ _ _ _
   | exact ih1 _ _ _
   | exact LeO.none _
   | refine LeO.ite ?_ ?_
   | refine LeO.bind ?_ (fun _ => ?_)
  ·intro y0 y1 y2
   unfold selvedgelaw03_digits.l1
   repeat' first
   | (with_reducible exact ih0 _ _ _ _)
   | (with_reducible exact ih1 _ _ _)
   | (with_reducible exact LeO.refl _)
   | (with_reducible exact LeO.none _)
   | (with_reducible refine LeO.ite ?_ ?_)
   | (with_reducible refine LeO.bind ?_ (fun _ => ?_))
   | exact ih0 _ _ _ _
   | exact ih1 _ _ _
   | exact LeO.none _
   | refine LeO.ite ?_ ?_
   | refine LeO.bind ?_ (fun _ => ?_)
theorem selvedgelaw03_digits.mono : ∀ a0 a1 a2 k, LeO (selvedgelaw03_digits.f k a0 a1 a2) (selvedgelaw03_digits.f (k + 1) a0 a1 a2) := by
 intro a0 a1 a2 k
 obtain ⟨ih0, ih1⟩ := selvedgelaw03_digits.mono_l k
 unfold selvedgelaw03_digits.f
 repeat' first
   | (with_reducible exact ih0 _ _ _ _)
   | (with_reducible exact ih1 _ _ _)
   | (with_reducible exact LeO.refl _)
   | (with_reducible exact LeO.none _)
   | (with_reducible refine LeO.ite ?_ ?_)
   | (with_reducible refine LeO.bind ?_ (fun _ => ?_))
   | exact ih0 _ _ _ _
   | exact ih1 _ _ _
   | exact LeO.none _
   | refine LeO.ite ?_ ?_
   | refine LeO.bind ?_ (fun _ => ?_)
set_option maxHeartbeats 8000000 in
set_option maxRecDepth 100000 in
theorem selvedgelaw03_digits.calls (k : Nat) (a0 : Int) (a1 : Int) (a2 : Int) (r : ByteArray) (w : World) (h : selvedgelaw03_digits.f k a0 a1 a2 = some r) :
  Calls Tryd.prog 17 #[.int .u32 a0, .int .u32 a1, .int .u8 a2] w fun e w' => e = .returned (.string r) ∧ Drawn0 w w' := by
 have H : (selvedgelaw03_digits.l0 k a0 a1 a2 (⟨#[]⟩ : ByteArray)) = some r := h
 clear h
 have H' := Aside0.mk H
 clear H
 go_enter Tryd.func17, Tryd.ntmps17
 go_wp2
 go_loopg [0, 7] k (fun kq v0 v7 w' => ∃ (x0_1 : Int) (x7_1 : ByteArray), v0 = .int .u32 x0_1 ∧ v7 = .string x7_1 ∧ Aside0 (selvedgelaw03_digits.l0 kq x0_1 a1 a2 x7_1 = some r) ∧ Aside0 (kq ≤ k) ∧ Drawn0 w w')
 case atStart => exact ⟨(a0), ((⟨#[]⟩ : ByteArray)), (by first | rfl | (simp; done) | (simp [*]; done)), (by first | rfl | (simp; done) | (simp [*]; done)), H', ⟨Nat.le_refl _⟩, by repeat (first | exact Drawn0.refl _ | apply Drawn0.step)⟩
 case round =>
  clear H'
  try clear c1
  try clear p2
  obtain ⟨x0_1, x7_1, rfl, rfl, HA, HK1, ⟨m1, rfl⟩⟩ := hrel
  cases gk with
  | zero => exact absurd HA.out (by simp [selvedgelaw03_digits.l0])
  | succ k1 =>
   have H := HA.out
   clear HA
   simp only [selvedgelaw03_digits.l0] at H
   by_cases c4 : x0_1 > 0
   ·rw [if_pos c4] at H
    have c4b0 : decide (0 < x0_1) = true := decide_eq_true c4
    clear c4
    by_cases c5 : a1 = 0
    ·rw [if_pos c5] at H
     exact absurd H (by simp)
    ·rw [if_neg c5] at H
     have c5b0 : (a1 == 0) = false := beq_eq_false_iff_ne.mpr c5
     have c5b1 : (a1 != 0) = true := bne_iff_ne.mpr c5
     obtain ⟨ji6, hji6⟩ : ∃ j_ : Int, (Int.tmod x0_1 a1) = j_ := ⟨_, rfl⟩
     replace H : (if 0 ≤ (ji6) then (if (ji6) ≤ (((ji6) + 1) % 4294967296) then (if (((ji6) + 1) % 4294967296) ≤ 16 then (if ((⟨#[48, 49, 50, 51, 52, 53, 54, 55, 56, 57, 97, 66, 99, 68, 101, 70]⟩ : ByteArray).extract ((ji6) : Int).toNat ((((ji6) + 1) % 4294967296) : Int).toNat).size + x7_1.size ≤ 9223372036854775807 then (selvedgelaw03_digits.l0 k1 ((Int.tdiv x0_1 a1) % 4294967296) a1 a2 (((⟨#[48, 49, 50, 51, 52, 53, 54, 55, 56, 57, 97, 66, 99, 68, 101, 70]⟩ : ByteArray).extract ((ji6) : Int).toNat ((((ji6) + 1) % 4294967296) : Int).toNat) ++ x7_1)) else (none)) else (none)) else (none)) else (none)) = some r := by first | (rw [hji6] at H; exact H) | (simp only [hji6] at H ⊢; exact H)
     by_cases c7 : 0 ≤ (ji6)
     ·rw [if_pos c7] at H
      have c7b0 := eq_true c7
      have c7b1 : decide (0 ≤ (ji6)) = true := decide_eq_true c7
      clear c7
      by_cases c8 : (ji6) ≤ (((ji6) + 1) % 4294967296)
      ·rw [if_pos c8] at H
       have c8b0 := eq_true c8
       have c8b1 : decide ((ji6) ≤ (((ji6) + 1) % 4294967296)) = true := decide_eq_true c8
       by_cases c9 : (((ji6) + 1) % 4294967296) ≤ 16
       ·rw [if_pos c9] at H
        have c9b0 := eq_true c9
        have c9b1 : decide ((((ji6) + 1) % 4294967296) ≤ 16) = true := decide_eq_true c9
        by_cases c10 : ((⟨#[48, 49, 50, 51, 52, 53, 54, 55, 56, 57, 97, 66, 99, 68, 101, 70]⟩ : ByteArray).extract ((ji6) : Int).toNat ((((ji6) + 1) % 4294967296) : Int).toNat).size + x7_1.size ≤ 9223372036854775807
        ·rw [if_pos c10] at H
         have c10b0 := eq_true c10
         have c10b1 : decide (((⟨#[48, 49, 50, 51, 52, 53, 54, 55, 56, 57, 97, 66, 99, 68, 101, 70]⟩ : ByteArray).extract ((ji6) : Int).toNat ((((ji6) + 1) % 4294967296) : Int).toNat).size + x7_1.size ≤ 9223372036854775807) = true := decide_eq_true c10
         try have c10b2 : (9223372036854775807 < ((⟨#[48, 49, 50, 51, 52, 53, 54, 55, 56, 57, 97, 66, 99, 68, 101, 70]⟩ : ByteArray).extract ((ji6) : Int).toNat ((((ji6) + 1) % 4294967296) : Int).toNat).size + x7_1.size) = False := eq_false (Nat.not_lt.2 c10)
         have H' := Aside0.mk H
         clear H
         go_wp2
         go_roundg k1
         case measure => have := HK1.out; omega
         case rel => exact ⟨((Int.tdiv x0_1 a1) % 4294967296), (((⟨#[48, 49, 50, 51, 52, 53, 54, 55, 56, 57, 97, 66, 99, 68, 101, 70]⟩ : ByteArray).extract ((ji6) : Int).toNat ((((ji6) + 1) % 4294967296) : Int).toNat) ++ x7_1), (by first | rfl | (simp; done) | (simp [*]; done)), (by first | rfl | (simp; done) | (simp only [← hji6] <;> (first | rfl | simp)) | (simp [*]; done)), H', ⟨by have := HK1.out; omega⟩, by repeat (first | exact Drawn0.refl _ | apply Drawn0.step)⟩
        ·rw [if_neg c10] at H
         exact absurd H (by simp)
       ·rw [if_neg c9] at H
        exact absurd H (by simp)
      ·rw [if_neg c8] at H
       exact absurd H (by simp)
     ·rw [if_neg c7] at H
      exact absurd H (by simp)
   ·rw [if_neg c4] at H
    have c4b0 : decide (0 < x0_1) = false := decide_eq_false c4
    clear c4
    by_cases c11 : x7_1.toList = ([] : List UInt8)
    ·rw [if_pos c11] at H
     have c11b0 : (x7_1.toList == ([] : List UInt8)) = true := beq_iff_eq.mpr c11
     have c11b1 : (x7_1.toList != ([] : List UInt8)) = false := bne_eq_false_iff_eq.mpr c11
     clear c11
     by_cases c12 : a1 = 0
     ·rw [if_pos c12] at H
      exact absurd H (by simp)
     ·rw [if_neg c12] at H
      have c12b0 : (a1 == 0) = false := beq_eq_false_iff_ne.mpr c12
      have c12b1 : (a1 != 0) = true := bne_iff_ne.mpr c12
      obtain ⟨ji13, hji13⟩ : ∃ j_ : Int, (Int.tmod x0_1 a1) = j_ := ⟨_, rfl⟩
      replace H : (if 0 ≤ (ji13) then (if (ji13) ≤ (((ji13) + 1) % 4294967296) then (if (((ji13) + 1) % 4294967296) ≤ 16 then (if ((⟨#[48, 49, 50, 51, 52, 53, 54, 55, 56, 57, 97, 66, 99, 68, 101, 70]⟩ : ByteArray).extract ((ji13) : Int).toNat ((((ji13) + 1) % 4294967296) : Int).toNat).size + x7_1.size ≤ 9223372036854775807 then (selvedgelaw03_digits.l0 k1 ((Int.tdiv x0_1 a1) % 4294967296) a1 a2 (((⟨#[48, 49, 50, 51, 52, 53, 54, 55, 56, 57, 97, 66, 99, 68, 101, 70]⟩ : ByteArray).extract ((ji13) : Int).toNat ((((ji13) + 1) % 4294967296) : Int).toNat) ++ x7_1)) else (none)) else (none)) else (none)) else (none)) = some r := by first | (rw [hji13] at H; exact H) | (simp only [hji13] at H ⊢; exact H)
      by_cases c14 : 0 ≤ (ji13)
      ·rw [if_pos c14] at H
       have c14b0 := eq_true c14
       have c14b1 : decide (0 ≤ (ji13)) = true := decide_eq_true c14
       clear c14
       by_cases c15 : (ji13) ≤ (((ji13) + 1) % 4294967296)
       ·rw [if_pos c15] at H
        have c15b0 := eq_true c15
        have c15b1 : decide ((ji13) ≤ (((ji13) + 1) % 4294967296)) = true := decide_eq_true c15
        by_cases c16 : (((ji13) + 1) % 4294967296) ≤ 16
        ·rw [if_pos c16] at H
         have c16b0 := eq_true c16
         have c16b1 : decide ((((ji13) + 1) % 4294967296) ≤ 16) = true := decide_eq_true c16
         by_cases c17 : ((⟨#[48, 49, 50, 51, 52, 53, 54, 55, 56, 57, 97, 66, 99, 68, 101, 70]⟩ : ByteArray).extract ((ji13) : Int).toNat ((((ji13) + 1) % 4294967296) : Int).toNat).size + x7_1.size ≤ 9223372036854775807
         ·rw [if_pos c17] at H
          have c17b0 := eq_true c17
          have c17b1 : decide (((⟨#[48, 49, 50, 51, 52, 53, 54, 55, 56, 57, 97, 66, 99, 68, 101, 70]⟩ : ByteArray).extract ((ji13) : Int).toNat ((((ji13) + 1) % 4294967296) : Int).toNat).size + x7_1.size ≤ 9223372036854775807) = true := decide_eq_true c17
          try have c17b2 : (9223372036854775807 < ((⟨#[48, 49, 50, 51, 52, 53, 54, 55, 56, 57, 97, 66, 99, 68, 101, 70]⟩ : ByteArray).extract ((ji13) : Int).toNat ((((ji13) + 1) % 4294967296) : Int).toNat).size + x7_1.size) = False := eq_false (Nat.not_lt.2 c17)
          have H' := Aside0.mk H
          clear H
          go_wp2
          go_roundg k1
          case measure => have := HK1.out; omega
          case rel => exact ⟨((Int.tdiv x0_1 a1) % 4294967296), (((⟨#[48, 49, 50, 51, 52, 53, 54, 55, 56, 57, 97, 66, 99, 68, 101, 70]⟩ : ByteArray).extract ((ji13) : Int).toNat ((((ji13) + 1) % 4294967296) : Int).toNat) ++ x7_1), (by first | rfl | (simp; done) | (simp [*]; done)), (by first | rfl | (simp; done) | (simp only [← hji13] <;> (first | rfl | simp)) | (simp [*]; done)), H', ⟨by have := HK1.out; omega⟩, by repeat (first | exact Drawn0.refl _ | apply Drawn0.step)⟩
         ·rw [if_neg c17] at H
          exact absurd H (by simp)
        ·rw [if_neg c16] at H
         exact absurd H (by simp)
       ·rw [if_neg c15] at H
        exact absurd H (by simp)
      ·rw [if_neg c14] at H
       exact absurd H (by simp)
    ·rw [if_neg c11] at H
     have c11b0 : (x7_1.toList == ([] : List UInt8)) = false := beq_eq_false_iff_ne.mpr c11
     have c11b1 : (x7_1.toList != ([] : List UInt8)) = true := bne_iff_ne.mpr c11
     have H' := Aside0.mk H
     clear H
     go_wp2
     go_loopg [7, 9] k1 (fun kq v7 v9 w' => ∃ (x7_2 : ByteArray) (x9_2 : Int), v7 = .string x7_2 ∧ v9 = .int .u8 x9_2 ∧ Aside0 (selvedgelaw03_digits.l1 kq a2 x7_2 x9_2 = some r) ∧ Aside0 (kq ≤ k1) ∧ Drawn0 w w')
     case atStart => exact ⟨(x7_1), (0), (by first | rfl | (simp; done) | (simp [*]; done)), (by first | rfl | (simp; done) | (simp [*]; done)), H', ⟨Nat.le_refl _⟩, by repeat (first | exact Drawn0.refl _ | apply Drawn0.step)⟩
     case round =>
      clear H'
      try clear c1
      try clear p2
      try clear c4
      try clear c4b0
      try clear c5
      try clear c5b0
      try clear c5b1
      try clear c7
      try clear c7b0
      try clear c7b1
      try clear c8
      try clear c8b0
      try clear c8b1
      try clear c9
      try clear c9b0
      try clear c9b1
      try clear c10
      try clear c10b0
      try clear c10b1
      try clear c10b2
      try clear c11
      try clear c11b0
      try clear c11b1
      try clear c12
      try clear c12b0
      try clear c12b1
      try clear c14
      try clear c14b0
      try clear c14b1
      try clear c15
      try clear c15b0
      try clear c15b1
      try clear c16
      try clear c16b0
      try clear c16b1
      try clear c17
      try clear c17b0
      try clear c17b1
      try clear c17b2
      try clear p2
      obtain ⟨x7_2, x9_2, rfl, rfl, HA, HK2, ⟨m2, rfl⟩⟩ := hrel
      cases gk with
      | zero => exact absurd HA.out (by simp [selvedgelaw03_digits.l1])
      | succ k2 =>
       have H := HA.out
       clear HA
       simp only [selvedgelaw03_digits.l1] at H
       by_cases c18 : x9_2 < (Int.tmod a2 9)
       ·rw [if_pos c18] at H
        have c18b0 : decide (x9_2 < (Int.tmod a2 9)) = true := decide_eq_true c18
        clear c18
        by_cases c19 : 1 + x7_2.size ≤ 9223372036854775807
        ·rw [if_pos c19] at H
         have c19b0 := eq_true c19
         have c19b1 : decide (1 + x7_2.size ≤ 9223372036854775807) = true := decide_eq_true c19
         try have c19b2 : (9223372036854775807 < 1 + x7_2.size) = False := eq_false (Nat.not_lt.2 c19)
         have H' := Aside0.mk H
         clear H
         go_wp2
         go_roundg k2
         case measure => have := HK1.out; have := HK2.out; omega
         case rel => exact ⟨((⟨#[48]⟩ : ByteArray) ++ x7_2), ((x9_2 + 1) % 256), (by first | rfl | (simp; done) | (simp [*]; done)), (by first | rfl | (simp; done) | (simp [*]; done)), H', ⟨by have := HK1.out; have := HK2.out; omega⟩, by repeat (first | exact Drawn0.refl _ | apply Drawn0.step)⟩
        ·rw [if_neg c19] at H
         exact absurd H (by simp)
       ·rw [if_neg c18] at H
        have c18b0 : decide (x9_2 < (Int.tmod a2 9)) = false := decide_eq_false c18
        clear c18
        obtain rfl := Option.some.inj H
        go_wp2
        go_ret
        exact ⟨by first | rfl | (simp; done) | (simp [*]; done), by repeat (first | exact Drawn0.refl _ | apply Drawn0.step)⟩

/-! ### selvedgelaw03_CharrefNumbers: function 6 -/
def selvedgelaw03_CharrefNumbers.j0 : Nat → Int → Int → ByteArray → Bool → Option (Bool)
 | 0, _, _, _, _ => none
 | k + 1, x0, x1, x5, x20 => if x20 = true then ((selvedgelaw03_works.f k).bind fun t229 => (some t229)) else ((selvedgelaw03_digits.f k ((x0) % 4294967296) 10 x1).bind fun t230 => (if 2 + t230.size ≤ 9223372036854775807 then ((selvedgelaw03_digits.f k ((x0) % 4294967296) 16 x1).bind fun t231 => (if 3 + t231.size ≤ 9223372036854775807 then (if ((⟨#[38, 35]⟩ : ByteArray) ++ t230).size + 1 ≤ 9223372036854775807 then (if (((⟨#[38, 35]⟩ : ByteArray) ++ t230) ++ (⟨#[59]⟩ : ByteArray)).size + ((⟨#[38, 35, 120]⟩ : ByteArray) ++ t231).size ≤ 9223372036854775807 then (if ((((⟨#[38, 35]⟩ : ByteArray) ++ t230) ++ (⟨#[59]⟩ : ByteArray)) ++ ((⟨#[38, 35, 120]⟩ : ByteArray) ++ t231)).size + 1 ≤ 9223372036854775807 then ((charref_Decode.f k (((((⟨#[38, 35]⟩ : ByteArray) ++ t230) ++ (⟨#[59]⟩ : ByteArray)) ++ ((⟨#[38, 35, 120]⟩ : ByteArray) ++ t231)) ++ (⟨#[59]⟩ : ByteArray)) false).bind fun t232 => (if x5.size + x5.size ≤ 9223372036854775807 then (if t232.toList = (x5 ++ x5).toList then (if (((⟨#[38, 35]⟩ : ByteArray) ++ t230) ++ (⟨#[33]⟩ : ByteArray)).size + ((⟨#[38, 35, 120]⟩ : ByteArray) ++ t231).size ≤ 9223372036854775807 then (if ((((⟨#[38, 35]⟩ : ByteArray) ++ t230) ++ (⟨#[33]⟩ : ByteArray)) ++ ((⟨#[38, 35, 120]⟩ : ByteArray) ++ t231)).size + 1 ≤ 9223372036854775807 then (if (((((⟨#[38, 35]⟩ : ByteArray) ++ t230) ++ (⟨#[33]⟩ : ByteArray)) ++ ((⟨#[38, 35, 120]⟩ : ByteArray) ++ t231)) ++ (⟨#[32]⟩ : ByteArray)).size + ((⟨#[38, 35, 120]⟩ : ByteArray) ++ t231).size ≤ 9223372036854775807 then ((charref_Decode.f k ((((((⟨#[38, 35]⟩ : ByteArray) ++ t230) ++ (⟨#[33]⟩ : ByteArray)) ++ ((⟨#[38, 35, 120]⟩ : ByteArray) ++ t231)) ++ (⟨#[32]⟩ : ByteArray)) ++ ((⟨#[38, 35, 120]⟩ : ByteArray) ++ t231)) true).bind fun t233 => (if x5.size + 1 ≤ 9223372036854775807 then (if (x5 ++ (⟨#[33]⟩ : ByteArray)).size + x5.size ≤ 9223372036854775807 then (if ((x5 ++ (⟨#[33]⟩ : ByteArray)) ++ x5).size + 1 ≤ 9223372036854775807 then (if (((x5 ++ (⟨#[33]⟩ : ByteArray)) ++ x5) ++ (⟨#[32]⟩ : ByteArray)).size + x5.size ≤ 9223372036854775807 then (if t233.toList = ((((x5 ++ (⟨#[33]⟩ : ByteArray)) ++ x5) ++ (⟨#[32]⟩ : ByteArray)) ++ x5).toList then ((selvedgelaw03_works.f k).bind fun t234 => (some t234)) else (some false)) else (none)) else (none)) else (none)) else (none))) else (none)) else (none)) else (none)) else (some false)) else (none))) else (none)) else (none)) else (none)) else (none))) else (none)))
def selvedgelaw03_CharrefNumbers.f (k : Nat) (a0 : Int) (a1 : Int) : Option (Bool) := (selvedgeref02_String.f k (([a0] : List Int))).bind fun t228 => (if a0 ≤ 0 then (selvedgelaw03_CharrefNumbers.j0 k a0 a1 t228 true) else (if a0 ≥ 128 then (selvedgelaw03_CharrefNumbers.j0 k a0 a1 t228 (decide (a0 ≤ 159))) else (selvedgelaw03_CharrefNumbers.j0 k a0 a1 t228 false)))
theorem selvedgelaw03_CharrefNumbers.mono_l : ∀ k, (∀ y0 y1 y2 y3, LeO (selvedgelaw03_CharrefNumbers.j0 k y0 y1 y2 y3) (selvedgelaw03_CharrefNumbers.j0 (k + 1) y0 y1 y2 y3))
 | 0 => fun _ _ _ _ r h => by simp [selvedgelaw03_CharrefNumbers.j0] at h
 | k + 1 => by
  have ih0 := selvedgelaw03_CharrefNumbers.mono_l k
  ·intro y0 y1 y2 y3
   unfold selvedgelaw03_CharrefNumbers.j0
   repeat' first
   | (with_reducible exact ih0 _ _ _ _)
   | (with_reducible exact charref_Decode.mono _ _ _)
   | (with_reducible exact selvedgelaw03_digits.mono _ _ _ _)
   | (with_reducible exact selvedgelaw03_works.mono _)
   | (with_reducible exact selvedgeref02_String.mono _ _)
   | (with_reducible exact LeO.refl _)
   | (with_reducible exact LeO.none _)
   | (with_reducible refine LeO.ite ?_ ?_)
   | (with_reducible refine LeO.bind ?_ (fun _ => ?_))
   | exact ih0 _ _ _ _
   | exact charref_Decode.mono _ _ _
   | exact selvedgelaw03_digits.mono _ _ _ _
   | exact selvedgelaw03_works.mono _
   | exact selvedgeref02_String.mono _ _
   | exact LeO.none _
   | refine LeO.ite ?_ ?_
   | refine LeO.bind ?_ (fun _ => ?_)
theorem selvedgelaw03_CharrefNumbers.mono : ∀ a0 a1 k, LeO (selvedgelaw03_CharrefNumbers.f k a0 a1) (selvedgelaw03_CharrefNumbers.f (k + 1) a0 a1) := by
 intro a0 a1 k
 have ih0 := selvedgelaw03_CharrefNumbers.mono_l k
 unfold selvedgelaw03_CharrefNumbers.f
 repeat' first
   | (with_reducible exact ih0 _ _ _ _)
   | (with_reducible exact charref_Decode.mono _ _ _)
   | (with_reducible exact selvedgelaw03_digits.mono _ _ _ _)
   | (with_reducible exact selvedgelaw03_works.mono _)
   | (with_reducible exact selvedgeref02_String.mono _ _)
   | (with_reducible exact LeO.refl _)
   | (with_reducible exact LeO.none _)
   | (with_reducible refine LeO.ite ?_ ?_)
   | (with_reducible refine LeO.bind ?_ (fun _ => ?_))
   | exact ih0 _ _ _ _
   | exact charref_Decode.mono _ _ _
   | exact selvedgelaw03_digits.mono _ _ _ _
   | exact selvedgelaw03_works.mono _
   | exact selvedgeref02_String.mono _ _
   | exact LeO.none _
   | refine LeO.ite ?_ ?_
   | refine LeO.bind ?_ (fun _ => ?_)
set_option maxHeartbeats 8000000 in
set_option maxRecDepth 100000 in
theorem selvedgelaw03_CharrefNumbers.calls (k : Nat) (a0 : Int) (a1 : Int) (r : Bool) (w : World) (h : selvedgelaw03_CharrefNumbers.f k a0 a1 = some r) (hT : Tabs w) :
  Calls Tryd.prog 6 #[.int .i32 a0, .int .u8 a1] w fun e w' => e = .returned (.bool r) ∧ Below w.heap.size w w' := by
 have HT := Aside0.mk hT
 clear hT
 have HB := Aside0.mk (Below.refl w.heap.size w)
 have H : ((selvedgeref02_String.f k (([a0] : List Int))).bind fun t228 => (if a0 ≤ 0 then (selvedgelaw03_CharrefNumbers.j0 k a0 a1 t228 true) else (if a0 ≥ 128 then (selvedgelaw03_CharrefNumbers.j0 k a0 a1 t228 (decide (a0 ≤ 159))) else (selvedgelaw03_CharrefNumbers.j0 k a0 a1 t228 false)))) = some r := h
 clear h
 obtain ⟨y225, hy225⟩ : ∃ y_ : List Int, y_ = (([a0] : List Int)) := ⟨_, rfl⟩
 replace H : ((selvedgeref02_String.f k y225).bind fun t228 => (if a0 ≤ 0 then (selvedgelaw03_CharrefNumbers.j0 k a0 a1 t228 true) else (if a0 ≥ 128 then (selvedgelaw03_CharrefNumbers.j0 k a0 a1 t228 (decide (a0 ≤ 159))) else (selvedgelaw03_CharrefNumbers.j0 k a0 a1 t228 false)))) = some r := by first | (rw [hy225]; with_reducible exact H) | (have H2_ := (Option.bind_some _ _).symm.trans H; rw [hy225]; with_reducible exact H2_) | (have H2_ := (Option.bind_some _ _).symm.trans H; with_reducible exact H2_) | with_reducible exact H | (rw [hy225]; exact H) | exact H
 have Ny225 := Aside0.mk hy225
 clear hy225
 replace H := Option.bind_eq_some_iff.mp H
 obtain ⟨t228, A30, H⟩ := H
 replace H : (if a0 ≤ 0 then (selvedgelaw03_CharrefNumbers.j0 k a0 a1 t228 true) else (if a0 ≥ 128 then (selvedgelaw03_CharrefNumbers.j0 k a0 a1 t228 (decide (a0 ≤ 159))) else (selvedgelaw03_CharrefNumbers.j0 k a0 a1 t228 false))) = some r := H
 have A3 := Aside0.mk A30
 clear A30
 have HC4 := Aside0.mk H
 clear H
 go_enter Tryd.func6, Tryd.ntmps6
 go_upto_region 2 with (first | ((with_reducible refine gate_dst (N := 9) rfl ?_); refine Kd.R_lit (Kd.int .i32) _ 21 ?hg (N := 9) ?hd (xs := ([a0] : List Int)) (inner := [.int .i32 a0]) (ok := fun _ => True) (okp := fun _ => True) ?hr ?hp (fun _ hk => hk) trivial (Below.refl _ _) (Nat.le_refl _) (by simp) ?_; (case hd => rfl); (case hg => rfl); (case hr => first | (go_simp; done) | (go_simp; rfl)); (case hp => exact (Reps.one (show Kd.M (Kd.int .i32) _ _ _ a0 [.int .i32 a0] from rfl) (Reps.none _ _))); intro v226 w5 ho6 hb hg_ hnew_; clear hg_ hnew_; (first | rw [← Ny225.out] at ho6 | (simp only [Int.reduceToNat] at ho6; rw [← Ny225.out] at ho6)); have n0_ := Aside0.mk (Kd.R_lower ho6 (below_size (mvB HB))); have n1_ := Aside0.mk (below_step (mvB HB) hb); clear HB; have HO227 := n0_; have HB := n1_; clear n0_ n1_; clear hb ho6; obtain ⟨Ao7, co7, eo7⟩ := Kd.R_slice HO227.out; subst eo7) | ((with_reducible refine gate_callee (f := 16) rfl ?_); refine goesL_ (some 10) rfl rfl Tryd.func16 (by kernel_rfl) rfl #[.slice Ao7 y225.length co7] rfl (by (try simp only [List.map_toArray, List.map_cons, List.map_nil]); first | done | rfl | (simp only [List.length_drop, List.length_take]; rfl)) ?_; (with_reducible refine (selvedgeref02_String.calls k _ _ y225 t228 _ ?side1 ?side2 A3.out).mono ?_); (case side1 => repeat (first | exact (Kd.R_reads' HO227.out).2.2 | (with_reducible refine Kd.C_alloc ?_ _) | (with_reducible refine Kd.C_drewN ?_ _) | (with_reducible refine Kd.C_drew ?_))); (case side2 => exact (Kd.R_reads' HO227.out).2.1); rintro e w8 ⟨rfl, hb⟩; refine ⟨_, rfl, ?_⟩; have n0_ := Aside0.mk (Kd.R_below (mvR HO227) hb); have n1_ := Aside0.mk (below_step (mvB HB) hb); clear HO227; clear HB; have HO227 := n0_; have HB := n1_; clear n0_ n1_; (try clear hb); (try clear hb2); (try clear hk); (try clear hi)))
 (try simp only [Act.put, List.setIfInBounds_toArray, List.set_cons_zero, List.set_cons_succ])
 go_cut [20] (fun v20 wc => ∃ (kq : Nat) (x20_3 : Bool), v20 = .bool x20_3 ∧ Aside0 (selvedgelaw03_CharrefNumbers.j0 kq a0 a1 t228 x20_3 = some r) ∧ Aside0 (kq ≤ k) ∧ Aside0 (Below w.heap.size w wc))
 case first =>
  have H := HC4.out
  clear HC4
  by_cases c9 : a0 ≤ 0
  ·rw [if_pos c9] at H
   have c9b0 : decide (a0 ≤ 0) = true := decide_eq_true c9
   clear c9
   (first | rw [c9b0] | (simp only [i64_w, i32_w]; rw [c9b0]) | skip)
   have H' := Aside0.mk H
   clear H
   go_wp2
   go_meet
   case rel => exact ⟨_, (true), (by first | rfl | (simp; done) | (simp [*]; done)), H', ⟨by first | omega | exact Nat.le_refl _⟩, ⟨mvB HB⟩⟩
  ·rw [if_neg c9] at H
   have c9b0 : decide (a0 ≤ 0) = false := decide_eq_false c9
   clear c9
   (first | rw [c9b0] | (simp only [i64_w, i32_w]; rw [c9b0]) | skip)
   by_cases c10 : a0 ≥ 128
   ·rw [if_pos c10] at H
    have c10b0 : decide (128 ≤ a0) = true := decide_eq_true c10
    clear c10
    have H' := Aside0.mk H
    clear H
    go_wp2
    go_meet
    case rel => exact ⟨_, (decide (a0 ≤ 159)), (by first | rfl | (simp; done) | (simp [*]; done)), H', ⟨by first | omega | exact Nat.le_refl _⟩, ⟨mvB HB⟩⟩
   ·rw [if_neg c10] at H
    have c10b0 : decide (128 ≤ a0) = false := decide_eq_false c10
    clear c10
    have H' := Aside0.mk H
    clear H
    go_wp2
    go_meet
    case rel => exact ⟨_, (false), (by first | rfl | (simp; done) | (simp [*]; done)), H', ⟨by first | omega | exact Nat.le_refl _⟩, ⟨mvB HB⟩⟩
 case rest =>
  clear HC4
  try clear c1
  try clear p2
  try clear c6
  try clear c9
  try clear c9b0
  try clear c10
  try clear c10b0
  obtain ⟨kq, x20_3, rfl, HA, HJ3, HB⟩ := hcut
  cases kq with
  | zero => exact absurd HA.out (by simp [selvedgelaw03_CharrefNumbers.j0])
  | succ kj3 =>
   have H := HA.out
   clear HA
   simp only [selvedgelaw03_CharrefNumbers.j0] at H
   by_cases c11 : x20_3 = true
   ·subst c11
    have H1 : ((selvedgelaw03_works.f kj3).bind fun t229 => (some t229)) = some r := by rw [if_pos rfl] at H; exact H
    clear H
    have H := H1
    clear H1
    replace H := Option.bind_eq_some_iff.mp H
    obtain ⟨t229, A120, H⟩ := H
    replace H : (some t229) = some r := H
    have A12 := Aside0.mk A120
    clear A120
    obtain rfl := Option.some.inj H
    go_wp2_with (first | ((with_reducible refine gate_callee (f := 10) rfl ?_); refine goesL_ (some 21) rfl rfl Tryd.func10 (by kernel_rfl) rfl #[] rfl (by (try simp only [List.map_toArray, List.map_cons, List.map_nil]); first | done | rfl | (simp only [List.length_drop, List.length_take]; rfl)) ?_; (with_reducible refine (selvedgelaw03_works.calls kj3  t229 _ A12.out (by exact HT.out.below (mvB HB))).mono ?_); rintro e w13 ⟨rfl, hb⟩; refine ⟨_, rfl, ?_⟩; have n0_ := Aside0.mk (below_step (mvB HB) hb); clear HB; have HB := n0_; clear n0_; (try clear hb); (try clear hb2); (try clear hk); (try clear hi)))
    go_ret
    exact ⟨by first | rfl | (simp [errW_none, errW_some] <;> rfl) | (simp [*, errW_none, errW_some] <;> rfl), mvB HB⟩
   ·replace c11 := Bool.eq_false_iff.mpr c11
    subst c11
    have H1 : ((selvedgelaw03_digits.f kj3 ((a0) % 4294967296) 10 a1).bind fun t230 => (if 2 + t230.size ≤ 9223372036854775807 then ((selvedgelaw03_digits.f kj3 ((a0) % 4294967296) 16 a1).bind fun t231 => (if 3 + t231.size ≤ 9223372036854775807 then (if ((⟨#[38, 35]⟩ : ByteArray) ++ t230).size + 1 ≤ 9223372036854775807 then (if (((⟨#[38, 35]⟩ : ByteArray) ++ t230) ++ (⟨#[59]⟩ : ByteArray)).size + ((⟨#[38, 35, 120]⟩ : ByteArray) ++ t231).size ≤ 9223372036854775807 then (if ((((⟨#[38, 35]⟩ : ByteArray) ++ t230) ++ (⟨#[59]⟩ : ByteArray)) ++ ((⟨#[38, 35, 120]⟩ : ByteArray) ++ t231)).size + 1 ≤ 9223372036854775807 then ((charref_Decode.f kj3 (((((⟨#[38, 35]⟩ : ByteArray) ++ t230) ++ (⟨#[59]⟩ : ByteArray)) ++ ((⟨#[38, 35, 120]⟩ : ByteArray) ++ t231)) ++ (⟨#[59]⟩ : ByteArray)) false).bind fun t232 => (if t228.size + t228.size ≤ 9223372036854775807 then (if t232.toList = (t228 ++ t228).toList then (if (((⟨#[38, 35]⟩ : ByteArray) ++ t230) ++ (⟨#[33]⟩ : ByteArray)).size + ((⟨#[38, 35, 120]⟩ : ByteArray) ++ t231).size ≤ 9223372036854775807 then (if ((((⟨#[38, 35]⟩ : ByteArray) ++ t230) ++ (⟨#[33]⟩ : ByteArray)) ++ ((⟨#[38, 35, 120]⟩ : ByteArray) ++ t231)).size + 1 ≤ 9223372036854775807 then (if (((((⟨#[38, 35]⟩ : ByteArray) ++ t230) ++ (⟨#[33]⟩ : ByteArray)) ++ ((⟨#[38, 35, 120]⟩ : ByteArray) ++ t231)) ++ (⟨#[32]⟩ : ByteArray)).size + ((⟨#[38, 35, 120]⟩ : ByteArray) ++ t231).size ≤ 9223372036854775807 then ((charref_Decode.f kj3 ((((((⟨#[38, 35]⟩ : ByteArray) ++ t230) ++ (⟨#[33]⟩ : ByteArray)) ++ ((⟨#[38, 35, 120]⟩ : ByteArray) ++ t231)) ++ (⟨#[32]⟩ : ByteArray)) ++ ((⟨#[38, 35, 120]⟩ : ByteArray) ++ t231)) true).bind fun t233 => (if t228.size + 1 ≤ 9223372036854775807 then (if (t228 ++ (⟨#[33]⟩ : ByteArray)).size + t228.size ≤ 9223372036854775807 then (if ((t228 ++ (⟨#[33]⟩ : ByteArray)) ++ t228).size + 1 ≤ 9223372036854775807 then (if (((t228 ++ (⟨#[33]⟩ : ByteArray)) ++ t228) ++ (⟨#[32]⟩ : ByteArray)).size + t228.size ≤ 9223372036854775807 then (if t233.toList = ((((t228 ++ (⟨#[33]⟩ : ByteArray)) ++ t228) ++ (⟨#[32]⟩ : ByteArray)) ++ t228).toList then ((selvedgelaw03_works.f kj3).bind fun t234 => (some t234)) else (some false)) else (none)) else (none)) else (none)) else (none))) else (none)) else (none)) else (none)) else (some false)) else (none))) else (none)) else (none)) else (none)) else (none))) else (none))) = some r := by rw [if_neg (show ¬ (false = true) by decide)] at H; exact H
    clear H
    have H := H1
    clear H1
    replace H := Option.bind_eq_some_iff.mp H
    obtain ⟨t230, A140, H⟩ := H
    replace H : (if 2 + t230.size ≤ 9223372036854775807 then ((selvedgelaw03_digits.f kj3 ((a0) % 4294967296) 16 a1).bind fun t231 => (if 3 + t231.size ≤ 9223372036854775807 then (if ((⟨#[38, 35]⟩ : ByteArray) ++ t230).size + 1 ≤ 9223372036854775807 then (if (((⟨#[38, 35]⟩ : ByteArray) ++ t230) ++ (⟨#[59]⟩ : ByteArray)).size + ((⟨#[38, 35, 120]⟩ : ByteArray) ++ t231).size ≤ 9223372036854775807 then (if ((((⟨#[38, 35]⟩ : ByteArray) ++ t230) ++ (⟨#[59]⟩ : ByteArray)) ++ ((⟨#[38, 35, 120]⟩ : ByteArray) ++ t231)).size + 1 ≤ 9223372036854775807 then ((charref_Decode.f kj3 (((((⟨#[38, 35]⟩ : ByteArray) ++ t230) ++ (⟨#[59]⟩ : ByteArray)) ++ ((⟨#[38, 35, 120]⟩ : ByteArray) ++ t231)) ++ (⟨#[59]⟩ : ByteArray)) false).bind fun t232 => (if t228.size + t228.size ≤ 9223372036854775807 then (if t232.toList = (t228 ++ t228).toList then (if (((⟨#[38, 35]⟩ : ByteArray) ++ t230) ++ (⟨#[33]⟩ : ByteArray)).size + ((⟨#[38, 35, 120]⟩ : ByteArray) ++ t231).size ≤ 9223372036854775807 then (if ((((⟨#[38, 35]⟩ : ByteArray) ++ t230) ++ (⟨#[33]⟩ : ByteArray)) ++ ((⟨#[38, 35, 120]⟩ : ByteArray) ++ t231)).size + 1 ≤ 9223372036854775807 then (if (((((⟨#[38, 35]⟩ : ByteArray) ++ t230) ++ (⟨#[33]⟩ : ByteArray)) ++ ((⟨#[38, 35, 120]⟩ : ByteArray) ++ t231)) ++ (⟨#[32]⟩ : ByteArray)).size + ((⟨#[38, 35, 120]⟩ : ByteArray) ++ t231).size ≤ 9223372036854775807 then ((charref_Decode.f kj3 ((((((⟨#[38, 35]⟩ : ByteArray) ++ t230) ++ (⟨#[33]⟩ : ByteArray)) ++ ((⟨#[38, 35, 120]⟩ : ByteArray) ++ t231)) ++ (⟨#[32]⟩ : ByteArray)) ++ ((⟨#[38, 35, 120]⟩ : ByteArray) ++ t231)) true).bind fun t233 => (if t228.size + 1 ≤ 9223372036854775807 then (if (t228 ++ (⟨#[33]⟩ : ByteArray)).size + t228.size ≤ 9223372036854775807 then (if ((t228 ++ (⟨#[33]⟩ : ByteArray)) ++ t228).size + 1 ≤ 9223372036854775807 then (if (((t228 ++ (⟨#[33]⟩ : ByteArray)) ++ t228) ++ (⟨#[32]⟩ : ByteArray)).size + t228.size ≤ 9223372036854775807 then (if t233.toList = ((((t228 ++ (⟨#[33]⟩ : ByteArray)) ++ t228) ++ (⟨#[32]⟩ : ByteArray)) ++ t228).toList then ((selvedgelaw03_works.f kj3).bind fun t234 => (some t234)) else (some false)) else (none)) else (none)) else (none)) else (none))) else (none)) else (none)) else (none)) else (some false)) else (none))) else (none)) else (none)) else (none)) else (none))) else (none)) = some r := H
    have A14 := Aside0.mk A140
    clear A140
    by_cases c15 : 2 + t230.size ≤ 9223372036854775807
    ·rw [if_pos c15] at H
     have c15b0 := eq_true c15
     have c15b1 : decide (2 + t230.size ≤ 9223372036854775807) = true := decide_eq_true c15
     try have c15b2 : (9223372036854775807 < 2 + t230.size) = False := eq_false (Nat.not_lt.2 c15)
     replace H := Option.bind_eq_some_iff.mp H
     obtain ⟨t231, A160, H⟩ := H
     replace H : (if 3 + t231.size ≤ 9223372036854775807 then (if ((⟨#[38, 35]⟩ : ByteArray) ++ t230).size + 1 ≤ 9223372036854775807 then (if (((⟨#[38, 35]⟩ : ByteArray) ++ t230) ++ (⟨#[59]⟩ : ByteArray)).size + ((⟨#[38, 35, 120]⟩ : ByteArray) ++ t231).size ≤ 9223372036854775807 then (if ((((⟨#[38, 35]⟩ : ByteArray) ++ t230) ++ (⟨#[59]⟩ : ByteArray)) ++ ((⟨#[38, 35, 120]⟩ : ByteArray) ++ t231)).size + 1 ≤ 9223372036854775807 then ((charref_Decode.f kj3 (((((⟨#[38, 35]⟩ : ByteArray) ++ t230) ++ (⟨#[59]⟩ : ByteArray)) ++ ((⟨#[38, 35, 120]⟩ : ByteArray) ++ t231)) ++ (⟨#[59]⟩ : ByteArray)) false).bind fun t232 => (if t228.size + t228.size ≤ 9223372036854775807 then (if t232.toList = (t228 ++ t228).toList then (if (((⟨#[38, 35]⟩ : ByteArray) ++ t230) ++ (⟨#[33]⟩ : ByteArray)).size + ((⟨#[38, 35, 120]⟩ : ByteArray) ++ t231).size ≤ 9223372036854775807 then (if ((((⟨#[38, 35]⟩ : ByteArray) ++ t230) ++ (⟨#[33]⟩ : ByteArray)) ++ ((⟨#[38, 35, 120]⟩ : ByteArray) ++ t231)).size + 1 ≤ 9223372036854775807 then (if (((((⟨#[38, 35]⟩ : ByteArray) ++ t230) ++ (⟨#[33]⟩ : ByteArray)) ++ ((⟨#[38, 35, 120]⟩ : ByteArray) ++ t231)) ++ (⟨#[32]⟩ : ByteArray)).size + ((⟨#[38, 35, 120]⟩ : ByteArray) ++ t231).size ≤ 9223372036854775807 then ((charref_Decode.f kj3 ((((((⟨#[38, 35]⟩ : ByteArray) ++ t230) ++ (⟨#[33]⟩ : ByteArray)) ++ ((⟨#[38, 35, 120]⟩ : ByteArray) ++ t231)) ++ (⟨#[32]⟩ : ByteArray)) ++ ((⟨#[38, 35, 120]⟩ : ByteArray) ++ t231)) true).bind fun t233 => (if t228.size + 1 ≤ 9223372036854775807 then (if (t228 ++ (⟨#[33]⟩ : ByteArray)).size + t228.size ≤ 9223372036854775807 then (if ((t228 ++ (⟨#[33]⟩ : ByteArray)) ++ t228).size + 1 ≤ 9223372036854775807 then (if (((t228 ++ (⟨#[33]⟩ : ByteArray)) ++ t228) ++ (⟨#[32]⟩ : ByteArray)).size + t228.size ≤ 9223372036854775807 then (if t233.toList = ((((t228 ++ (⟨#[33]⟩ : ByteArray)) ++ t228) ++ (⟨#[32]⟩ : ByteArray)) ++ t228).toList then ((selvedgelaw03_works.f kj3).bind fun t234 => (some t234)) else (some false)) else (none)) else (none)) else (none)) else (none))) else (none)) else (none)) else (none)) else (some false)) else (none))) else (none)) else (none)) else (none)) else (none)) = some r := H
     have A16 := Aside0.mk A160
     clear A160
     by_cases c17 : 3 + t231.size ≤ 9223372036854775807
     ·rw [if_pos c17] at H
      have c17b0 := eq_true c17
      have c17b1 : decide (3 + t231.size ≤ 9223372036854775807) = true := decide_eq_true c17
      try have c17b2 : (9223372036854775807 < 3 + t231.size) = False := eq_false (Nat.not_lt.2 c17)
      by_cases c18 : ((⟨#[38, 35]⟩ : ByteArray) ++ t230).size + 1 ≤ 9223372036854775807
      ·rw [if_pos c18] at H
       have c18b0 := eq_true c18
       have c18b1 : decide (((⟨#[38, 35]⟩ : ByteArray) ++ t230).size + 1 ≤ 9223372036854775807) = true := decide_eq_true c18
       try have c18b2 : (9223372036854775807 < ((⟨#[38, 35]⟩ : ByteArray) ++ t230).size + 1) = False := eq_false (Nat.not_lt.2 c18)
       try have c18b3 : (9223372036854775807 < 2 + t230.size + 1) = False := eq_false (by have z_ := c18; simp only [ByteArray.size_append, show (⟨#[38, 35]⟩ : ByteArray).size = 2 from rfl] at z_; omega)
       by_cases c19 : (((⟨#[38, 35]⟩ : ByteArray) ++ t230) ++ (⟨#[59]⟩ : ByteArray)).size + ((⟨#[38, 35, 120]⟩ : ByteArray) ++ t231).size ≤ 9223372036854775807
       ·rw [if_pos c19] at H
        have c19b0 := eq_true c19
        have c19b1 : decide ((((⟨#[38, 35]⟩ : ByteArray) ++ t230) ++ (⟨#[59]⟩ : ByteArray)).size + ((⟨#[38, 35, 120]⟩ : ByteArray) ++ t231).size ≤ 9223372036854775807) = true := decide_eq_true c19
        try have c19b2 : (9223372036854775807 < (((⟨#[38, 35]⟩ : ByteArray) ++ t230) ++ (⟨#[59]⟩ : ByteArray)).size + ((⟨#[38, 35, 120]⟩ : ByteArray) ++ t231).size) = False := eq_false (Nat.not_lt.2 c19)
        try have c19b3 : (9223372036854775807 < 2 + t230.size + 1 + (3 + t231.size)) = False := eq_false (by have z_ := c19; simp only [ByteArray.size_append, show (⟨#[38, 35]⟩ : ByteArray).size = 2 from rfl, show (⟨#[38, 35, 120]⟩ : ByteArray).size = 3 from rfl, show (⟨#[59]⟩ : ByteArray).size = 1 from rfl] at z_; omega)
        by_cases c20 : ((((⟨#[38, 35]⟩ : ByteArray) ++ t230) ++ (⟨#[59]⟩ : ByteArray)) ++ ((⟨#[38, 35, 120]⟩ : ByteArray) ++ t231)).size + 1 ≤ 9223372036854775807
        ·rw [if_pos c20] at H
         have c20b0 := eq_true c20
         have c20b1 : decide (((((⟨#[38, 35]⟩ : ByteArray) ++ t230) ++ (⟨#[59]⟩ : ByteArray)) ++ ((⟨#[38, 35, 120]⟩ : ByteArray) ++ t231)).size + 1 ≤ 9223372036854775807) = true := decide_eq_true c20
         try have c20b2 : (9223372036854775807 < ((((⟨#[38, 35]⟩ : ByteArray) ++ t230) ++ (⟨#[59]⟩ : ByteArray)) ++ ((⟨#[38, 35, 120]⟩ : ByteArray) ++ t231)).size + 1) = False := eq_false (Nat.not_lt.2 c20)
         try have c20b3 : (9223372036854775807 < 2 + t230.size + 1 + (3 + t231.size) + 1) = False := eq_false (by have z_ := c20; simp only [ByteArray.size_append, show (⟨#[38, 35]⟩ : ByteArray).size = 2 from rfl, show (⟨#[38, 35, 120]⟩ : ByteArray).size = 3 from rfl, show (⟨#[59]⟩ : ByteArray).size = 1 from rfl] at z_; omega)
         replace H := Option.bind_eq_some_iff.mp H
         obtain ⟨t232, A210, H⟩ := H
         replace H : (if t228.size + t228.size ≤ 9223372036854775807 then (if t232.toList = (t228 ++ t228).toList then (if (((⟨#[38, 35]⟩ : ByteArray) ++ t230) ++ (⟨#[33]⟩ : ByteArray)).size + ((⟨#[38, 35, 120]⟩ : ByteArray) ++ t231).size ≤ 9223372036854775807 then (if ((((⟨#[38, 35]⟩ : ByteArray) ++ t230) ++ (⟨#[33]⟩ : ByteArray)) ++ ((⟨#[38, 35, 120]⟩ : ByteArray) ++ t231)).size + 1 ≤ 9223372036854775807 then (if (((((⟨#[38, 35]⟩ : ByteArray) ++ t230) ++ (⟨#[33]⟩ : ByteArray)) ++ ((⟨#[38, 35, 120]⟩ : ByteArray) ++ t231)) ++ (⟨#[32]⟩ : ByteArray)).size + ((⟨#[38, 35, 120]⟩ : ByteArray) ++ t231).size ≤ 9223372036854775807 then ((charref_Decode.f kj3 ((((((⟨#[38, 35]⟩ : ByteArray) ++ t230) ++ (⟨#[33]⟩ : ByteArray)) ++ ((⟨#[38, 35, 120]⟩ : ByteArray) ++ t231)) ++ (⟨#[32]⟩ : ByteArray)) ++ ((⟨#[38, 35, 120]⟩ : ByteArray) ++ t231)) true).bind fun t233 => (if t228.size + 1 ≤ 9223372036854775807 then (if (t228 ++ (⟨#[33]⟩ : ByteArray)).size + t228.size ≤ 9223372036854775807 then (if ((t228 ++ (⟨#[33]⟩ : ByteArray)) ++ t228).size + 1 ≤ 9223372036854775807 then (if (((t228 ++ (⟨#[33]⟩ : ByteArray)) ++ t228) ++ (⟨#[32]⟩ : ByteArray)).size + t228.size ≤ 9223372036854775807 then (if t233.toList = ((((t228 ++ (⟨#[33]⟩ : ByteArray)) ++ t228) ++ (⟨#[32]⟩ : ByteArray)) ++ t228).toList then ((selvedgelaw03_works.f kj3).bind fun t234 => (some t234)) else (some false)) else (none)) else (none)) else (none)) else (none))) else (none)) else (none)) else (none)) else (some false)) else (none)) = some r := H
         have A21 := Aside0.mk A210
         clear A210
         by_cases c22 : t228.size + t228.size ≤ 9223372036854775807
         ·rw [if_pos c22] at H
          have c22b0 := eq_true c22
          have c22b1 : decide (t228.size + t228.size ≤ 9223372036854775807) = true := decide_eq_true c22
          try have c22b2 : (9223372036854775807 < t228.size + t228.size) = False := eq_false (Nat.not_lt.2 c22)
          by_cases c23 : t232.toList = (t228 ++ t228).toList
          ·rw [if_pos c23] at H
           have c23b0 : (t232.toList == (t228 ++ t228).toList) = true := beq_iff_eq.mpr c23
           have c23b1 : (t232.toList != (t228 ++ t228).toList) = false := bne_eq_false_iff_eq.mpr c23
           clear c23
           by_cases c24 : (((⟨#[38, 35]⟩ : ByteArray) ++ t230) ++ (⟨#[33]⟩ : ByteArray)).size + ((⟨#[38, 35, 120]⟩ : ByteArray) ++ t231).size ≤ 9223372036854775807
           ·rw [if_pos c24] at H
            have c24b0 := eq_true c24
            have c24b1 : decide ((((⟨#[38, 35]⟩ : ByteArray) ++ t230) ++ (⟨#[33]⟩ : ByteArray)).size + ((⟨#[38, 35, 120]⟩ : ByteArray) ++ t231).size ≤ 9223372036854775807) = true := decide_eq_true c24
            try have c24b2 : (9223372036854775807 < (((⟨#[38, 35]⟩ : ByteArray) ++ t230) ++ (⟨#[33]⟩ : ByteArray)).size + ((⟨#[38, 35, 120]⟩ : ByteArray) ++ t231).size) = False := eq_false (Nat.not_lt.2 c24)
            try have c24b3 : (9223372036854775807 < 2 + t230.size + 1 + (3 + t231.size)) = False := eq_false (by have z_ := c24; simp only [ByteArray.size_append, show (⟨#[33]⟩ : ByteArray).size = 1 from rfl, show (⟨#[38, 35]⟩ : ByteArray).size = 2 from rfl, show (⟨#[38, 35, 120]⟩ : ByteArray).size = 3 from rfl] at z_; omega)
            by_cases c25 : ((((⟨#[38, 35]⟩ : ByteArray) ++ t230) ++ (⟨#[33]⟩ : ByteArray)) ++ ((⟨#[38, 35, 120]⟩ : ByteArray) ++ t231)).size + 1 ≤ 9223372036854775807
            ·rw [if_pos c25] at H
             have c25b0 := eq_true c25
             have c25b1 : decide (((((⟨#[38, 35]⟩ : ByteArray) ++ t230) ++ (⟨#[33]⟩ : ByteArray)) ++ ((⟨#[38, 35, 120]⟩ : ByteArray) ++ t231)).size + 1 ≤ 9223372036854775807) = true := decide_eq_true c25
             try have c25b2 : (9223372036854775807 < ((((⟨#[38, 35]⟩ : ByteArray) ++ t230) ++ (⟨#[33]⟩ : ByteArray)) ++ ((⟨#[38, 35, 120]⟩ : ByteArray) ++ t231)).size + 1) = False := eq_false (Nat.not_lt.2 c25)
             try have c25b3 : (9223372036854775807 < 2 + t230.size + 1 + (3 + t231.size) + 1) = False := eq_false (by have z_ := c25; simp only [ByteArray.size_append, show (⟨#[33]⟩ : ByteArray).size = 1 from rfl, show (⟨#[38, 35]⟩ : ByteArray).size = 2 from rfl, show (⟨#[38, 35, 120]⟩ : ByteArray).size = 3 from rfl] at z_; omega)
             by_cases c26 : (((((⟨#[38, 35]⟩ : ByteArray) ++ t230) ++ (⟨#[33]⟩ : ByteArray)) ++ ((⟨#[38, 35, 120]⟩ : ByteArray) ++ t231)) ++ (⟨#[32]⟩ : ByteArray)).size + ((⟨#[38, 35, 120]⟩ : ByteArray) ++ t231).size ≤ 9223372036854775807
             ·rw [if_pos c26] at H
              have c26b0 := eq_true c26
              have c26b1 : decide ((((((⟨#[38, 35]⟩ : ByteArray) ++ t230) ++ (⟨#[33]⟩ : ByteArray)) ++ ((⟨#[38, 35, 120]⟩ : ByteArray) ++ t231)) ++ (⟨#[32]⟩ : ByteArray)).size + ((⟨#[38, 35, 120]⟩ : ByteArray) ++ t231).size ≤ 9223372036854775807) = true := decide_eq_true c26
              try have c26b2 : (9223372036854775807 < (((((⟨#[38, 35]⟩ : ByteArray) ++ t230) ++ (⟨#[33]⟩ : ByteArray)) ++ ((⟨#[38, 35, 120]⟩ : ByteArray) ++ t231)) ++ (⟨#[32]⟩ : ByteArray)).size + ((⟨#[38, 35, 120]⟩ : ByteArray) ++ t231).size) = False := eq_false (Nat.not_lt.2 c26)
              try have c26b3 : (9223372036854775807 < 2 + t230.size + 1 + (3 + t231.size) + 1 + (3 + t231.size)) = False := eq_false (by have z_ := c26; simp only [ByteArray.size_append, show (⟨#[32]⟩ : ByteArray).size = 1 from rfl, show (⟨#[33]⟩ : ByteArray).size = 1 from rfl, show (⟨#[38, 35]⟩ : ByteArray).size = 2 from rfl, show (⟨#[38, 35, 120]⟩ : ByteArray).size = 3 from rfl] at z_; omega)
              replace H := Option.bind_eq_some_iff.mp H
              obtain ⟨t233, A270, H⟩ := H
              replace H : (if t228.size + 1 ≤ 9223372036854775807 then (if (t228 ++ (⟨#[33]⟩ : ByteArray)).size + t228.size ≤ 9223372036854775807 then (if ((t228 ++ (⟨#[33]⟩ : ByteArray)) ++ t228).size + 1 ≤ 9223372036854775807 then (if (((t228 ++ (⟨#[33]⟩ : ByteArray)) ++ t228) ++ (⟨#[32]⟩ : ByteArray)).size + t228.size ≤ 9223372036854775807 then (if t233.toList = ((((t228 ++ (⟨#[33]⟩ : ByteArray)) ++ t228) ++ (⟨#[32]⟩ : ByteArray)) ++ t228).toList then ((selvedgelaw03_works.f kj3).bind fun t234 => (some t234)) else (some false)) else (none)) else (none)) else (none)) else (none)) = some r := H
              have A27 := Aside0.mk A270
              clear A270
              by_cases c28 : t228.size + 1 ≤ 9223372036854775807
              ·rw [if_pos c28] at H
               have c28b0 := eq_true c28
               have c28b1 : decide (t228.size + 1 ≤ 9223372036854775807) = true := decide_eq_true c28
               try have c28b2 : (9223372036854775807 < t228.size + 1) = False := eq_false (Nat.not_lt.2 c28)
               by_cases c29 : (t228 ++ (⟨#[33]⟩ : ByteArray)).size + t228.size ≤ 9223372036854775807
               ·rw [if_pos c29] at H
                have c29b0 := eq_true c29
                have c29b1 : decide ((t228 ++ (⟨#[33]⟩ : ByteArray)).size + t228.size ≤ 9223372036854775807) = true := decide_eq_true c29
                try have c29b2 : (9223372036854775807 < (t228 ++ (⟨#[33]⟩ : ByteArray)).size + t228.size) = False := eq_false (Nat.not_lt.2 c29)
                try have c29b3 : (9223372036854775807 < t228.size + 1 + t228.size) = False := eq_false (by have z_ := c29; simp only [ByteArray.size_append, show (⟨#[33]⟩ : ByteArray).size = 1 from rfl] at z_; omega)
                by_cases c30 : ((t228 ++ (⟨#[33]⟩ : ByteArray)) ++ t228).size + 1 ≤ 9223372036854775807
                ·rw [if_pos c30] at H
                 have c30b0 := eq_true c30
                 have c30b1 : decide (((t228 ++ (⟨#[33]⟩ : ByteArray)) ++ t228).size + 1 ≤ 9223372036854775807) = true := decide_eq_true c30
                 try have c30b2 : (9223372036854775807 < ((t228 ++ (⟨#[33]⟩ : ByteArray)) ++ t228).size + 1) = False := eq_false (Nat.not_lt.2 c30)
                 try have c30b3 : (9223372036854775807 < t228.size + 1 + t228.size + 1) = False := eq_false (by have z_ := c30; simp only [ByteArray.size_append, show (⟨#[33]⟩ : ByteArray).size = 1 from rfl] at z_; omega)
                 by_cases c31 : (((t228 ++ (⟨#[33]⟩ : ByteArray)) ++ t228) ++ (⟨#[32]⟩ : ByteArray)).size + t228.size ≤ 9223372036854775807
                 ·rw [if_pos c31] at H
                  have c31b0 := eq_true c31
                  have c31b1 : decide ((((t228 ++ (⟨#[33]⟩ : ByteArray)) ++ t228) ++ (⟨#[32]⟩ : ByteArray)).size + t228.size ≤ 9223372036854775807) = true := decide_eq_true c31
                  try have c31b2 : (9223372036854775807 < (((t228 ++ (⟨#[33]⟩ : ByteArray)) ++ t228) ++ (⟨#[32]⟩ : ByteArray)).size + t228.size) = False := eq_false (Nat.not_lt.2 c31)
                  try have c31b3 : (9223372036854775807 < t228.size + 1 + t228.size + 1 + t228.size) = False := eq_false (by have z_ := c31; simp only [ByteArray.size_append, show (⟨#[32]⟩ : ByteArray).size = 1 from rfl, show (⟨#[33]⟩ : ByteArray).size = 1 from rfl] at z_; omega)
                  by_cases c32 : t233.toList = ((((t228 ++ (⟨#[33]⟩ : ByteArray)) ++ t228) ++ (⟨#[32]⟩ : ByteArray)) ++ t228).toList
                  ·rw [if_pos c32] at H
                   have c32b0 : (t233.toList == ((((t228 ++ (⟨#[33]⟩ : ByteArray)) ++ t228) ++ (⟨#[32]⟩ : ByteArray)) ++ t228).toList) = true := beq_iff_eq.mpr c32
                   have c32b1 : (t233.toList != ((((t228 ++ (⟨#[33]⟩ : ByteArray)) ++ t228) ++ (⟨#[32]⟩ : ByteArray)) ++ t228).toList) = false := bne_eq_false_iff_eq.mpr c32
                   clear c32
                   replace H := Option.bind_eq_some_iff.mp H
                   obtain ⟨t234, A330, H⟩ := H
                   replace H : (some t234) = some r := H
                   have A33 := Aside0.mk A330
                   clear A330
                   obtain rfl := Option.some.inj H
                   go_wp2_with (first | ((with_reducible refine gate_callee (f := 17) rfl ?_); refine goesL_ (some 25) rfl rfl Tryd.func17 (by kernel_rfl) rfl #[.int .u32 ((a0) % 4294967296), .int .u32 10, .int .u8 a1] rfl (by (try simp only [List.map_toArray, List.map_cons, List.map_nil]); first | done | rfl | (simp only [List.length_drop, List.length_take]; rfl)) ?_; (with_reducible refine (selvedgelaw03_digits.calls kj3 ((a0) % 4294967296) 10 a1 t230 _ A14.out).mono ?_); rintro e w' ⟨rfl, ⟨nd, rfl⟩⟩; refine ⟨_, rfl, ?_⟩) | ((with_reducible refine gate_callee (f := 17) rfl ?_); refine goesL_ (some 30) rfl rfl Tryd.func17 (by kernel_rfl) rfl #[.int .u32 ((a0) % 4294967296), .int .u32 16, .int .u8 a1] rfl (by (try simp only [List.map_toArray, List.map_cons, List.map_nil]); first | done | rfl | (simp only [List.length_drop, List.length_take]; rfl)) ?_; (with_reducible refine (selvedgelaw03_digits.calls kj3 ((a0) % 4294967296) 16 a1 t231 _ A16.out).mono ?_); rintro e w' ⟨rfl, ⟨nd, rfl⟩⟩; refine ⟨_, rfl, ?_⟩) | ((with_reducible refine gate_callee (f := 14) rfl ?_); refine goesL_ (some 37) rfl rfl Tryd.func14 (by kernel_rfl) rfl #[.string (((((⟨#[38, 35]⟩ : ByteArray) ++ t230) ++ (⟨#[59]⟩ : ByteArray)) ++ ((⟨#[38, 35, 120]⟩ : ByteArray) ++ t231)) ++ (⟨#[59]⟩ : ByteArray)), .bool false] rfl (by (try simp only [List.map_toArray, List.map_cons, List.map_nil]); first | done | rfl | (simp only [List.length_drop, List.length_take]; rfl)) ?_; (with_reducible refine (charref_Decode.calls kj3 (((((⟨#[38, 35]⟩ : ByteArray) ++ t230) ++ (⟨#[59]⟩ : ByteArray)) ++ ((⟨#[38, 35, 120]⟩ : ByteArray) ++ t231)) ++ (⟨#[59]⟩ : ByteArray)) false t232 _ A21.out (by exact HT.out.below (mvB HB))).mono ?_); rintro e w34 ⟨rfl, hb⟩; refine ⟨_, rfl, ?_⟩; have n0_ := Aside0.mk (below_step (mvB HB) hb); clear HB; have HB := n0_; clear n0_; (try clear hb); (try clear hb2); (try clear hk); (try clear hi)) | (go_at_call 14; (with_reducible refine (charref_Decode.calls kj3 ((((((⟨#[38, 35]⟩ : ByteArray) ++ t230) ++ (⟨#[33]⟩ : ByteArray)) ++ ((⟨#[38, 35, 120]⟩ : ByteArray) ++ t231)) ++ (⟨#[32]⟩ : ByteArray)) ++ ((⟨#[38, 35, 120]⟩ : ByteArray) ++ t231)) true t233 _ A27.out (by exact HT.out.below (mvB HB))).mono ?_); rintro e w35 ⟨rfl, hb⟩; have n0_ := Aside0.mk (below_step (mvB HB) hb); clear HB; have HB := n0_; clear n0_; (try clear hb); (try clear hb2); (try clear hk); (try clear hi)) | (go_at_call 10; (with_reducible refine (selvedgelaw03_works.calls kj3  t234 _ A33.out (by exact HT.out.below (mvB HB))).mono ?_); rintro e w36 ⟨rfl, hb⟩; have n0_ := Aside0.mk (below_step (mvB HB) hb); clear HB; have HB := n0_; clear n0_; (try clear hb); (try clear hb2); (try clear hk); (try clear hi)))
                   go_ret
                   exact ⟨by first | rfl | (simp [errW_none, errW_some] <;> rfl) | (simp [*, errW_none, errW_some] <;> rfl), mvB HB⟩
                  ·rw [if_neg c32] at H
                   have c32b0 : (t233.toList == ((((t228 ++ (⟨#[33]⟩ : ByteArray)) ++ t228) ++ (⟨#[32]⟩ : ByteArray)) ++ t228).toList) = false := beq_eq_false_iff_ne.mpr c32
                   have c32b1 : (t233.toList != ((((t228 ++ (⟨#[33]⟩ : ByteArray)) ++ t228) ++ (⟨#[32]⟩ : ByteArray)) ++ t228).toList) = true := bne_iff_ne.mpr c32
                   obtain rfl := Option.some.inj H
                   go_wp2_with (first | ((with_reducible refine gate_callee (f := 17) rfl ?_); refine goesL_ (some 25) rfl rfl Tryd.func17 (by kernel_rfl) rfl #[.int .u32 ((a0) % 4294967296), .int .u32 10, .int .u8 a1] rfl (by (try simp only [List.map_toArray, List.map_cons, List.map_nil]); first | done | rfl | (simp only [List.length_drop, List.length_take]; rfl)) ?_; (with_reducible refine (selvedgelaw03_digits.calls kj3 ((a0) % 4294967296) 10 a1 t230 _ A14.out).mono ?_); rintro e w' ⟨rfl, ⟨nd, rfl⟩⟩; refine ⟨_, rfl, ?_⟩) | ((with_reducible refine gate_callee (f := 17) rfl ?_); refine goesL_ (some 30) rfl rfl Tryd.func17 (by kernel_rfl) rfl #[.int .u32 ((a0) % 4294967296), .int .u32 16, .int .u8 a1] rfl (by (try simp only [List.map_toArray, List.map_cons, List.map_nil]); first | done | rfl | (simp only [List.length_drop, List.length_take]; rfl)) ?_; (with_reducible refine (selvedgelaw03_digits.calls kj3 ((a0) % 4294967296) 16 a1 t231 _ A16.out).mono ?_); rintro e w' ⟨rfl, ⟨nd, rfl⟩⟩; refine ⟨_, rfl, ?_⟩) | ((with_reducible refine gate_callee (f := 14) rfl ?_); refine goesL_ (some 37) rfl rfl Tryd.func14 (by kernel_rfl) rfl #[.string (((((⟨#[38, 35]⟩ : ByteArray) ++ t230) ++ (⟨#[59]⟩ : ByteArray)) ++ ((⟨#[38, 35, 120]⟩ : ByteArray) ++ t231)) ++ (⟨#[59]⟩ : ByteArray)), .bool false] rfl (by (try simp only [List.map_toArray, List.map_cons, List.map_nil]); first | done | rfl | (simp only [List.length_drop, List.length_take]; rfl)) ?_; (with_reducible refine (charref_Decode.calls kj3 (((((⟨#[38, 35]⟩ : ByteArray) ++ t230) ++ (⟨#[59]⟩ : ByteArray)) ++ ((⟨#[38, 35, 120]⟩ : ByteArray) ++ t231)) ++ (⟨#[59]⟩ : ByteArray)) false t232 _ A21.out (by exact HT.out.below (mvB HB))).mono ?_); rintro e w37 ⟨rfl, hb⟩; refine ⟨_, rfl, ?_⟩; have n0_ := Aside0.mk (below_step (mvB HB) hb); clear HB; have HB := n0_; clear n0_; (try clear hb); (try clear hb2); (try clear hk); (try clear hi)) | (go_at_call 14; (with_reducible refine (charref_Decode.calls kj3 ((((((⟨#[38, 35]⟩ : ByteArray) ++ t230) ++ (⟨#[33]⟩ : ByteArray)) ++ ((⟨#[38, 35, 120]⟩ : ByteArray) ++ t231)) ++ (⟨#[32]⟩ : ByteArray)) ++ ((⟨#[38, 35, 120]⟩ : ByteArray) ++ t231)) true t233 _ A27.out (by exact HT.out.below (mvB HB))).mono ?_); rintro e w38 ⟨rfl, hb⟩; have n0_ := Aside0.mk (below_step (mvB HB) hb); clear HB; have HB := n0_; clear n0_; (try clear hb); (try clear hb2); (try clear hk); (try clear hi)))
                   go_ret
                   exact ⟨by first | rfl | (simp [errW_none, errW_some] <;> rfl) | (simp [*, errW_none, errW_some] <;> rfl), mvB HB⟩
                 ·rw [if_neg c31] at H
                  exact absurd H (by simp)
                ·rw [if_neg c30] at H
                 exact absurd H (by simp)
               ·rw [if_neg c29] at H
                exact absurd H (by simp)
              ·rw [if_neg c28] at H
               exact absurd H (by simp)
             ·rw [if_neg c26] at H
              exact absurd H (by simp)
            ·rw [if_neg c25] at H
             exact absurd H (by simp)
           ·rw [if_neg c24] at H
            exact absurd H (by simp)
          ·rw [if_neg c23] at H
           have c23b0 : (t232.toList == (t228 ++ t228).toList) = false := beq_eq_false_iff_ne.mpr c23
           have c23b1 : (t232.toList != (t228 ++ t228).toList) = true := bne_iff_ne.mpr c23
           obtain rfl := Option.some.inj H
           go_wp2_with (first | ((with_reducible refine gate_callee (f := 17) rfl ?_); refine goesL_ (some 25) rfl rfl Tryd.func17 (by kernel_rfl) rfl #[.int .u32 ((a0) % 4294967296), .int .u32 10, .int .u8 a1] rfl (by (try simp only [List.map_toArray, List.map_cons, List.map_nil]); first | done | rfl | (simp only [List.length_drop, List.length_take]; rfl)) ?_; (with_reducible refine (selvedgelaw03_digits.calls kj3 ((a0) % 4294967296) 10 a1 t230 _ A14.out).mono ?_); rintro e w' ⟨rfl, ⟨nd, rfl⟩⟩; refine ⟨_, rfl, ?_⟩) | ((with_reducible refine gate_callee (f := 17) rfl ?_); refine goesL_ (some 30) rfl rfl Tryd.func17 (by kernel_rfl) rfl #[.int .u32 ((a0) % 4294967296), .int .u32 16, .int .u8 a1] rfl (by (try simp only [List.map_toArray, List.map_cons, List.map_nil]); first | done | rfl | (simp only [List.length_drop, List.length_take]; rfl)) ?_; (with_reducible refine (selvedgelaw03_digits.calls kj3 ((a0) % 4294967296) 16 a1 t231 _ A16.out).mono ?_); rintro e w' ⟨rfl, ⟨nd, rfl⟩⟩; refine ⟨_, rfl, ?_⟩) | ((with_reducible refine gate_callee (f := 14) rfl ?_); refine goesL_ (some 37) rfl rfl Tryd.func14 (by kernel_rfl) rfl #[.string (((((⟨#[38, 35]⟩ : ByteArray) ++ t230) ++ (⟨#[59]⟩ : ByteArray)) ++ ((⟨#[38, 35, 120]⟩ : ByteArray) ++ t231)) ++ (⟨#[59]⟩ : ByteArray)), .bool false] rfl (by (try simp only [List.map_toArray, List.map_cons, List.map_nil]); first | done | rfl | (simp only [List.length_drop, List.length_take]; rfl)) ?_; (with_reducible refine (charref_Decode.calls kj3 (((((⟨#[38, 35]⟩ : ByteArray) ++ t230) ++ (⟨#[59]⟩ : ByteArray)) ++ ((⟨#[38, 35, 120]⟩ : ByteArray) ++ t231)) ++ (⟨#[59]⟩ : ByteArray)) false t232 _ A21.out (by exact HT.out.below (mvB HB))).mono ?_); rintro e w39 ⟨rfl, hb⟩; refine ⟨_, rfl, ?_⟩; have n0_ := Aside0.mk (below_step (mvB HB) hb); clear HB; have HB := n0_; clear n0_; (try clear hb); (try clear hb2); (try clear hk); (try clear hi)))
           go_ret
           exact ⟨by first | rfl | (simp [errW_none, errW_some] <;> rfl) | (simp [*, errW_none, errW_some] <;> rfl), mvB HB⟩
         ·rw [if_neg c22] at H
          exact absurd H (by simp)
        ·rw [if_neg c20] at H
         exact absurd H (by simp)
       ·rw [if_neg c19] at H
        exact absurd H (by simp)
      ·rw [if_neg c18] at H
       exact absurd H (by simp)
     ·rw [if_neg c17] at H
      exact absurd H (by simp)
    ·rw [if_neg c15] at H
     exact absurd H (by simp)

/-- THE ONE PURE STATEMENT of selvedgelaw03_CharrefNumbers: yours. -/
def selvedgelaw03_CharrefNumbers.Pure : Prop := ∀ (a0 : Int) (a1 : Int), (Lit.int .i32 a0).wf = true → (Lit.int .u8 a1).wf = true → ∃ k, selvedgelaw03_CharrefNumbers.f k a0 a1 = some true
theorem selvedgelaw03_CharrefNumbers.walk (P : selvedgelaw03_CharrefNumbers.Pure) (a0 : Int) (a1 : Int) (w : World) (w0 : (Lit.int .i32 a0).wf = true) (w1 : (Lit.int .u8 a1).wf = true) (hT : Tabs w) :
  Calls Tryd.prog 6 #[.int .i32 a0, .int .u8 a1] w fun e w' => e = .returned (.bool true) ∧ Below w.heap.size w w' := by
 obtain ⟨k, h⟩ := P a0 a1 w0 w1
 refine (selvedgelaw03_CharrefNumbers.calls k a0 a1 true w h hT).mono ?_
 rintro e w' ⟨rfl, hd⟩
 exact ⟨rfl, hd⟩

/-! ### selvedgelaw03_CharrefPieces: function 7 -/
def selvedgelaw03_CharrefPieces.j0 : Nat → ByteArray → ByteArray → Bool → Bool → Option (Bool)
 | 0, _, _, _, _ => none
 | k + 1, x0, x1, x2, x14 => if x14 = true then ((selvedgelaw03_works.f k).bind fun t235 => (some t235)) else (if x0.size + 1 ≤ 9223372036854775807 then (if (x0 ++ (⟨#[32]⟩ : ByteArray)).size + x1.size ≤ 9223372036854775807 then ((charref_Decode.f k ((x0 ++ (⟨#[32]⟩ : ByteArray)) ++ x1) x2).bind fun t236 => ((charref_Decode.f k x0 x2).bind fun t237 => (if t237.size + 1 ≤ 9223372036854775807 then ((charref_Decode.f k x1 x2).bind fun t238 => (if (t237 ++ (⟨#[32]⟩ : ByteArray)).size + t238.size ≤ 9223372036854775807 then (if t236.toList = ((t237 ++ (⟨#[32]⟩ : ByteArray)) ++ t238).toList then ((selvedgelaw03_works.f k).bind fun t239 => (some t239)) else (some false)) else (none))) else (none)))) else (none)) else (none))
def selvedgelaw03_CharrefPieces.f (k : Nat) (a0 : ByteArray) (a1 : ByteArray) (a2 : Bool) : Option (Bool) := if (a0.size : Int) > 2000 then (selvedgelaw03_CharrefPieces.j0 k a0 a1 a2 true) else (selvedgelaw03_CharrefPieces.j0 k a0 a1 a2 (decide ((a1.size : Int) > 2000)))
theorem selvedgelaw03_CharrefPieces.mono_l : ∀ k, (∀ y0 y1 y2 y3, LeO (selvedgelaw03_CharrefPieces.j0 k y0 y1 y2 y3) (selvedgelaw03_CharrefPieces.j0 (k + 1) y0 y1 y2 y3))
 | 0 => fun _ _ _ _ r h => by simp [selvedgelaw03_CharrefPieces.j0] at h
 | k + 1 => by
  have ih0 := selvedgelaw03_CharrefPieces.mono_l k
  ·intro y0 y1 y2 y3
   unfold selvedgelaw03_CharrefPieces.j0
   repeat' first
   | (with_reducible exact ih0 _ _ _ _)
   | (with_reducible exact charref_Decode.mono _ _ _)
   | (with_reducible exact selvedgelaw03_works.mono _)
   | (with_reducible exact LeO.refl _)
   | (with_reducible exact LeO.none _)
   | (with_reducible refine LeO.ite ?_ ?_)
   | (with_reducible refine LeO.bind ?_ (fun _ => ?_))
   | exact ih0 _ _ _ _
   | exact charref_Decode.mono _ _ _
   | exact selvedgelaw03_works.mono _
   | exact LeO.none _
   | refine LeO.ite ?_ ?_
   | refine LeO.bind ?_ (fun _ => ?_)
theorem selvedgelaw03_CharrefPieces.mono : ∀ a0 a1 a2 k, LeO (selvedgelaw03_CharrefPieces.f k a0 a1 a2) (selvedgelaw03_CharrefPieces.f (k + 1) a0 a1 a2) := by
 intro a0 a1 a2 k
 have ih0 := selvedgelaw03_CharrefPieces.mono_l k
 unfold selvedgelaw03_CharrefPieces.f
 repeat' first
   | (with_reducible exact ih0 _ _ _ _)
   | (with_reducible exact charref_Decode.mono _ _ _)
   | (with_reducible exact selvedgelaw03_works.mono _)
   | (with_reducible exact LeO.refl _)
   | (with_reducible exact LeO.none _)
   | (with_reducible refine LeO.ite ?_ ?_)
   | (with_reducible refine LeO.bind ?_ (fun _ => ?_))
   | exact ih0 _ _ _ _
   | exact charref_Decode.mono _ _ _
   | exact selvedgelaw03_works.mono _
   | exact LeO.none _
   | refine LeO.ite ?_ ?_
   | refine LeO.bind ?_ (fun _ => ?_)
set_option maxHeartbeats 8000000 in
set_option maxRecDepth 100000 in
theorem selvedgelaw03_CharrefPieces.calls (k : Nat) (a0 : ByteArray) (a1 : ByteArray) (a2 : Bool) (r : Bool) (w : World) (h : selvedgelaw03_CharrefPieces.f k a0 a1 a2 = some r) (hT : Tabs w) :
  Calls Tryd.prog 7 #[.string a0, .string a1, .bool a2] w fun e w' => e = .returned (.bool r) ∧ Below w.heap.size w w' := by
 have HT := Aside0.mk hT
 clear hT
 have HB := Aside0.mk (Below.refl w.heap.size w)
 have H : (if (a0.size : Int) > 2000 then (selvedgelaw03_CharrefPieces.j0 k a0 a1 a2 true) else (selvedgelaw03_CharrefPieces.j0 k a0 a1 a2 (decide ((a1.size : Int) > 2000)))) = some r := h
 clear h
 have HC4 := Aside0.mk H
 clear H
 go_enter Tryd.func7, Tryd.ntmps7
 go_upto_region 1 with (fail)
 go_cut [14] (fun v14 wc => ∃ (kq : Nat) (x14_3 : Bool), v14 = .bool x14_3 ∧ Aside0 (selvedgelaw03_CharrefPieces.j0 kq a0 a1 a2 x14_3 = some r) ∧ Aside0 (kq ≤ k) ∧ Aside0 (Below w.heap.size w wc))
 case first =>
  have H := HC4.out
  clear HC4
  by_cases c5 : (a0.size : Int) > 2000
  ·rw [if_pos c5] at H
   have c5b0 : decide (2000 < (a0.size : Int)) = true := decide_eq_true c5
   have c5b1 : decide (2000 < a0.size) = true := decide_eq_true (by omega)
   clear c5
   (first | rw [c5b0] | (simp only [i64_w, i32_w]; rw [c5b0]) | skip)
   have H' := Aside0.mk H
   clear H
   go_wp2
   go_meet
   case rel => exact ⟨_, (true), (by first | rfl | (simp; done) | (simp [*]; done)), H', ⟨by first | omega | exact Nat.le_refl _⟩, ⟨mvB HB⟩⟩
  ·rw [if_neg c5] at H
   have c5b0 : decide (2000 < (a0.size : Int)) = false := decide_eq_false c5
   have c5b1 : decide (2000 < a0.size) = false := decide_eq_false (by omega)
   clear c5
   (first | rw [c5b0] | (simp only [i64_w, i32_w]; rw [c5b0]) | skip)
   have H' := Aside0.mk H
   clear H
   go_wp2
   go_meet
   case rel => exact ⟨_, (decide ((a1.size : Int) > 2000)), (by first | rfl | (simp; done) | (simp [*]; done)), H', ⟨by first | omega | exact Nat.le_refl _⟩, ⟨mvB HB⟩⟩
 case rest =>
  clear HC4
  try clear p2
  try clear c5
  try clear c5b0
  try clear c5b1
  obtain ⟨kq, x14_3, rfl, HA, HJ3, HB⟩ := hcut
  cases kq with
  | zero => exact absurd HA.out (by simp [selvedgelaw03_CharrefPieces.j0])
  | succ kj3 =>
   have H := HA.out
   clear HA
   simp only [selvedgelaw03_CharrefPieces.j0] at H
   by_cases c6 : x14_3 = true
   ·subst c6
    have H1 : ((selvedgelaw03_works.f kj3).bind fun t235 => (some t235)) = some r := by rw [if_pos rfl] at H; exact H
    clear H
    have H := H1
    clear H1
    replace H := Option.bind_eq_some_iff.mp H
    obtain ⟨t235, A70, H⟩ := H
    replace H : (some t235) = some r := H
    have A7 := Aside0.mk A70
    clear A70
    obtain rfl := Option.some.inj H
    go_wp2_with (first | ((with_reducible refine gate_callee (f := 10) rfl ?_); refine goesL_ (some 15) rfl rfl Tryd.func10 (by kernel_rfl) rfl #[] rfl (by (try simp only [List.map_toArray, List.map_cons, List.map_nil]); first | done | rfl | (simp only [List.length_drop, List.length_take]; rfl)) ?_; (with_reducible refine (selvedgelaw03_works.calls kj3  t235 _ A7.out (by exact HT.out.below (mvB HB))).mono ?_); rintro e w8 ⟨rfl, hb⟩; refine ⟨_, rfl, ?_⟩; have n0_ := Aside0.mk (below_step (mvB HB) hb); clear HB; have HB := n0_; clear n0_; (try clear hb); (try clear hb2); (try clear hk); (try clear hi)))
    go_ret
    exact ⟨by first | rfl | (simp [errW_none, errW_some] <;> rfl) | (simp [*, errW_none, errW_some] <;> rfl), mvB HB⟩
   ·replace c6 := Bool.eq_false_iff.mpr c6
    subst c6
    have H1 : (if a0.size + 1 ≤ 9223372036854775807 then (if (a0 ++ (⟨#[32]⟩ : ByteArray)).size + a1.size ≤ 9223372036854775807 then ((charref_Decode.f kj3 ((a0 ++ (⟨#[32]⟩ : ByteArray)) ++ a1) a2).bind fun t236 => ((charref_Decode.f kj3 a0 a2).bind fun t237 => (if t237.size + 1 ≤ 9223372036854775807 then ((charref_Decode.f kj3 a1 a2).bind fun t238 => (if (t237 ++ (⟨#[32]⟩ : ByteArray)).size + t238.size ≤ 9223372036854775807 then (if t236.toList = ((t237 ++ (⟨#[32]⟩ : ByteArray)) ++ t238).toList then ((selvedgelaw03_works.f kj3).bind fun t239 => (some t239)) else (some false)) else (none))) else (none)))) else (none)) else (none)) = some r := by rw [if_neg (show ¬ (false = true) by decide)] at H; exact H
    clear H
    have H := H1
    clear H1
    by_cases c9 : a0.size + 1 ≤ 9223372036854775807
    ·rw [if_pos c9] at H
     have c9b0 := eq_true c9
     have c9b1 : decide (a0.size + 1 ≤ 9223372036854775807) = true := decide_eq_true c9
     try have c9b2 : (9223372036854775807 < a0.size + 1) = False := eq_false (Nat.not_lt.2 c9)
     by_cases c10 : (a0 ++ (⟨#[32]⟩ : ByteArray)).size + a1.size ≤ 9223372036854775807
     ·rw [if_pos c10] at H
      have c10b0 := eq_true c10
      have c10b1 : decide ((a0 ++ (⟨#[32]⟩ : ByteArray)).size + a1.size ≤ 9223372036854775807) = true := decide_eq_true c10
      try have c10b2 : (9223372036854775807 < (a0 ++ (⟨#[32]⟩ : ByteArray)).size + a1.size) = False := eq_false (Nat.not_lt.2 c10)
      try have c10b3 : (9223372036854775807 < a0.size + 1 + a1.size) = False := eq_false (by have z_ := c10; simp only [ByteArray.size_append, show (⟨#[32]⟩ : ByteArray).size = 1 from rfl] at z_; omega)
      replace H := Option.bind_eq_some_iff.mp H
      obtain ⟨t236, A110, H⟩ := H
      replace H : ((charref_Decode.f kj3 a0 a2).bind fun t237 => (if t237.size + 1 ≤ 9223372036854775807 then ((charref_Decode.f kj3 a1 a2).bind fun t238 => (if (t237 ++ (⟨#[32]⟩ : ByteArray)).size + t238.size ≤ 9223372036854775807 then (if t236.toList = ((t237 ++ (⟨#[32]⟩ : ByteArray)) ++ t238).toList then ((selvedgelaw03_works.f kj3).bind fun t239 => (some t239)) else (some false)) else (none))) else (none))) = some r := H
      have A11 := Aside0.mk A110
      clear A110
      replace H := Option.bind_eq_some_iff.mp H
      obtain ⟨t237, A120, H⟩ := H
      replace H : (if t237.size + 1 ≤ 9223372036854775807 then ((charref_Decode.f kj3 a1 a2).bind fun t238 => (if (t237 ++ (⟨#[32]⟩ : ByteArray)).size + t238.size ≤ 9223372036854775807 then (if t236.toList = ((t237 ++ (⟨#[32]⟩ : ByteArray)) ++ t238).toList then ((selvedgelaw03_works.f kj3).bind fun t239 => (some t239)) else (some false)) else (none))) else (none)) = some r := H
      have A12 := Aside0.mk A120
      clear A120
      by_cases c13 : t237.size + 1 ≤ 9223372036854775807
      ·rw [if_pos c13] at H
       have c13b0 := eq_true c13
       have c13b1 : decide (t237.size + 1 ≤ 9223372036854775807) = true := decide_eq_true c13
       try have c13b2 : (9223372036854775807 < t237.size + 1) = False := eq_false (Nat.not_lt.2 c13)
       replace H := Option.bind_eq_some_iff.mp H
       obtain ⟨t238, A140, H⟩ := H
       replace H : (if (t237 ++ (⟨#[32]⟩ : ByteArray)).size + t238.size ≤ 9223372036854775807 then (if t236.toList = ((t237 ++ (⟨#[32]⟩ : ByteArray)) ++ t238).toList then ((selvedgelaw03_works.f kj3).bind fun t239 => (some t239)) else (some false)) else (none)) = some r := H
       have A14 := Aside0.mk A140
       clear A140
       by_cases c15 : (t237 ++ (⟨#[32]⟩ : ByteArray)).size + t238.size ≤ 9223372036854775807
       ·rw [if_pos c15] at H
        have c15b0 := eq_true c15
        have c15b1 : decide ((t237 ++ (⟨#[32]⟩ : ByteArray)).size + t238.size ≤ 9223372036854775807) = true := decide_eq_true c15
        try have c15b2 : (9223372036854775807 < (t237 ++ (⟨#[32]⟩ : ByteArray)).size + t238.size) = False := eq_false (Nat.not_lt.2 c15)
        try have c15b3 : (9223372036854775807 < t237.size + 1 + t238.size) = False := eq_false (by have z_ := c15; simp only [ByteArray.size_append, show (⟨#[32]⟩ : ByteArray).size = 1 from rfl] at z_; omega)
        by_cases c16 : t236.toList = ((t237 ++ (⟨#[32]⟩ : ByteArray)) ++ t238).toList
        ·rw [if_pos c16] at H
         have c16b0 : (t236.toList == ((t237 ++ (⟨#[32]⟩ : ByteArray)) ++ t238).toList) = true := beq_iff_eq.mpr c16
         have c16b1 : (t236.toList != ((t237 ++ (⟨#[32]⟩ : ByteArray)) ++ t238).toList) = false := bne_eq_false_iff_eq.mpr c16
         clear c16
         replace H := Option.bind_eq_some_iff.mp H
         obtain ⟨t239, A170, H⟩ := H
         replace H : (some t239) = some r := H
         have A17 := Aside0.mk A170
         clear A170
         obtain rfl := Option.some.inj H
         go_wp2_with (first | ((with_reducible refine gate_callee (f := 14) rfl ?_); refine goesL_ (some 21) rfl rfl Tryd.func14 (by kernel_rfl) rfl #[.string ((a0 ++ (⟨#[32]⟩ : ByteArray)) ++ a1), .bool a2] rfl (by (try simp only [List.map_toArray, List.map_cons, List.map_nil]); first | done | rfl | (simp only [List.length_drop, List.length_take]; rfl)) ?_; (with_reducible refine (charref_Decode.calls kj3 ((a0 ++ (⟨#[32]⟩ : ByteArray)) ++ a1) a2 t236 _ A11.out (by exact HT.out.below (mvB HB))).mono ?_); rintro e w18 ⟨rfl, hb⟩; refine ⟨_, rfl, ?_⟩; have n0_ := Aside0.mk (below_step (mvB HB) hb); clear HB; have HB := n0_; clear n0_; (try clear hb); (try clear hb2); (try clear hk); (try clear hi)) | ((with_reducible refine gate_callee (f := 14) rfl ?_); refine goesL_ (some 24) rfl rfl Tryd.func14 (by kernel_rfl) rfl #[.string a0, .bool a2] rfl (by (try simp only [List.map_toArray, List.map_cons, List.map_nil]); first | done | rfl | (simp only [List.length_drop, List.length_take]; rfl)) ?_; (with_reducible refine (charref_Decode.calls kj3 a0 a2 t237 _ A12.out (by exact HT.out.below (mvB HB))).mono ?_); rintro e w19 ⟨rfl, hb⟩; refine ⟨_, rfl, ?_⟩; have n0_ := Aside0.mk (below_step (mvB HB) hb); clear HB; have HB := n0_; clear n0_; (try clear hb); (try clear hb2); (try clear hk); (try clear hi)) | ((with_reducible refine gate_callee (f := 14) rfl ?_); refine goesL_ (some 28) rfl rfl Tryd.func14 (by kernel_rfl) rfl #[.string a1, .bool a2] rfl (by (try simp only [List.map_toArray, List.map_cons, List.map_nil]); first | done | rfl | (simp only [List.length_drop, List.length_take]; rfl)) ?_; (with_reducible refine (charref_Decode.calls kj3 a1 a2 t238 _ A14.out (by exact HT.out.below (mvB HB))).mono ?_); rintro e w20 ⟨rfl, hb⟩; refine ⟨_, rfl, ?_⟩; have n0_ := Aside0.mk (below_step (mvB HB) hb); clear HB; have HB := n0_; clear n0_; (try clear hb); (try clear hb2); (try clear hk); (try clear hi)) | (go_at_call 10; (with_reducible refine (selvedgelaw03_works.calls kj3  t239 _ A17.out (by exact HT.out.below (mvB HB))).mono ?_); rintro e w21 ⟨rfl, hb⟩; have n0_ := Aside0.mk (below_step (mvB HB) hb); clear HB; have HB := n0_; clear n0_; (try clear hb); (try clear hb2); (try clear hk); (try clear hi)))
         go_ret
         exact ⟨by first | rfl | (simp [errW_none, errW_some] <;> rfl) | (simp [*, errW_none, errW_some] <;> rfl), mvB HB⟩
        ·rw [if_neg c16] at H
         have c16b0 : (t236.toList == ((t237 ++ (⟨#[32]⟩ : ByteArray)) ++ t238).toList) = false := beq_eq_false_iff_ne.mpr c16
         have c16b1 : (t236.toList != ((t237 ++ (⟨#[32]⟩ : ByteArray)) ++ t238).toList) = true := bne_iff_ne.mpr c16
         obtain rfl := Option.some.inj H
         go_wp2_with (first | ((with_reducible refine gate_callee (f := 14) rfl ?_); refine goesL_ (some 21) rfl rfl Tryd.func14 (by kernel_rfl) rfl #[.string ((a0 ++ (⟨#[32]⟩ : ByteArray)) ++ a1), .bool a2] rfl (by (try simp only [List.map_toArray, List.map_cons, List.map_nil]); first | done | rfl | (simp only [List.length_drop, List.length_take]; rfl)) ?_; (with_reducible refine (charref_Decode.calls kj3 ((a0 ++ (⟨#[32]⟩ : ByteArray)) ++ a1) a2 t236 _ A11.out (by exact HT.out.below (mvB HB))).mono ?_); rintro e w22 ⟨rfl, hb⟩; refine ⟨_, rfl, ?_⟩; have n0_ := Aside0.mk (below_step (mvB HB) hb); clear HB; have HB := n0_; clear n0_; (try clear hb); (try clear hb2); (try clear hk); (try clear hi)) | ((with_reducible refine gate_callee (f := 14) rfl ?_); refine goesL_ (some 24) rfl rfl Tryd.func14 (by kernel_rfl) rfl #[.string a0, .bool a2] rfl (by (try simp only [List.map_toArray, List.map_cons, List.map_nil]); first | done | rfl | (simp only [List.length_drop, List.length_take]; rfl)) ?_; (with_reducible refine (charref_Decode.calls kj3 a0 a2 t237 _ A12.out (by exact HT.out.below (mvB HB))).mono ?_); rintro e w23 ⟨rfl, hb⟩; refine ⟨_, rfl, ?_⟩; have n0_ := Aside0.mk (below_step (mvB HB) hb); clear HB; have HB := n0_; clear n0_; (try clear hb); (try clear hb2); (try clear hk); (try clear hi)) | ((with_reducible refine gate_callee (f := 14) rfl ?_); refine goesL_ (some 28) rfl rfl Tryd.func14 (by kernel_rfl) rfl #[.string a1, .bool a2] rfl (by (try simp only [List.map_toArray, List.map_cons, List.map_nil]); first | done | rfl | (simp only [List.length_drop, List.length_take]; rfl)) ?_; (with_reducible refine (charref_Decode.calls kj3 a1 a2 t238 _ A14.out (by exact HT.out.below (mvB HB))).mono ?_); rintro e w24 ⟨rfl, hb⟩; refine ⟨_, rfl, ?_⟩; have n0_ := Aside0.mk (below_step (mvB HB) hb); clear HB; have HB := n0_; clear n0_; (try clear hb); (try clear hb2); (try clear hk); (try clear hi)))
         go_ret
         exact ⟨by first | rfl | (simp [errW_none, errW_some] <;> rfl) | (simp [*, errW_none, errW_some] <;> rfl), mvB HB⟩
       ·rw [if_neg c15] at H
        exact absurd H (by simp)
      ·rw [if_neg c13] at H
       exact absurd H (by simp)
     ·rw [if_neg c10] at H
      exact absurd H (by simp)
    ·rw [if_neg c9] at H
     exact absurd H (by simp)

/-- THE ONE PURE STATEMENT of selvedgelaw03_CharrefPieces: yours. -/
def selvedgelaw03_CharrefPieces.Pure : Prop := ∀ (a0 : ByteArray) (a1 : ByteArray) (a2 : Bool), a0.size ≤ 140737488351232 → a1.size ≤ 140737488351232 → ∃ k, selvedgelaw03_CharrefPieces.f k a0 a1 a2 = some true
theorem selvedgelaw03_CharrefPieces.walk (P : selvedgelaw03_CharrefPieces.Pure) (a0 : ByteArray) (a1 : ByteArray) (a2 : Bool) (w : World) (w0 : a0.size ≤ 140737488351232) (w1 : a1.size ≤ 140737488351232) (hT : Tabs w) :
  Calls Tryd.prog 7 #[.string a0, .string a1, .bool a2] w fun e w' => e = .returned (.bool true) ∧ Below w.heap.size w w' := by
 obtain ⟨k, h⟩ := P a0 a1 a2 w0 w1
 refine (selvedgelaw03_CharrefPieces.calls k a0 a1 a2 true w h hT).mono ?_
 rintro e w' ⟨rfl, hd⟩
 exact ⟨rfl, hd⟩

end Go.Proofs.YtaohghcmlohngaaDoor.X
