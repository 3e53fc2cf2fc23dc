import Derived.Test.YtnpcfiahmadkjaaT2
namespace Go.Proofs.Ytnpcfiahmadkjaa.X
open Go.RowKit Go.Proofs.YtnpcfiahmadkjaaW.PrintWords Go.Proofs.YtnpcfiahmadkjaaW.PrintLast Go.Proofs.YtnpcfiahmadkjaaW.PrintMore
attribute [local go_sem] max2_int min2_int max_two min_two max_three min_three max_four min_four   -- for this text's walks alone
set_option linter.unusedVariables false
set_option linter.unusedSimpArgs false

/-- The m places from number k on get class c. -/
def fillP (out pl : List Int) (c k : Int) : Nat → List Int
  | 0 => out
  | m + 1 => (fillP out pl c k m).set (rd pl (k + m)).toNat c
theorem fillP_length (out pl : List Int) (c k : Int) (m : Nat) : (fillP out pl c k m).length = out.length := by
  induction m with
  | zero => rfl
  | succ m ih => rw [fillP, List.length_set, ih]
def trmC (out pl : List Int) (i j : Int) : Int := if atv out pl (i - 1) = 4 ∨ atv out pl j = 4 then 4 else 14
set_option maxHeartbeats 4000000 in
set_option maxRecDepth 100000 in
theorem terms_loop {base : Nat} {W : World} {g : Nat} {vo vp : Value} {out pl : List Int} {b n : Int} (h : WRow base W g vo vp out pl b n) (hpl : ∀ k, 0 ≤ k → k < (pl.length : Int) → 0 ≤ rd pl k ∧ rd pl k < out.length) (i j : Int) (hi : 0 ≤ i) (hij : i ≤ j) (hj : j ≤ pl.length) (hp : 0 < out.length) (hlen : pl.length < 140737488355328) (c : Int) (hc : c = trmC out pl i j) :
    Calls Try.prog 17 #[.pointer (some ⟨g, 0, none⟩), .int .i64 i, .int .i64 j] W (WPut base W g vo vp (fillP out pl c i (j - i).toNat) pl b n) := by
  have hu := Try.underlying36
  have AT := fun (k : Int) => at_c h k (hpl k)
  obtain ⟨inner, ho⟩ := Kd.R_own h.o
  obtain ⟨go, co, rfl, _, _⟩ := ho.form (by omega)
  clear ho
  obtain ⟨Ap, cp, rfl, _, _⟩ := Kd.R_reads h.p
  have Hc := Aside0.mk hc
  clear hc
  have H0 := Aside0.mk (show ∀ m, WRow base (W.drewN m) g (.slice (some ⟨go, 0, none⟩) out.length co) (.slice Ap pl.length cp) (fillP out pl c i (i - i).toNat) pl b n from fun m => by rw [show (i - i).toNat = 0 by omega]; exact h.drewN m)
  have HH := Aside0.mk h
  clear h
  have hlen2 : pl.length < 9223372036854775807 := by omega
  by_cases e1 : atv out pl (i - 1) = 4
  · have b1 : (atv out pl (i - 1) == 4) = true := beq_iff_eq.mpr e1
    obtain rfl : c = 4 := by rw [Hc.out, trmC, if_pos (.inl e1)]
    clear e1
    go_enter Try.func17, Try.ntmps17
    go_wp2_with (go_at_call 16; (with_reducible refine (AT _).mono ?_); rintro e w' ⟨rfl, ⟨m1, rfl⟩⟩)
    go_loopw [7] (fun v7 wr => ∃ k : Int, i ≤ k ∧ k ≤ j ∧ v7 = .int .i64 k ∧ Aside0 (WRow base wr g (.slice (some ⟨go, 0, none⟩) out.length co) (.slice Ap pl.length cp) (fillP out pl 4 i (k - i).toNat) pl b n ∧ W.grownBy wr (some go))) (fun v7 _ => (j - intOf v7).toNat)
    case atStart => exact ⟨i, by omega, hij, rfl, ⟨H0.out _, grownBy_drewN (World.grownBy.refl _ _) _⟩⟩
    case round =>
      obtain ⟨k, k0, k1, rfl, HK⟩ := hrel
      by_cases hlt : k < j
      · have b2 : decide (k < j) = true := decide_eq_true hlt
        have hfl := fillP_length out pl 4 i (k - i).toNat
        obtain ⟨h0, h1, _, _⟩ := HK.out.1.c
        obtain ⟨q0, q1⟩ := hpl k (by omega) (by omega)
        have hrp := (Kd.R_reads' HK.out.1.p).2.2
        obtain ⟨ad1, e1, hx1⟩ := Kd.at_int hrp k (by omega) (by omega)
        subst e1
        obtain ⟨hcO, hfO⟩ := Kd.R_celln (0 : Int) HK.out.1.o (rd pl k) q0 (by omega)
        have r0 : 0 ≤ k := by omega
        have r1 : k < (pl.length : Int) := by omega
        have HS := Aside0.mk (WRow.setO (by rw [hfl]; exact HK.out.1) (rd pl k) 4)
        rw [hfl] at HS
        have hsc : fillP out pl 4 i (k + 1 - i).toNat = (fillP out pl 4 i (k - i).toNat).set (rd pl k).toNat 4 := by
          rw [show (k + 1 - i).toNat = (k - i).toNat + 1 by omega, fillP, show i + ((k - i).toNat : Int) = k by omega]
        have HSC := Aside0.mk hsc
        clear hsc hfl hrp
        go_wp2
        go_region
        go_wp2
        go_roundw
        case rel => exact ⟨k + 1, by omega, by omega, by go_num, ⟨by rw [HSC.out]; exact HS.out.1.drew, grownBy_drew (World.grownBy.trans HK.out.2 HS.out.2)⟩⟩
        case measure => simp [intOf]; omega
      · obtain rfl : k = j := by omega
        go_wp2
        go_end0
        exact ⟨rfl, HK.out.1, go, rfl, HK.out.2⟩
  have b1 : (atv out pl (i - 1) == 4) = false := beq_eq_false_iff_ne.mpr e1
  by_cases e2 : atv out pl j = 4
  · have b3 : (atv out pl j == 4) = true := beq_iff_eq.mpr e2
    obtain rfl : c = 4 := by rw [Hc.out, trmC, if_pos (.inr e2)]
    clear e1 e2
    have tok1 : True := trivial
    have AT2 := fun m => at_c (HH.out.drewN m) j (hpl j)
    go_enter Try.func17, Try.ntmps17
    go_wp2_with (first | (have _t := tok1; go_at_call 16; (with_reducible refine (AT _).mono ?_); rintro e w' ⟨rfl, ⟨m1, rfl⟩⟩; clear tok1) | (go_at_call 16; (with_reducible refine (AT2 _).mono ?_); rintro e w' ⟨rfl, ⟨m2, rfl⟩⟩))
    go_loopw [7] (fun v7 wr => ∃ k : Int, i ≤ k ∧ k ≤ j ∧ v7 = .int .i64 k ∧ Aside0 (WRow base wr g (.slice (some ⟨go, 0, none⟩) out.length co) (.slice Ap pl.length cp) (fillP out pl 4 i (k - i).toNat) pl b n ∧ W.grownBy wr (some go))) (fun v7 _ => (j - intOf v7).toNat)
    case atStart => exact ⟨i, by omega, hij, rfl, ⟨H0.out _, grownBy_drewN (World.grownBy.refl _ _) _⟩⟩
    case round =>
      obtain ⟨k, k0, k1, rfl, HK⟩ := hrel
      by_cases hlt : k < j
      · have b2 : decide (k < j) = true := decide_eq_true hlt
        have hfl := fillP_length out pl 4 i (k - i).toNat
        obtain ⟨h0, h1, _, _⟩ := HK.out.1.c
        obtain ⟨q0, q1⟩ := hpl k (by omega) (by omega)
        have hrp := (Kd.R_reads' HK.out.1.p).2.2
        obtain ⟨ad1, e1, hx1⟩ := Kd.at_int hrp k (by omega) (by omega)
        subst e1
        obtain ⟨hcO, hfO⟩ := Kd.R_celln (0 : Int) HK.out.1.o (rd pl k) q0 (by omega)
        have r0 : 0 ≤ k := by omega
        have r1 : k < (pl.length : Int) := by omega
        have HS := Aside0.mk (WRow.setO (by rw [hfl]; exact HK.out.1) (rd pl k) 4)
        rw [hfl] at HS
        have hsc : fillP out pl 4 i (k + 1 - i).toNat = (fillP out pl 4 i (k - i).toNat).set (rd pl k).toNat 4 := by
          rw [show (k + 1 - i).toNat = (k - i).toNat + 1 by omega, fillP, show i + ((k - i).toNat : Int) = k by omega]
        have HSC := Aside0.mk hsc
        clear hsc hfl hrp
        go_wp2
        go_region
        go_wp2
        go_roundw
        case rel => exact ⟨k + 1, by omega, by omega, by go_num, ⟨by rw [HSC.out]; exact HS.out.1.drew, grownBy_drew (World.grownBy.trans HK.out.2 HS.out.2)⟩⟩
        case measure => simp [intOf]; omega
      · obtain rfl : k = j := by omega
        go_wp2
        go_end0
        exact ⟨rfl, HK.out.1, go, rfl, HK.out.2⟩
  · have b3 : (atv out pl j == 4) = false := beq_eq_false_iff_ne.mpr e2
    obtain rfl : c = 14 := by rw [Hc.out, trmC, if_neg (by omega)]
    clear e1 e2
    have tok1 : True := trivial
    have AT2 := fun m => at_c (HH.out.drewN m) j (hpl j)
    go_enter Try.func17, Try.ntmps17
    go_wp2_with (first | (have _t := tok1; go_at_call 16; (with_reducible refine (AT _).mono ?_); rintro e w' ⟨rfl, ⟨m1, rfl⟩⟩; clear tok1) | (go_at_call 16; (with_reducible refine (AT2 _).mono ?_); rintro e w' ⟨rfl, ⟨m2, rfl⟩⟩))
    go_loopw [7] (fun v7 wr => ∃ k : Int, i ≤ k ∧ k ≤ j ∧ v7 = .int .i64 k ∧ Aside0 (WRow base wr g (.slice (some ⟨go, 0, none⟩) out.length co) (.slice Ap pl.length cp) (fillP out pl 14 i (k - i).toNat) pl b n ∧ W.grownBy wr (some go))) (fun v7 _ => (j - intOf v7).toNat)
    case atStart => exact ⟨i, by omega, hij, rfl, ⟨H0.out _, grownBy_drewN (World.grownBy.refl _ _) _⟩⟩
    case round =>
      obtain ⟨k, k0, k1, rfl, HK⟩ := hrel
      by_cases hlt : k < j
      · have b2 : decide (k < j) = true := decide_eq_true hlt
        have hfl := fillP_length out pl 14 i (k - i).toNat
        obtain ⟨h0, h1, _, _⟩ := HK.out.1.c
        obtain ⟨q0, q1⟩ := hpl k (by omega) (by omega)
        have hrp := (Kd.R_reads' HK.out.1.p).2.2
        obtain ⟨ad1, e1, hx1⟩ := Kd.at_int hrp k (by omega) (by omega)
        subst e1
        obtain ⟨hcO, hfO⟩ := Kd.R_celln (0 : Int) HK.out.1.o (rd pl k) q0 (by omega)
        have r0 : 0 ≤ k := by omega
        have r1 : k < (pl.length : Int) := by omega
        have HS := Aside0.mk (WRow.setO (by rw [hfl]; exact HK.out.1) (rd pl k) 14)
        rw [hfl] at HS
        have hsc : fillP out pl 14 i (k + 1 - i).toNat = (fillP out pl 14 i (k - i).toNat).set (rd pl k).toNat 14 := by
          rw [show (k + 1 - i).toNat = (k - i).toNat + 1 by omega, fillP, show i + ((k - i).toNat : Int) = k by omega]
        have HSC := Aside0.mk hsc
        clear hsc hfl hrp
        go_wp2
        go_region
        go_wp2
        go_roundw
        case rel => exact ⟨k + 1, by omega, by omega, by go_num, ⟨by rw [HSC.out]; exact HS.out.1.drew, grownBy_drew (World.grownBy.trans HK.out.2 HS.out.2)⟩⟩
        case measure => simp [intOf]; omega
      · obtain rfl : k = j := by omega
        go_wp2
        go_end0
        exact ⟨rfl, HK.out.1, go, rfl, HK.out.2⟩

end Go.Proofs.Ytnpcfiahmadkjaa.X
