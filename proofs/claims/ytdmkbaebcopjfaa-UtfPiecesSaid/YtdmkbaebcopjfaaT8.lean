import Derived.Test.YtdmkbaebcopjfaaT6
/-! The law UtfPieces: its walk, where all it asks for holds. -/
namespace Go.Proofs.Ytdmkbaebcopjfaa.X
open Go.RowKit Go.Proofs.YtdmkbaebcopjfaaW.PrintWords Go.Proofs.YtdmkbaebcopjfaaW.PrintLast Go.Proofs.YtdmkbaebcopjfaaW.PrintMore
attribute [local go_sem] max2_int min2_int max_two min_two max_three min_three max_four min_four   -- for this text's walks alone
set_option linter.unusedVariables false
set_option linter.unusedSimpArgs false

/-- How many of the first bytes begin a character. -/
def cnt (a : ByteArray) : Nat → Int
  | 0 => 0
  | n + 1 => if Go.bits .and .u8 (bt a n) 192 = 128 then cnt a n else cnt a n + 1
theorem cnt_in (a : ByteArray) : ∀ n, 0 ≤ cnt a n ∧ cnt a n ≤ n := by
  intro n
  induction n with
  | zero => exact ⟨Int.le_refl _, Int.le_refl _⟩
  | succ n ih => rw [cnt]; split <;> omega
set_option maxHeartbeats 8000000 in
set_option maxRecDepth 100000 in
theorem pieces_c (k : Nat) (a b : ByteArray) (w : World) (ha : a.size ≤ 20000) (hb : b.size ≤ 20000) (hwl : selvedgeref02_Well.f k a = some true) (h13 : 0 < a.size → bt a ((a.size : Int) - 1) ≠ 13)
    (x y : ByteArray) (r : List Int) (hx : utf_Decode.f (bytesOf a) = some (x, 0)) (hy : utf_Decode.f (bytesOf b) = some (y, 0)) (hz : utf_Decode.f (bytesOf (a ++ b)) = some (x ++ y, 0))
    (hru : utf_Runes.f a = some r) (hlen : (r.length : Int) = cnt a a.size) (hxy : x.size + y.size ≤ 9223372036854775807) :
    Calls Try.prog 7 #[.string a, .string b] w fun e w' => e = .returned (.bool true) ∧ Below w.heap.size w w' := by
  have b0 : decide (20000 < (a.size : Int)) = false := decide_eq_false (by omega)
  have b1 : decide (20000 < (b.size : Int)) = false := decide_eq_false (by omega)
  have HA := Aside0.mk ha
  have HB0 := Aside0.mk hb
  have HWL := Aside0.mk hwl
  have H13 := Aside0.mk h13
  have HX := Aside0.mk hx
  have HY := Aside0.mk hy
  have HZ := Aside0.mk hz
  have HRU := Aside0.mk hru
  have HLEN := Aside0.mk hlen
  have HXY := Aside0.mk hxy
  clear hxy ha hb hwl h13 hx hy hz hru hlen
  go_enter Try.func7, Try.ntmps7
  go_wp2_with (go_at_call 16; fail)
  refine (selvedgeref02_Well.calls k a true _ HWL.out).mono ?_
  rintro e w1 ⟨rfl, hB1⟩
  have HB := Aside0.mk hB1
  clear hB1 HWL
  have hb2 : if 0 < a.size then decide (0 < (a.size : Int)) = true ∧ decide (0 ≤ (a.size : Int) - 1) = true ∧ (∀ h : a.size - 1 < a.size, (((a[a.size - 1]'h).toNat : Int) == 13) = false) else decide (0 < (a.size : Int)) = false := by
    split
    · rename_i h
      refine ⟨decide_eq_true (by omega), decide_eq_true (by omega), fun h2 => ?_⟩
      have := bt_at a ((a.size : Int) - 1) (by omega)
      have e : ((a.size : Int) - 1).toNat = a.size - 1 := by omega
      simp only [e] at this
      rw [this]
      simp [H13.out h]
    · exact decide_eq_false (by omega)
  have hcv1 := print_bytes (P := Try.prog) 9 22 5 Try.underlying9 Try.underlying22 Try.underlying5 a w1
  have DC1 := utf_Decode.calls (some ⟨w1.heap.size, 0, none⟩) (grownCap w1 a.size 0 5) (bytesOf a) x 0 (Lib.bytesWorld w1 5 a) (bs_C w1 a (by have := HA.out; omega)) (by rw [bytesOf_length]; exact grownCap_ge _ _ _ _) HX.out
  rw [bytesOf_length] at DC1
  have HDC1 := Aside0.mk DC1
  clear DC1
  by_cases hpos : 0 < a.size
  · rw [if_pos hpos] at hb2
    obtain ⟨p1, p2, p3⟩ := hb2
    have hb3 : decide (0 < a.size) = true := decide_eq_true hpos
    clear hpos
    have hw1 : (a.size : Int) - 1 ≤ 9223372036854775807 := by have := HA.out; omega
    have hw2 : -9223372036854775808 ≤ (a.size : Int) - 1 := by omega
    have q1 : 1 ≤ (a.size : Int) := by have := of_decide_eq_true p1; omega
    have q2 : (a.size : Int) - 1 < a.size := by omega
    go_wp2_with (go_at_call 10; fail)
    refine HDC1.out.mono ?_
    rintro e w2 ⟨rfl, hB2⟩
    have HB2 := Aside0.mk ((bytes_below HB.out HB.out.size 5 a).trans (hB2.mono (Nat.le_trans HB.out.size (bs_size w1 a))))
    clear hB2 HDC1 hcv1 b0 b1 HB
    have hcv2 := print_bytes (P := Try.prog) 9 22 5 Try.underlying9 Try.underlying22 Try.underlying5 b w2
    have DC2 := utf_Decode.calls (some ⟨w2.heap.size, 0, none⟩) (grownCap w2 b.size 0 5) (bytesOf b) y 0 (Lib.bytesWorld w2 5 b) (bs_C w2 b (by have := HB0.out; omega)) (by rw [bytesOf_length]; exact grownCap_ge _ _ _ _) HY.out
    rw [bytesOf_length] at DC2
    have HDC2 := Aside0.mk DC2
    clear DC2
    go_wp2_with (go_at_call 10; fail)
    refine HDC2.out.mono ?_
    rintro e w3 ⟨rfl, hB3⟩
    have HB3 := Aside0.mk ((bytes_below HB2.out HB2.out.size 5 b).trans (hB3.mono (Nat.le_trans HB2.out.size (bs_size w2 b))))
    clear hB3 HDC2 hcv2 HB2
    have hcv3 := print_bytes (P := Try.prog) 9 22 5 Try.underlying9 Try.underlying22 Try.underlying5 (a ++ b) w3
    have hs1 : (9223372036854775807 < a.size + b.size) = False := eq_false (by have := HA.out; have := HB0.out; omega)
    have DC3 := utf_Decode.calls (some ⟨w3.heap.size, 0, none⟩) (grownCap w3 (a ++ b).size 0 5) (bytesOf (a ++ b)) (x ++ y) 0 (Lib.bytesWorld w3 5 (a ++ b)) (bs_C w3 (a ++ b) (by have := HA.out; have := HB0.out; rw [ByteArray.size_append]; omega)) (by rw [bytesOf_length]; exact grownCap_ge _ _ _ _) HZ.out
    rw [bytesOf_length, ByteArray.size_append] at DC3
    have HDC3 := Aside0.mk DC3
    clear DC3
    go_wp2_with (go_at_call 10; fail)
    refine HDC3.out.mono ?_
    rintro e w4 ⟨rfl, hB4⟩
    have HB4 := Aside0.mk ((bytes_below HB3.out HB3.out.size 5 (a ++ b)).trans (hB4.mono (Nat.le_trans HB3.out.size (bs_size w3 (a ++ b)))))
    clear hB4 HDC3 hcv3 HB3
    go_wp2
    go_loopw [11, 12] (fun v11 v12 wr => ∃ i : Int, 0 ≤ i ∧ i ≤ (a.size : Int) ∧ v12 = .int .i64 i ∧ v11 = .int .i64 (cnt a i.toNat) ∧ Aside0 (Below w4.heap.size w4 wr)) (fun _ v12 _ => a.size - (intOf v12).toNat)
    case atStart => exact ⟨0, by omega, by omega, rfl, rfl, ⟨Below.refl _ _⟩⟩
    case round =>
      as_aux_lemma =>
      obtain ⟨i, hi0, hi1, rfl, rfl, HB⟩ := hrel
      by_cases hlt : i < (a.size : Int)
      · have bl : decide (i < (a.size : Int)) = true := decide_eq_true hlt
        have bl0 : decide (0 ≤ i) = true := decide_eq_true hi0
        have hw64 : i + 1 ≤ 9223372036854775807 := by have := HA.out; omega
        have hci := cnt_in a i.toNat
        have hw65 : cnt a i.toNat + 1 ≤ 9223372036854775807 := by have := HA.out; omega
        have hw66 : -9223372036854775808 ≤ cnt a i.toNat := by omega
        have hxk : ∀ h : i.toNat < a.size, ((a[i.toNat]'h).toNat : Int) = bt a i := bt_at a i
        have hcn : cnt a (i + 1).toNat = if Go.bits .and .u8 (bt a i) 192 = 128 then cnt a i.toNat else cnt a i.toNat + 1 := by
          have e : (i + 1).toNat = i.toNat + 1 := by omega
          rw [e, cnt, Int.toNat_of_nonneg hi0]
        have HCN := Aside0.mk hcn
        clear hcn hci
        generalize hcg : cnt a i.toNat = c at hw65 hw66 ⊢
        by_cases hq : Go.bits .and .u8 (bt a i) 192 = 128
        · have hne : (Go.bits .and .u8 (bt a i) 192 != 128) = false := by simp [hq]
          go_wp2
          go_roundw
          case rel => exact ⟨i + 1, by omega, by omega, by go_num, by rw [HCN.out, if_pos hq, hcg], HB⟩
          case measure => simp [intOf]; omega
        · have hne : (Go.bits .and .u8 (bt a i) 192 != 128) = true := by simp [hq]
          go_wp2
          go_roundw
          case rel => exact ⟨i + 1, by omega, by omega, by go_num, by rw [HCN.out, if_neg hq, hcg], HB⟩
          case measure => simp [intOf]; omega
      · obtain rfl : i = a.size := by omega
        have bl : decide ((a.size : Int) < (a.size : Int)) = false := by simp
        have HB5 := Aside0.mk (HB4.out.trans (HB.out.mono HB4.out.size))
        have hs2 : (9223372036854775807 < x.size + y.size) = False := eq_false (by have := HXY.out; omega)
        have es : ((x ++ y).toList == (x ++ y).toList) = true := beq_self_eq_true _
        have en : (cnt a a.size == cnt a a.size) = true := beq_self_eq_true _
        rw [Int.toNat_natCast]
        clear HB HB4 hi0 hi1 hlt
        go_wp2_with (go_at_call 13; fail)
        refine (utf_Runes.calls a r _ HRU.out).mono ?_
        rintro e w6 ⟨v6, rfl, hR, hB6⟩
        obtain ⟨A6, c6, e6, hc6, hC6⟩ := Kd.R_reads hR
        subst e6
        have HB6 := Aside0.mk (HB5.out.trans (hB6.mono HB5.out.size))
        have hlen := HLEN.out
        clear hR hB6 hc6 hC6 HB5
        go_wp2_with (go_at_call 9; fail)
        refine (selvedgelaw02_works.calls true _ rfl).mono ?_
        rintro e w9 ⟨rfl, hB9⟩
        have HB9 := Aside0.mk (HB6.out.trans (hB9.mono HB6.out.size))
        clear hB9 HB6
        go_wp2
        go_ret
        exact ⟨rfl, HB9.out⟩
  · rw [if_neg hpos] at hb2
    have hb3 : decide (0 < a.size) = false := decide_eq_false hpos
    have hz0 : a.size = 0 := by omega
    have hz0 : a.size = 0 := by omega
    have HZ0 := Aside0.mk hz0
    rw [hz0] at HDC1 hcv1
    clear hpos hz0
    go_wp2_with (go_at_call 10; fail)
    refine HDC1.out.mono ?_
    rintro e w2 ⟨rfl, hB2⟩
    have HB2 := Aside0.mk ((bytes_below HB.out HB.out.size 5 a).trans (hB2.mono (Nat.le_trans HB.out.size (bs_size w1 a))))
    clear hB2 HDC1 hcv1 b0 b1 HB
    have hcv2 := print_bytes (P := Try.prog) 9 22 5 Try.underlying9 Try.underlying22 Try.underlying5 b w2
    have DC2 := utf_Decode.calls (some ⟨w2.heap.size, 0, none⟩) (grownCap w2 b.size 0 5) (bytesOf b) y 0 (Lib.bytesWorld w2 5 b) (bs_C w2 b (by have := HB0.out; omega)) (by rw [bytesOf_length]; exact grownCap_ge _ _ _ _) HY.out
    rw [bytesOf_length] at DC2
    have HDC2 := Aside0.mk DC2
    clear DC2
    go_wp2_with (go_at_call 10; fail)
    refine HDC2.out.mono ?_
    rintro e w3 ⟨rfl, hB3⟩
    have HB3 := Aside0.mk ((bytes_below HB2.out HB2.out.size 5 b).trans (hB3.mono (Nat.le_trans HB2.out.size (bs_size w2 b))))
    clear hB3 HDC2 hcv2 HB2
    have hcv3 := print_bytes (P := Try.prog) 9 22 5 Try.underlying9 Try.underlying22 Try.underlying5 (a ++ b) w3
    have hs1 : (9223372036854775807 < b.size) = False := eq_false (by have := HB0.out; omega)
    have DC3 := utf_Decode.calls (some ⟨w3.heap.size, 0, none⟩) (grownCap w3 (a ++ b).size 0 5) (bytesOf (a ++ b)) (x ++ y) 0 (Lib.bytesWorld w3 5 (a ++ b)) (bs_C w3 (a ++ b) (by have := HA.out; have := HB0.out; rw [ByteArray.size_append]; omega)) (by rw [bytesOf_length]; exact grownCap_ge _ _ _ _) HZ.out
    rw [bytesOf_length, ByteArray.size_append, HZ0.out, Nat.zero_add] at DC3
    have HDC3 := Aside0.mk DC3
    clear DC3
    go_wp2_with (go_at_call 10; fail)
    refine HDC3.out.mono ?_
    rintro e w4 ⟨rfl, hB4⟩
    have HB4 := Aside0.mk ((bytes_below HB3.out HB3.out.size 5 (a ++ b)).trans (hB4.mono (Nat.le_trans HB3.out.size (bs_size w3 (a ++ b)))))
    clear hB4 HDC3 hcv3 HB3
    go_wp2
    go_loopw [11, 12] (fun v11 v12 wr => ∃ i : Int, 0 ≤ i ∧ i ≤ 0 ∧ v12 = .int .i64 i ∧ v11 = .int .i64 (cnt a i.toNat) ∧ Aside0 (Below w4.heap.size w4 wr)) (fun _ v12 _ => 0)
    case atStart => exact ⟨0, by omega, by omega, rfl, rfl, ⟨Below.refl _ _⟩⟩
    case round =>
      as_aux_lemma =>
      obtain ⟨i, hi0, hi1, rfl, rfl, HB⟩ := hrel
      obtain rfl : i = 0 := by omega
      have HB5 := Aside0.mk (HB4.out.trans (HB.out.mono HB4.out.size))
      have hs2 : (9223372036854775807 < x.size + y.size) = False := eq_false (by have := HXY.out; omega)
      have es : ((x ++ y).toList == (x ++ y).toList) = true := beq_self_eq_true _
      have en : True := trivial
      clear HB HB4 hi0 hi1
      go_wp2_with (go_at_call 13; fail)
      refine (utf_Runes.calls a r _ HRU.out).mono ?_
      rintro e w6 ⟨v6, rfl, hR, hB6⟩
      obtain ⟨A6, c6, e6, hc6, hC6⟩ := Kd.R_reads hR
      subst e6
      have HB6 := Aside0.mk (HB5.out.trans (hB6.mono HB5.out.size))
      have hlen := HLEN.out
      rw [HZ0.out] at hlen
      have hlen2 : r.length = 0 := by simp [cnt] at hlen; simp [hlen]
      clear hlen
      clear hR hB6 hc6 hC6 HB5
      go_wp2_with (go_at_call 9; fail)
      refine (selvedgelaw02_works.calls true _ rfl).mono ?_
      rintro e w9 ⟨rfl, hB9⟩
      have HB9 := Aside0.mk (HB6.out.trans (hB9.mono HB6.out.size))
      clear hB9 HB6
      go_wp2
      go_ret
      exact ⟨rfl, HB9.out⟩
def selvedgelaw02_UtfPieces.f (k : Nat) (a b : ByteArray) : Option Bool := if 20000 < a.size ∨ 20000 < b.size then some true else ((selvedgeref02_Well.f k a).bind fun q => (if q = false ∨ (0 < a.size ∧ bt a ((a.size : Int) - 1) = 13) then some true else
  ((utf_Decode.f (bytesOf a)).bind fun x => ((utf_Decode.f (bytesOf b)).bind fun y => ((utf_Decode.f (bytesOf (a ++ b))).bind fun z => ((utf_Runes.f a).bind fun r =>
  (if x.2 = 0 ∧ y.2 = 0 ∧ z = (x.1 ++ y.1, 0) ∧ (r.length : Int) = cnt a a.size ∧ x.1.size + y.1.size ≤ 9223372036854775807 then some true else none)))))))
theorem selvedgelaw02_UtfPieces.mono : ∀ a0 a1 k, LeO (selvedgelaw02_UtfPieces.f k a0 a1) (selvedgelaw02_UtfPieces.f (k + 1) a0 a1) := by
  intro a0 a1 k
  unfold selvedgelaw02_UtfPieces.f
  exact LeO.ite (LeO.refl _) (LeO.bind (selvedgeref02_Well.mono a0 k) (fun _ => LeO.refl _))
set_option maxHeartbeats 4000000 in
set_option maxRecDepth 100000 in
theorem selvedgelaw02_UtfPieces.calls (k : Nat) (a0 : ByteArray) (a1 : ByteArray) (r : Bool) (w : World) (h : selvedgelaw02_UtfPieces.f k a0 a1 = some r) :
    Calls Try.prog 7 #[.string a0, .string a1] w fun e w' => e = .returned (.bool r) ∧ Below w.heap.size w w' := by
  unfold selvedgelaw02_UtfPieces.f at h
  by_cases c : 20000 < a0.size ∨ 20000 < a1.size
  · rw [if_pos c] at h
    injection h with h
    subst h
    by_cases c3 : 20000 < a0.size
    · have b0 : decide (20000 < (a0.size : Int)) = true := decide_eq_true (by omega)
      have b0n : decide (20000 < a0.size) = true := decide_eq_true (by omega)
      clear c c3
      go_enter Try.func7, Try.ntmps7
      go_wp2_with (go_at_call 9; fail)
      refine (selvedgelaw02_works.calls true _ rfl).mono ?_
      rintro e w3 ⟨rfl, hB3⟩
      have HB3 := Aside0.mk (hB3)
      clear hB3
      go_wp2
      go_ret
      exact ⟨rfl, HB3.out⟩
    · have b0 : decide (20000 < (a0.size : Int)) = false := decide_eq_false (by omega)
      have b1 : decide (20000 < (a1.size : Int)) = true := decide_eq_true (by omega)
      clear c c3
      go_enter Try.func7, Try.ntmps7
      go_wp2_with (go_at_call 9; fail)
      refine (selvedgelaw02_works.calls true _ rfl).mono ?_
      rintro e w3 ⟨rfl, hB3⟩
      have HB3 := Aside0.mk (hB3)
      clear hB3
      go_wp2
      go_ret
      exact ⟨rfl, HB3.out⟩
  · rw [if_neg c] at h
    have b0 : decide (20000 < (a0.size : Int)) = false := decide_eq_false (by omega)
    have b1 : decide (20000 < (a1.size : Int)) = false := decide_eq_false (by omega)
    obtain ⟨q, hq, h⟩ := Option.bind_eq_some_iff.mp h
    by_cases c2 : q = false ∨ (0 < a0.size ∧ bt a0 ((a0.size : Int) - 1) = 13)
    · rw [if_pos c2] at h
      injection h with h
      subst h
      have HQ := Aside0.mk hq
      have HC := Aside0.mk c
      clear hq c
      cases q with
      | false =>
        clear c2
        go_enter Try.func7, Try.ntmps7
        go_wp2_with (go_at_call 16; fail)
        refine (selvedgeref02_Well.calls k a0 false _ HQ.out).mono ?_
        rintro e w1 ⟨rfl, hB1⟩
        have HB := Aside0.mk hB1
        clear hB1
        go_wp2_with (go_at_call 9; fail)
        refine (selvedgelaw02_works.calls true _ rfl).mono ?_
        rintro e w3 ⟨rfl, hB3⟩
        have HB3 := Aside0.mk (HB.out.trans (hB3.mono HB.out.size))
        clear hB3
        go_wp2
        go_ret
        exact ⟨rfl, HB3.out⟩
      | true =>
        have c3 : 0 < a0.size ∧ bt a0 ((a0.size : Int) - 1) = 13 := c2.resolve_left (by decide)
        have p1 : decide (0 < (a0.size : Int)) = true := decide_eq_true (by omega)
        have hb3 : decide (0 < a0.size) = true := decide_eq_true c3.1
        have p3 : ∀ h : a0.size - 1 < a0.size, (((a0[a0.size - 1]'h).toNat : Int) == 13) = true := by
          intro h2
          have := bt_at a0 ((a0.size : Int) - 1) (by omega)
          have e : ((a0.size : Int) - 1).toNat = a0.size - 1 := by omega
          simp only [e] at this
          rw [this, c3.2]
          rfl
        have q1 : 1 ≤ (a0.size : Int) := by omega
        have q2 : (a0.size : Int) - 1 < a0.size := by omega
        have hw1 : (a0.size : Int) - 1 ≤ 9223372036854775807 := by have := HC.out; omega
        have hw2 : -9223372036854775808 ≤ (a0.size : Int) - 1 := by omega
        clear c2 c3
        go_enter Try.func7, Try.ntmps7
        go_wp2_with (go_at_call 16; fail)
        refine (selvedgeref02_Well.calls k a0 true _ HQ.out).mono ?_
        rintro e w1 ⟨rfl, hB1⟩
        have HB := Aside0.mk hB1
        clear hB1
        go_wp2_with (go_at_call 9; fail)
        refine (selvedgelaw02_works.calls true _ rfl).mono ?_
        rintro e w3 ⟨rfl, hB3⟩
        have HB3 := Aside0.mk (HB.out.trans (hB3.mono HB.out.size))
        clear hB3
        go_wp2
        go_ret
        exact ⟨rfl, HB3.out⟩
    · rw [if_neg c2] at h
      obtain ⟨x, hx, h⟩ := Option.bind_eq_some_iff.mp h
      obtain ⟨y, hy, h⟩ := Option.bind_eq_some_iff.mp h
      obtain ⟨z, hz, h⟩ := Option.bind_eq_some_iff.mp h
      obtain ⟨ru, hru, h⟩ := Option.bind_eq_some_iff.mp h
      split at h
      · rename_i e
        injection h with h
        subst h
        obtain ⟨e1, e2, e3, e4, e5⟩ := e
        obtain ⟨x, xf⟩ := x
        obtain ⟨y, yf⟩ := y
        dsimp only at e1 e2 e3 e4 e5
        subst e1
        subst e2
        subst e3
        cases q with
        | false => exact absurd (.inl rfl) c2
        | true => exact pieces_c k a0 a1 w (by omega) (by omega) hq (fun h1 h2 => c2 (.inr ⟨h1, h2⟩)) x y ru hx hy hz hru e4 e5
      · cases h
end Go.Proofs.Ytdmkbaebcopjfaa.X
