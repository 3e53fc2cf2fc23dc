import Derived.Test.YtdmkbaebcopjfaaT6
/-! The law UtfBack: its walk, where all it asks for holds. -/
namespace Go.Proofs.Ytdmkbaebcopjfaa.X
open Go.RowKit Go.Proofs.YtdmkbaebcopjfaaW.PrintWords Go.Proofs.YtdmkbaebcopjfaaW.PrintLast Go.Proofs.YtdmkbaebcopjfaaW.PrintMore
attribute [local go_sem] max2_int min2_int max_two min_two max_three min_three max_four min_four   -- for this text's walks alone
set_option linter.unusedVariables false
set_option linter.unusedSimpArgs false

/-- What a character comes back as. -/
def fx (a : Int) : Int := if a < 0 ∨ 1114111 < a ∨ (55296 ≤ a ∧ a ≤ 57343) then 65533 else a
set_option maxHeartbeats 8000000 in
set_option maxRecDepth 100000 in
theorem back_c (k : Nat) (A0 : Option Addr) (c0 : Nat) (l0 : List Int) (A1 : Option Addr) (c1 : Nat) (l1 : List Int) (w : World) (hr0 : Kd.C (Kd.int .u8) w A0 l0.length l0) (hc0 : l0.length ≤ c0) (hr1 : Kd.C (Kd.int .i32) w A1 l1.length l1) (hc1 : l1.length ≤ c1)
    (h0 : l0.length ≤ 60000) (h1 : l1.length ≤ 20000) (s u : ByteArray) (r v : List Int)
    (hd : utf_Decode.f l0 = some (s, 0)) (hwl : selvedgeref02_Well.f k s = some true) (h13 : ∀ i : Int, bt s i ≠ 13) (hss : s.size ≤ 9223372036854775807)
    (hdd : s.size ≤ 65536 → utf_Decode.f (bytesOf s) = some (s, 0)) (hru : utf_Runes.f s = some r) (hst : utf_String.f r = some s) (hsu : utf_String.f l1 = some u) (hrv : utf_Runes.f u = some v) (heq : v = l1.map fx) :
    Calls Try.prog 6 #[.slice A0 l0.length c0, .slice A1 l1.length c1] w fun e w' => e = .returned (.bool true) ∧ Below w.heap.size w w' := by
  have b0 : decide (60000 < (l0.length : Int)) = false := decide_eq_false (by omega)
  have b1 : decide (20000 < (l1.length : Int)) = false := decide_eq_false (by omega)
  have DC := utf_Decode.calls A0 c0 l0 s 0 w hr0 hc0 hd
  have HR1 := Aside0.mk hr1
  have HC1 := Aside0.mk hc1
  have HL1 := Aside0.mk h1
  have HDC := Aside0.mk DC
  have HWL := Aside0.mk hwl
  have H13 := Aside0.mk h13
  have HSS := Aside0.mk hss
  have HDD := Aside0.mk hdd
  have HRU := Aside0.mk hru
  have HST := Aside0.mk hst
  have HSU := Aside0.mk hsu
  have HRV := Aside0.mk hrv
  have HEQ := Aside0.mk heq
  clear hr0 hc0 hr1 hc1 h0 h1 hd hwl h13 hss hdd hru hst hsu hrv heq DC
  go_enter Try.func6, Try.ntmps6
  go_wp2_with (go_at_call 10; fail)
  refine HDC.out.mono ?_
  rintro e w1 ⟨rfl, hB1⟩
  have HB1 := Aside0.mk hB1
  clear hB1 HDC b0 b1
  go_wp2_with (go_at_call 16; fail)
  refine (selvedgeref02_Well.calls k s true _ HWL.out).mono ?_
  rintro e w2 ⟨rfl, hB2⟩
  have HB2 := Aside0.mk (HB1.out.trans (hB2.mono HB1.out.size))
  clear hB2 HB1 HWL
  go_wp2
  go_loopw [7] (fun v7 wr => ∃ i : Int, 0 ≤ i ∧ i ≤ (s.size : Int) ∧ v7 = .int .i64 i ∧ Aside0 (Below w2.heap.size w2 wr)) (fun v7 _ => s.size - (intOf v7).toNat)
  case atStart => exact ⟨0, by omega, by omega, rfl, ⟨Below.refl _ _⟩⟩
  case round =>
    as_aux_lemma =>
    obtain ⟨i, hi0, hi1, rfl, HB⟩ := hrel
    by_cases hlt : i < (s.size : Int)
    · have bl : decide (i < (s.size : Int)) = true := decide_eq_true hlt
      have bl0 : decide (0 ≤ i) = true := decide_eq_true hi0
      have hw64 : i + 1 ≤ 9223372036854775807 := by have := HSS.out; omega
      have hxk : ∀ h : i.toNat < s.size, ((s[i.toNat]'h).toNat : Int) = bt s i := bt_at s i
      have hne : (bt s i == 13) = false := by simp [H13.out i]
      go_wp2
      go_roundw
      case rel => exact ⟨i + 1, by omega, by omega, by go_num, HB⟩
      case measure => simp [intOf]; omega
    · obtain rfl : i = s.size := by omega
      have bl : decide ((s.size : Int) < (s.size : Int)) = false := by simp
      have HB0 := Aside0.mk (HB2.out.trans (HB.out.mono HB2.out.size))
      clear HB HB2 H13
      by_cases hbig : s.size ≤ 65536
      · have bb : decide ((s.size : Int) ≤ 65536) = true := decide_eq_true (by omega)
        have hcv2 := print_bytes (P := Try.prog) 9 22 5 Try.underlying9 Try.underlying22 Try.underlying5 s wr
        have DC := utf_Decode.calls (some ⟨wr.heap.size, 0, none⟩) (grownCap wr s.size 0 5) (bytesOf s) s 0 (Lib.bytesWorld wr 5 s) (bs_C wr s HSS.out) (by rw [bytesOf_length]; exact grownCap_ge _ _ _ _) (HDD.out hbig)
        rw [bytesOf_length] at DC
        have HDC := Aside0.mk DC
        clear DC HDD hbig hi0 hi1 hlt
        go_wp2_with (go_at_call 10; fail)
        refine HDC.out.mono ?_
        rintro e w3 ⟨rfl, hB3⟩
        have HB := Aside0.mk ((bytes_below HB0.out HB0.out.size 5 s).trans (hB3.mono (Nat.le_trans HB0.out.size (bs_size wr s))))
        have es : (s.toList != s.toList) = false := by simp
        clear hB3 HDC hcv2 HB0 bb
        go_wp2_with (go_at_call 13; fail)
        refine (utf_Runes.calls s r _ HRU.out).mono ?_
        rintro e w4 ⟨v4, rfl, hR, hB4⟩
        obtain ⟨A4, c4, e4, hc4, hC4⟩ := Kd.R_reads hR
        subst e4
        have HB4 := Aside0.mk (HB.out.trans (hB4.mono HB.out.size))
        have ST := Aside0.mk (utf_String.calls A4 c4 r s w4 hC4 hc4 HST.out)
        clear hR hB4 hc4 hC4
        go_wp2_with (go_at_call 14; fail)
        refine ST.out.mono ?_
        rintro e w5 ⟨rfl, hB5⟩
        have HB5 := Aside0.mk (HB4.out.trans (hB5.mono HB4.out.size))
        clear hB5 ST
        have es : (s.toList != s.toList) = false := by simp
        have U := Aside0.mk (utf_String.calls A1 c1 l1 u w5 (Kd.C_below HR1.out HB5.out) HC1.out HSU.out)
        go_wp2_with (go_at_call 14; fail)
        refine U.out.mono ?_
        rintro e w6 ⟨rfl, hB6⟩
        have HB6 := Aside0.mk (HB5.out.trans (hB6.mono HB5.out.size))
        clear hB6 U es
        go_wp2_with (go_at_call 13; fail)
        refine (utf_Runes.calls u v _ HRV.out).mono ?_
        rintro e w7 ⟨v7, rfl, hR7, hB7⟩
        obtain ⟨A7, c7, e7, hc7, hC7⟩ := Kd.R_reads hR7
        subst e7
        have HB7 := Aside0.mk (HB6.out.trans (hB7.mono HB6.out.size))
        have HC7 := Aside0.mk hC7
        clear hR7 hB7 hc7 hC7 HB4 HB5 HB6 HB
        have elen : v.length = l1.length := by rw [HEQ.out, List.length_map]
        have el : ((l1.length : Int) != (l1.length : Int)) = false := by simp
        rw [elen]
        rw [elen] at HC7
        clear elen
        go_wp2
        clear el
        go_loopw [11, 12] (fun v11 v12 wr => ∃ i : Int, 0 ≤ i ∧ i ≤ (l1.length : Int) ∧ v11 = .int .i64 i ∧ Aside0 (Below w7.heap.size w7 wr)) (fun v11 _ _ => l1.length - (intOf v11).toNat)
        case atStart => exact ⟨0, by omega, by omega, rfl, ⟨Below.refl _ _⟩⟩
        case round =>
          as_aux_lemma =>
          obtain ⟨i, hi0, hi1, rfl, HB⟩ := hrel
          by_cases hlt : i < (l1.length : Int)
          · have bl : decide (i < (l1.length : Int)) = true := decide_eq_true hlt
            have hw64 : i + 1 ≤ 9223372036854775807 := by have := HL1.out; omega
            obtain ⟨ad, e1, x0⟩ := Kd.at_int HR1.out i hi0 hlt
            subst e1
            have HW := Aside0.mk (HB7.out.trans (HB.out.mono HB7.out.size))
            replace x0 := (HW.out.cell (World.block_lt_of_cell? w _ x0)).trans x0
            have hlv : i < (v.length : Int) := by rw [HEQ.out, List.length_map]; exact hlt
            have HC7' : Kd.C (Kd.int .i32) w7 A7 v.length v := by
              have := HC7.out
              rwa [← (show v.length = l1.length by rw [HEQ.out, List.length_map])] at this
            obtain ⟨ad7, e7, x1⟩ := Kd.at_int HC7' i hi0 hlv
            subst e7
            replace x1 := (HB.out.cell (World.block_lt_of_cell? w7 _ x1)).trans x1
            have hfx : rd v i = fx (rd l1 i) := by
              rw [HEQ.out]
              obtain ⟨n, rfl⟩ := Int.eq_ofNat_of_zero_le hi0
              have hn : n < l1.length := by omega
              simp [rd, hn]
            rw [hfx] at x1
            clear hfx HC7' HW hlv
            generalize rd l1 i = a at x0 x1
            by_cases q1 : a < 0
            · have p1 : decide (a < 0) = true := decide_eq_true q1
              have hx : fx a = 65533 := if_pos (.inl q1)
              rw [hx] at x1
              clear hx q1
              go_wp2
              go_roundw
              case rel => exact ⟨i + 1, by omega, by omega, by go_num, HB⟩
              case measure => simp [intOf]; omega
            have p1 : decide (a < 0) = false := decide_eq_false q1
            by_cases q2 : 1114111 < a
            · have p2 : decide (1114111 < a) = true := decide_eq_true q2
              have hx : fx a = 65533 := if_pos (.inr (.inl q2))
              rw [hx] at x1
              clear hx q1 q2
              go_wp2
              go_roundw
              case rel => exact ⟨i + 1, by omega, by omega, by go_num, HB⟩
              case measure => simp [intOf]; omega
            have p2 : decide (1114111 < a) = false := decide_eq_false q2
            by_cases q3 : 55296 ≤ a
            · have p3 : decide (55296 ≤ a) = true := decide_eq_true q3
              by_cases q4 : a ≤ 57343
              · have p4 : decide (a ≤ 57343) = true := decide_eq_true q4
                have hx : fx a = 65533 := if_pos (.inr (.inr ⟨q3, q4⟩))
                rw [hx] at x1
                clear hx q1 q2 q3 q4
                go_wp2
                go_roundw
                case rel => exact ⟨i + 1, by omega, by omega, by go_num, HB⟩
                case measure => simp [intOf]; omega
              · have p4 : decide (a ≤ 57343) = false := decide_eq_false q4
                have hx : fx a = a := if_neg (by omega)
                rw [hx] at x1
                have p5 : (a != a) = false := by simp
                clear hx q1 q2 q3 q4
                go_wp2
                go_roundw
                case rel => exact ⟨i + 1, by omega, by omega, by go_num, HB⟩
                case measure => simp [intOf]; omega
            · have p3 : decide (55296 ≤ a) = false := decide_eq_false q3
              have hx : fx a = a := if_neg (by omega)
              rw [hx] at x1
              have p5 : (a != a) = false := by simp
              clear hx q1 q2 q3
              go_wp2
              go_roundw
              case rel => exact ⟨i + 1, by omega, by omega, by go_num, HB⟩
              case measure => simp [intOf]; omega
          · obtain rfl : i = l1.length := by omega
            have bl : decide ((l1.length : Int) < (l1.length : Int)) = false := by simp
            go_wp2_with (go_at_call 9; fail)
            refine (selvedgelaw02_works.calls true _ rfl).mono ?_
            rintro e w9 ⟨rfl, hB9⟩
            have HB9 := Aside0.mk ((HB7.out.trans (HB.out.mono HB7.out.size)).trans (hB9.mono (Nat.le_trans HB7.out.size HB.out.size)))
            clear hB9
            go_wp2
            go_ret
            exact ⟨rfl, HB9.out⟩
      · have bb : decide ((s.size : Int) ≤ 65536) = false := decide_eq_false (by omega)
        have HB := HB0
        clear HDD hbig hi0 hi1 hlt HB0
        go_wp2_with (go_at_call 13; fail)
        refine (utf_Runes.calls s r _ HRU.out).mono ?_
        rintro e w4 ⟨v4, rfl, hR, hB4⟩
        obtain ⟨A4, c4, e4, hc4, hC4⟩ := Kd.R_reads hR
        subst e4
        have HB4 := Aside0.mk (HB.out.trans (hB4.mono HB.out.size))
        have ST := Aside0.mk (utf_String.calls A4 c4 r s w4 hC4 hc4 HST.out)
        clear hR hB4 hc4 hC4
        go_wp2_with (go_at_call 14; fail)
        refine ST.out.mono ?_
        rintro e w5 ⟨rfl, hB5⟩
        have HB5 := Aside0.mk (HB4.out.trans (hB5.mono HB4.out.size))
        clear hB5 ST
        have es : (s.toList != s.toList) = false := by simp
        have U := Aside0.mk (utf_String.calls A1 c1 l1 u w5 (Kd.C_below HR1.out HB5.out) HC1.out HSU.out)
        go_wp2_with (go_at_call 14; fail)
        refine U.out.mono ?_
        rintro e w6 ⟨rfl, hB6⟩
        have HB6 := Aside0.mk (HB5.out.trans (hB6.mono HB5.out.size))
        clear hB6 U es
        go_wp2_with (go_at_call 13; fail)
        refine (utf_Runes.calls u v _ HRV.out).mono ?_
        rintro e w7 ⟨v7, rfl, hR7, hB7⟩
        obtain ⟨A7, c7, e7, hc7, hC7⟩ := Kd.R_reads hR7
        subst e7
        have HB7 := Aside0.mk (HB6.out.trans (hB7.mono HB6.out.size))
        have HC7 := Aside0.mk hC7
        clear hR7 hB7 hc7 hC7 HB4 HB5 HB6 HB
        have elen : v.length = l1.length := by rw [HEQ.out, List.length_map]
        have el : ((l1.length : Int) != (l1.length : Int)) = false := by simp
        rw [elen]
        rw [elen] at HC7
        clear elen
        go_wp2
        clear el
        go_loopw [11, 12] (fun v11 v12 wr => ∃ i : Int, 0 ≤ i ∧ i ≤ (l1.length : Int) ∧ v11 = .int .i64 i ∧ Aside0 (Below w7.heap.size w7 wr)) (fun v11 _ _ => l1.length - (intOf v11).toNat)
        case atStart => exact ⟨0, by omega, by omega, rfl, ⟨Below.refl _ _⟩⟩
        case round =>
          as_aux_lemma =>
          obtain ⟨i, hi0, hi1, rfl, HB⟩ := hrel
          by_cases hlt : i < (l1.length : Int)
          · have bl : decide (i < (l1.length : Int)) = true := decide_eq_true hlt
            have hw64 : i + 1 ≤ 9223372036854775807 := by have := HL1.out; omega
            obtain ⟨ad, e1, x0⟩ := Kd.at_int HR1.out i hi0 hlt
            subst e1
            have HW := Aside0.mk (HB7.out.trans (HB.out.mono HB7.out.size))
            replace x0 := (HW.out.cell (World.block_lt_of_cell? w _ x0)).trans x0
            have hlv : i < (v.length : Int) := by rw [HEQ.out, List.length_map]; exact hlt
            have HC7' : Kd.C (Kd.int .i32) w7 A7 v.length v := by
              have := HC7.out
              rwa [← (show v.length = l1.length by rw [HEQ.out, List.length_map])] at this
            obtain ⟨ad7, e7, x1⟩ := Kd.at_int HC7' i hi0 hlv
            subst e7
            replace x1 := (HB.out.cell (World.block_lt_of_cell? w7 _ x1)).trans x1
            have hfx : rd v i = fx (rd l1 i) := by
              rw [HEQ.out]
              obtain ⟨n, rfl⟩ := Int.eq_ofNat_of_zero_le hi0
              have hn : n < l1.length := by omega
              simp [rd, hn]
            rw [hfx] at x1
            clear hfx HC7' HW hlv
            generalize rd l1 i = a at x0 x1
            by_cases q1 : a < 0
            · have p1 : decide (a < 0) = true := decide_eq_true q1
              have hx : fx a = 65533 := if_pos (.inl q1)
              rw [hx] at x1
              clear hx q1
              go_wp2
              go_roundw
              case rel => exact ⟨i + 1, by omega, by omega, by go_num, HB⟩
              case measure => simp [intOf]; omega
            have p1 : decide (a < 0) = false := decide_eq_false q1
            by_cases q2 : 1114111 < a
            · have p2 : decide (1114111 < a) = true := decide_eq_true q2
              have hx : fx a = 65533 := if_pos (.inr (.inl q2))
              rw [hx] at x1
              clear hx q1 q2
              go_wp2
              go_roundw
              case rel => exact ⟨i + 1, by omega, by omega, by go_num, HB⟩
              case measure => simp [intOf]; omega
            have p2 : decide (1114111 < a) = false := decide_eq_false q2
            by_cases q3 : 55296 ≤ a
            · have p3 : decide (55296 ≤ a) = true := decide_eq_true q3
              by_cases q4 : a ≤ 57343
              · have p4 : decide (a ≤ 57343) = true := decide_eq_true q4
                have hx : fx a = 65533 := if_pos (.inr (.inr ⟨q3, q4⟩))
                rw [hx] at x1
                clear hx q1 q2 q3 q4
                go_wp2
                go_roundw
                case rel => exact ⟨i + 1, by omega, by omega, by go_num, HB⟩
                case measure => simp [intOf]; omega
              · have p4 : decide (a ≤ 57343) = false := decide_eq_false q4
                have hx : fx a = a := if_neg (by omega)
                rw [hx] at x1
                have p5 : (a != a) = false := by simp
                clear hx q1 q2 q3 q4
                go_wp2
                go_roundw
                case rel => exact ⟨i + 1, by omega, by omega, by go_num, HB⟩
                case measure => simp [intOf]; omega
            · have p3 : decide (55296 ≤ a) = false := decide_eq_false q3
              have hx : fx a = a := if_neg (by omega)
              rw [hx] at x1
              have p5 : (a != a) = false := by simp
              clear hx q1 q2 q3
              go_wp2
              go_roundw
              case rel => exact ⟨i + 1, by omega, by omega, by go_num, HB⟩
              case measure => simp [intOf]; omega
          · obtain rfl : i = l1.length := by omega
            have bl : decide ((l1.length : Int) < (l1.length : Int)) = false := by simp
            go_wp2_with (go_at_call 9; fail)
            refine (selvedgelaw02_works.calls true _ rfl).mono ?_
            rintro e w9 ⟨rfl, hB9⟩
            have HB9 := Aside0.mk ((HB7.out.trans (HB.out.mono HB7.out.size)).trans (hB9.mono (Nat.le_trans HB7.out.size HB.out.size)))
            clear hB9
            go_wp2
            go_ret
            exact ⟨rfl, HB9.out⟩
def selvedgelaw02_UtfBack.f (k : Nat) (l0 : List Int) (l1 : List Int) : Option Bool := if 60000 < l0.length ∨ 20000 < l1.length then some true else ((utf_Decode.f l0).bind fun p => ((selvedgeref02_Well.f k p.1).bind fun q => ((utf_Runes.f p.1).bind fun r => ((utf_String.f r).bind fun s => ((utf_String.f l1).bind fun u => ((utf_Runes.f u).bind fun v =>
  (if p.2 = 0 ∧ q = true ∧ (bytesOf p.1).all (· != 13) = true ∧ p.1.size ≤ 9223372036854775807 ∧ (p.1.size ≤ 65536 → utf_Decode.f (bytesOf p.1) = some (p.1, 0)) ∧ s = p.1 ∧ v = l1.map fx then some true else none)))))))
theorem selvedgelaw02_UtfBack.mono : ∀ a0 a1 k, LeO (selvedgelaw02_UtfBack.f k a0 a1) (selvedgelaw02_UtfBack.f (k + 1) a0 a1) := by
  intro a0 a1 k
  unfold selvedgelaw02_UtfBack.f
  exact LeO.ite (LeO.refl _) (LeO.bind (LeO.refl _) (fun p => LeO.bind (selvedgeref02_Well.mono p.1 k) (fun _ => LeO.refl _)))
set_option maxHeartbeats 4000000 in
set_option maxRecDepth 100000 in
theorem selvedgelaw02_UtfBack.calls (k : Nat) (A0 : Option Addr) (c0 : Nat) (l0 : List Int) (A1 : Option Addr) (c1 : Nat) (l1 : List Int) (r : Bool) (w : World) (hr0 : Kd.C (Kd.int .u8) w A0 l0.length l0) (hc0 : l0.length ≤ c0) (hr1 : Kd.C (Kd.int .i32) w A1 l1.length l1) (hc1 : l1.length ≤ c1) (h : selvedgelaw02_UtfBack.f k l0 l1 = some r) :
    Calls Try.prog 6 #[.slice A0 l0.length c0, .slice A1 l1.length c1] w fun e w' => e = .returned (.bool r) ∧ Below w.heap.size w w' := by
  unfold selvedgelaw02_UtfBack.f at h
  by_cases c : 60000 < l0.length ∨ 20000 < l1.length
  · rw [if_pos c] at h
    injection h with h
    subst h
    clear hr0 hc0 hr1 hc1
    by_cases c3 : 60000 < l0.length
    · have b0 : decide (60000 < (l0.length : Int)) = true := decide_eq_true (by omega)
      clear c c3
      go_enter Try.func6, Try.ntmps6
      go_wp2_with (go_at_call 9; fail)
      refine (selvedgelaw02_works.calls true _ rfl).mono ?_
      rintro e w3 ⟨rfl, hB3⟩
      have HB3 := Aside0.mk hB3
      clear hB3
      go_wp2
      go_ret
      exact ⟨rfl, HB3.out⟩
    · have b0 : decide (60000 < (l0.length : Int)) = false := decide_eq_false (by omega)
      have b1 : decide (20000 < (l1.length : Int)) = true := decide_eq_true (by omega)
      clear c c3
      go_enter Try.func6, Try.ntmps6
      go_wp2_with (go_at_call 9; fail)
      refine (selvedgelaw02_works.calls true _ rfl).mono ?_
      rintro e w3 ⟨rfl, hB3⟩
      have HB3 := Aside0.mk hB3
      clear hB3
      go_wp2
      go_ret
      exact ⟨rfl, HB3.out⟩
  · rw [if_neg c] at h
    obtain ⟨p, hp, h⟩ := Option.bind_eq_some_iff.mp h
    obtain ⟨q, hq, h⟩ := Option.bind_eq_some_iff.mp h
    obtain ⟨ru, hru, h⟩ := Option.bind_eq_some_iff.mp h
    obtain ⟨st, hst, h⟩ := Option.bind_eq_some_iff.mp h
    obtain ⟨u, hu, h⟩ := Option.bind_eq_some_iff.mp h
    obtain ⟨v, hv, h⟩ := Option.bind_eq_some_iff.mp h
    split at h
    · rename_i e
      injection h with h
      subst h
      obtain ⟨e1, e2, e3, e4, e5, e6, e7⟩ := e
      obtain ⟨s, f⟩ := p
      dsimp only at e1 e2 e3 e4 e5 e6 e7 hq hru hst
      subst e1
      subst e2
      rw [e6] at hst
      refine back_c k A0 c0 l0 A1 c1 l1 w hr0 hc0 hr1 hc1 (by omega) (by omega) s u ru v hp hq ?_ e4 e5 hru hst hu hv e7
      intro i
      unfold bt
      split
      · rename_i hi
        have := List.all_eq_true.1 e3 ((s[i.toNat]'hi).toNat : Int) (by unfold bytesOf; exact List.mem_map.2 ⟨s[i.toNat]'hi, by rw [ByteArray.getElem_eq_getElem_data]; simp, rfl⟩)
        simpa using this
      · decide
    · cases h
end Go.Proofs.Ytdmkbaebcopjfaa.X
