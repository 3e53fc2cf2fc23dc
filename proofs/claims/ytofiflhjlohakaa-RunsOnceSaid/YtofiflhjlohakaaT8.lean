import Derived.Test.YtofiflhjlohakaaL3
/-! selvedgeref14.Levels, whole. -/
namespace Go.Proofs.Ytofiflhjlohakaa.X
open Go.RowKit Go.Proofs.YtofiflhjlohakaaW.PrintWords Go.Proofs.YtofiflhjlohakaaW.PrintLast Go.Proofs.YtofiflhjlohakaaW.PrintMore
attribute [local go_sem] max2_int min2_int max_two min_two max_three min_three max_four min_four
set_option linter.unusedVariables false
set_option linter.unusedSimpArgs false
set_option maxHeartbeats 4000000 in
set_option maxRecDepth 100000 in
theorem rlevels_big (A0 : Option Addr) (c0 : Nat) (l : List Int) (base : Int) (w : World) (hr0 : Kd.C (Kd.int .u8) w A0 l.length l) (hn : 65536 < l.length) :
    Calls Try.prog 12 #[.slice A0 l.length c0, .int .u8 base] w (LvPost w ([], [], 0, 3)) := by
  have b1 : decide (65536 < (l.length : Int)) = true := decide_eq_true (by omega)
  have b1b : decide (65536 < l.length) = true := decide_eq_true (by omega)
  clear hr0 hn
  go_enter Try.func12, Try.ntmps12
  go_wp2
  refine bodyPost_ret (results_tmp4_ rfl _ _ _) rfl ?_
  exact lv_none w 3 _ (Below.refl _ _)
set_option maxHeartbeats 4000000 in
set_option maxRecDepth 100000 in
theorem rlevels_bad (A0 : Option Addr) (c0 : Nat) (l : List Int) (base : Int) (w : World) (hr0 : Kd.C (Kd.int .u8) w A0 l.length l) (hc0 : l.length ≤ c0) (hn : l.length ≤ 65536) (hv : l.all okC = false) :
    Calls Try.prog 12 #[.slice A0 l.length c0, .int .u8 base] w (LvPost w ([], [], 0, 2)) := by
  have HR0 := Aside0.mk (And.intro hr0 hc0)
  have HV := Aside0.mk hv
  have b1 : decide (65536 < (l.length : Int)) = false := decide_eq_false (by omega)
  have b1b : decide (65536 < l.length) = false := decide_eq_false (by omega)
  have hmax : (l.length : Int) ≤ 9223372036854775807 := by omega
  clear hr0 hc0 hv
  go_enter Try.func12, Try.ntmps12
  go_wp2
  go_loop [8] (fun v8 => ∃ i : Int, 0 ≤ i ∧ i ≤ (l.length : Int) ∧ v8 = .int .i64 i ∧ Aside0 ((l.take i.toNat).all okC = true)) (fun v8 => l.length - (intOf v8).toNat)
  case atStart => exact ⟨0, by omega, by omega, rfl, ⟨rfl⟩⟩
  case round =>
    obtain ⟨i, hi0, hi1, rfl, HA⟩ := hrel
    by_cases hlt : i < (l.length : Int)
    · have bl : decide (i < (l.length : Int)) = true := decide_eq_true hlt
      obtain ⟨ad, rfl, hx⟩ := Kd.at_int HR0.out.1 i hi0 hlt
      by_cases q1 : rd l i < 1
      · have d1 : decide (rd l i < 1) = true := decide_eq_true q1
        clear q1
        go_wp2
        refine bodyPost_ret (results_tmp4_ rfl _ _ _) rfl ?_
        exact lv_none w 2 _ (Below.refl _ _)
      · have d1 : decide (rd l i < 1) = false := decide_eq_false q1
        by_cases q2 : 23 < rd l i
        · have d2 : decide (23 < rd l i) = true := decide_eq_true q2
          clear q1 q2
          go_wp2
          refine bodyPost_ret (results_tmp4_ rfl _ _ _) rfl ?_
          exact lv_none w 2 _ (Below.refl _ _)
        · have d2 : decide (23 < rd l i) = false := decide_eq_false q2
          have HN : Aside0 ((l.take (i + 1).toNat).all okC = true) := ⟨by
            have hh := HA.out
            rw [show (i + 1).toNat = i.toNat + 1 by omega, List.take_succ_eq_append_getElem (by omega), List.all_append, hh]
            obtain ⟨n, rfl⟩ := Int.eq_ofNat_of_zero_le hi0
            have hn : n < l.length := by omega
            rw [E.rd_get hn] at q1 q2
            simp only [Int.toNat_natCast, List.all_cons, List.all_nil, Bool.and_true, Bool.true_and]
            unfold okC
            exact decide_eq_true (by omega)⟩
          clear q1 q2
          go_wp2
          go_round
          case rel => exact ⟨i + 1, by omega, by omega, by go_num, HN⟩
          case measure => simp [intOf]; omega
    · exfalso
      have := HA.out
      rw [List.take_of_length_le (by omega), HV.out] at this
      cases this
set_option maxHeartbeats 4000000 in
set_option maxRecDepth 100000 in
theorem rlevels_arg (A0 : Option Addr) (c0 : Nat) (l : List Int) (base : Int) (w : World) (hr0 : Kd.C (Kd.int .u8) w A0 l.length l) (hc0 : l.length ≤ c0) (hn : l.length ≤ 65536) (hv : l.all okC = true) (hb : 2 < base) :
    Calls Try.prog 12 #[.slice A0 l.length c0, .int .u8 base] w (LvPost w ([], [], 0, 2)) := by
  have HR0 := Aside0.mk (And.intro hr0 hc0)
  have HV := Aside0.mk hv
  have b1 : decide (65536 < (l.length : Int)) = false := decide_eq_false (by omega)
  have b2 : decide (2 < base) = true := decide_eq_true (by omega)
  have hmax : (l.length : Int) ≤ 9223372036854775807 := by omega
  clear hr0 hc0 hv hb
  go_enter Try.func12, Try.ntmps12
  go_wp2
  go_loop [8] (fun v8 => ∃ i : Int, 0 ≤ i ∧ i ≤ (l.length : Int) ∧ v8 = .int .i64 i) (fun v8 => l.length - (intOf v8).toNat)
  case atStart => exact ⟨0, by omega, by omega, rfl⟩
  case round =>
    obtain ⟨i, hi0, hi1, rfl⟩ := hrel
    by_cases hlt : i < (l.length : Int)
    · have bl : decide (i < (l.length : Int)) = true := decide_eq_true hlt
      obtain ⟨ad, rfl, hx⟩ := Kd.at_int HR0.out.1 i hi0 hlt
      have hv := all_take hi0 hlt HV.out
      have q1 : decide (rd l i < 1) = false := decide_eq_false (by omega)
      have q2 : decide (23 < rd l i) = false := decide_eq_false (by omega)
      clear hv
      go_wp2
      go_round
      case rel => exact ⟨i + 1, by omega, by omega, by go_num⟩
      case measure => simp [intOf]; omega
    · have bl : decide (i < (l.length : Int)) = false := decide_eq_false hlt
      obtain rfl : i = (l.length : Int) := by omega
      go_wp2
      refine bodyPost_ret (results_tmp4_ rfl _ _ _) rfl ?_
      exact lv_none w 2 _ (Below.refl _ _)
/-- What selvedgeref14.Levels answers. -/
def selvedgeref14_Levels.f (l0 : List Int) (a1 : Int) : Option (List Int × List Int × Int × Int) := if 0 ≤ a1 then some (lvRes l0 a1) else none
theorem rlevels_c (A0 : Option Addr) (c0 : Nat) (l : List Int) (base : Int) (hb0 : 0 ≤ base) (w : World) (hr0 : Kd.C (Kd.int .u8) w A0 l.length l) (hc0 : l.length ≤ c0) :
    Calls Try.prog 12 #[.slice A0 l.length c0, .int .u8 base] w (LvPost w (lvRes l base)) := by
  by_cases q1 : 65536 < l.length
  · have e : lvRes l base = ([], [], 0, 3) := if_pos q1
    rw [e]
    exact rlevels_big A0 c0 l base w hr0 q1
  · cases hv : l.all okC with
    | false =>
      have e : lvRes l base = ([], [], 0, 2) := (if_neg q1).trans (if_pos hv)
      rw [e]
      exact rlevels_bad A0 c0 l base w hr0 hc0 (by omega) hv
    | true =>
      have hv' : ¬ l.all okC = false := by rw [hv]; decide
      by_cases q2 : 2 < base
      · have e : lvRes l base = ([], [], 0, 2) := (if_neg q1).trans ((if_neg hv').trans (if_pos q2))
        rw [e]
        exact rlevels_arg A0 c0 l base w hr0 hc0 (by omega) hv q2
      · have e : lvRes l base = ((runL (lvBase l base) l (newA (lvBase l base)) (lvBase l base)).map (·.1), (runL (lvBase l base) l (newA (lvBase l base)) (lvBase l base)).map (·.2), lvBase l base, 0) := (if_neg q1).trans ((if_neg hv').trans (if_neg q2))
        rw [e]
        by_cases q3 : base = 2
        · obtain ⟨k, hk⟩ := E.out (rbase_f l (by omega))
          have e2 : lvBase l base = (if dirS false l 0 = true then 1 else 0) := if_pos q3
          rw [e2]
          exact rlevels_ok A0 c0 l _ w hr0 hc0 (by omega) hv (by split <;> omega) (by split <;> omega) base k (.inr ⟨q3, hk⟩)
        · have e2 : lvBase l base = base := if_neg q3
          rw [e2]
          exact rlevels_ok A0 c0 l base w hr0 hc0 (by omega) hv hb0 (by omega) base 0 (.inl rfl)
theorem selvedgeref14_Levels.calls (A0 : Option Addr) (c0 : Nat) (l0 : List Int) (a1 : Int) (r1 : List Int) (r2 : List Int) (r3 : Int) (r4 : Int) (w : World) (hr0 : Kd.C (Kd.int .u8) w A0 l0.length l0) (hc0 : l0.length ≤ c0) (h : selvedgeref14_Levels.f l0 a1 = some (r1, r2, r3, r4)) :
    Calls Try.prog 12 #[.slice A0 l0.length c0, .int .u8 a1] w fun e w' => ∃ v0_ v1_ : Value, e = .returned (.tuple #[v0_, v1_, .int .u8 r3, .int .i64 r4]) ∧ Kd.R (Kd.int .u8) 5 w' w.heap.size (fun _ => True) v0_ r1 ∧ Kd.R (Kd.int .u8) 34 w' w.heap.size (fun _ => True) v1_ r2 ∧ Below w.heap.size w w' := by
  unfold selvedgeref14_Levels.f at h
  by_cases q : 0 ≤ a1
  · rw [if_pos q] at h
    have h := Option.some.inj h
    have := rlevels_c A0 c0 l0 a1 q w hr0 hc0
    rw [h] at this
    refine this.mono ?_
    rintro e w' ⟨v0_, v1_, h1, h2, h3, h4⟩
    exact ⟨v0_, v1_, h1, Kd.R_mono h2 (fun _ _ => trivial), Kd.R_mono h3 (fun _ _ => trivial), h4⟩
  · rw [if_neg q] at h
    cases h
end Go.Proofs.Ytofiflhjlohakaa.X
