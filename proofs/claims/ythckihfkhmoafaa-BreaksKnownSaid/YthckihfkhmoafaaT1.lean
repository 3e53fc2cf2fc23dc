import Derived.Test.YthckihfkhmoafaaX0
import Derived.Outline
namespace Go.Proofs.Ythckihfkhmoafaa.X
open Go.RowKit Go.Proofs.YthckihfkhmoafaaW.PrintWords Go.Proofs.YthckihfkhmoafaaW.PrintLast Go.Proofs.YthckihfkhmoafaaW.PrintMore
attribute [local go_sem] max2_int min2_int max_two min_two max_three min_three max_four min_four   -- for this text's walks alone
set_option linter.unusedVariables false
set_option linter.unusedSimpArgs false

/-- An item that may not be. -/
def brBad (x : S36) : Bool := decide (x.f1 < 0) || (decide (4096 < x.f1) || (decide (x.f2 < 0) || (decide (16777216 < x.f2) || (decide (x.f3 < 0) || decide (16777216 < x.f3)))))
def v36 (x : S36) : Value := .agg #[.int .i32 x.f0, .int .i64 x.f1, .int .i64 x.f2, .int .i64 x.f3]
/-- What a call leaves that answers b and makes new blocks alone. -/
def BoolB (b : Bool) (w : World) (e : Ending) (w' : World) : Prop := e = .returned (.bool b) ∧ Below w.heap.size w w'
def IntB (n : Int) (w : World) (e : Ending) (w' : World) : Prop := e = .returned (.int .i64 n) ∧ Below w.heap.size w w'
set_option maxHeartbeats 4000000 in
set_option maxRecDepth 100000 in
theorem bad_c (x : S36) (w : World) : Calls Try.prog 32 #[v36 x] w (BoolB (brBad x) w) := by
  have hu := Try.underlying36
  obtain ⟨x0, x1, x2, x3⟩ := x
  unfold v36 brBad
  dsimp only
  have HB : Below w.heap.size w (w.alloc (.cells #[.int .i32 x0, .int .i64 x1, .int .i64 x2, .int .i64 x3] 36)) := (Below.refl _ _).alloc (Nat.le_refl _) _
  obtain ⟨b1, h1⟩ : ∃ b, decide (x1 < 0) = b := ⟨_, rfl⟩
  obtain ⟨b2, h2⟩ : ∃ b, decide (4096 < x1) = b := ⟨_, rfl⟩
  obtain ⟨b3, h3⟩ : ∃ b, decide (x2 < 0) = b := ⟨_, rfl⟩
  obtain ⟨b4, h4⟩ : ∃ b, decide (16777216 < x2) = b := ⟨_, rfl⟩
  obtain ⟨b5, h5⟩ : ∃ b, decide (x3 < 0) = b := ⟨_, rfl⟩
  obtain ⟨b6, h6⟩ : ∃ b, decide (16777216 < x3) = b := ⟨_, rfl⟩
  rw [h1, h2, h3, h4, h5, h6]
  cases b1
  · cases b2
    · cases b3
      · cases b4
        · cases b5
          · go_enter Try.func32, Try.ntmps32
            go_wp2
            go_ret
            exact ⟨rfl, HB⟩
          · go_enter Try.func32, Try.ntmps32
            go_wp2
            go_ret
            exact ⟨rfl, HB⟩
        · go_enter Try.func32, Try.ntmps32
          go_wp2
          go_ret
          exact ⟨rfl, HB⟩
      · go_enter Try.func32, Try.ntmps32
        go_wp2
        go_ret
        exact ⟨rfl, HB⟩
    · go_enter Try.func32, Try.ntmps32
      go_wp2
      go_ret
      exact ⟨rfl, HB⟩
  · go_enter Try.func32, Try.ntmps32
    go_wp2
    go_ret
    exact ⟨rfl, HB⟩
/-- What slices.IndexFunc of the items that may not be leaves: a place, or less than none. -/
def IdxB (b : Bool) (w : World) (e : Ending) (w' : World) : Prop := ∃ n : Int, e = .returned (.int .i64 n) ∧ decide (0 ≤ n) = b ∧ Below w.heap.size w w'
theorem any_step (l : List S36) (i : Int) (h0 : 0 ≤ i) (h1 : i < (l.length : Int)) : (l.drop i.toNat).any brBad = (brBad (rd_T36 l i) || (l.drop (i + 1).toNat).any brBad) := by
  obtain ⟨n, rfl⟩ := Int.eq_ofNat_of_zero_le h0
  have hn : n < l.length := by omega
  rw [show ((n : Int) + 1).toNat = n + 1 by omega, Int.toNat_natCast, List.drop_eq_getElem_cons hn, List.any_cons]
  simp [rd_T36, hn]
set_option maxHeartbeats 4000000 in
set_option maxRecDepth 100000 in
theorem index_c (A0 : Option Addr) (c0 : Nat) (l0 : List S36) (w : World) (hr0 : Kd.C k36 w A0 l0.length l0) (hl : l0.length < 17592186044416) :
    Calls Try.prog 37 #[.slice A0 l0.length c0, .func (.func 32) #[] #[]] w (IdxB (l0.any brBad) w) := by
  have hu := Try.underlying36
  have HR0 := Aside0.mk hr0
  clear hr0
  have HL := Aside0.mk hl
  clear hl
  go_enter Try.func37, Try.ntmps37
  go_wp2
  go_loopw [8] (fun v wr => ∃ i : Int, 0 ≤ i ∧ i ≤ (l0.length : Int) ∧ v = .int .i64 i ∧ Aside0 ((l0.drop i.toNat).any brBad = l0.any brBad) ∧ Aside0 (Below w.heap.size w wr)) (fun v _ => l0.length - (intOf v).toNat)
  case atStart => exact ⟨0, by omega, by omega, rfl, ⟨rfl⟩, ⟨Below.refl _ _⟩⟩
  case round =>
    obtain ⟨i, hi0, hi1, rfl, HA, HB⟩ := hrel
    by_cases hlt : i < (l0.length : Int)
    · obtain ⟨ad, e1, x0, x1, x2, x3⟩ := at_T36 HR0.out i hi0 hlt
      subst e1
      have b1 : decide (i < (l0.length : Int)) = true := decide_eq_true hlt
      replace x0 := (HB.out.cell (World.block_lt_of_cell? w _ x0)).trans x0
      replace x1 := (HB.out.cell (World.block_lt_of_cell? w _ x1)).trans x1
      replace x2 := (HB.out.cell (World.block_lt_of_cell? w _ x2)).trans x2
      replace x3 := (HB.out.cell (World.block_lt_of_cell? w _ x3)).trans x3
      have hst := any_step l0 i hi0 hlt
      have HS := Aside0.mk hst
      clear hst
      have hw64 : i + 1 ≤ 9223372036854775807 := by have := HL.out; omega
      by_cases hb : brBad (rd_T36 l0 i) = true
      · have HBad := Aside0.mk hb
        clear hb
        have BAD := bad_c (rd_T36 l0 i) wr
        unfold v36 at BAD
        go_wp2_with (go_at_call 32; (with_reducible refine BAD.mono ?_); rintro e w' ⟨rfl, hB⟩; rw [HBad.out])
        go_ret
        refine ⟨i, rfl, ?_, below_step HB.out hB⟩
        rw [← HA.out, HS.out, HBad.out]
        simp [hi0]
      · have HBad := Aside0.mk (Bool.eq_false_iff.mpr hb)
        clear hb
        have BAD := bad_c (rd_T36 l0 i) wr
        unfold v36 at BAD
        go_wp2_with (go_at_call 32; (with_reducible refine BAD.mono ?_); rintro e w' ⟨rfl, hB⟩; rw [HBad.out])
        go_roundw
        case rel => exact ⟨i + 1, by omega, by omega, by go_num, ⟨by rw [← HA.out, HS.out, HBad.out]; rfl⟩, ⟨below_step HB.out hB⟩⟩
        case measure => simp [intOf]; omega
    · obtain rfl : i = l0.length := by omega
      have b1 : decide ((l0.length : Int) < (l0.length : Int)) = false := by simp
      go_wp2
      go_ret
      refine ⟨-1, rfl, ?_, HB.out⟩
      rw [← HA.out]
      simp
set_option maxRecDepth 100000 in
theorem contains_c (A0 : Option Addr) (c0 : Nat) (l0 : List S36) (w : World) (hr0 : Kd.C k36 w A0 l0.length l0) (hl : l0.length < 17592186044416) :
    Calls Try.prog 33 #[.slice A0 l0.length c0, .func (.func 32) #[] #[]] w (BoolB (l0.any brBad) w) := by
  go_enter Try.func33, Try.ntmps33
  go_wp2_with (go_at_call 37; (with_reducible refine (index_c A0 c0 l0 w hr0 hl).mono ?_); rintro e w' ⟨n, rfl, hn, hB⟩)
  go_ret
  exact ⟨by simp [hn], hB⟩
def breaks_may.f (l0 : List S36) : Option Int := if l0.length < 17592186044416 then some (if (l0.length : Int) > 65536 then 3 else if l0.any brBad then 2 else 0) else none
set_option maxRecDepth 100000 in
theorem breaks_may.calls (A0 : Option Addr) (c0 : Nat) (l0 : List S36) (r : Int) (w : World) (hr0 : Kd.C k36 w A0 l0.length l0) (hc0 : l0.length ≤ c0) (h : breaks_may.f l0 = some r) :
    Calls Try.prog 21 #[.slice A0 l0.length c0] w fun e w' => e = .returned (.int .i64 r) ∧ Below w.heap.size w w' := by
  unfold breaks_may.f at h
  by_cases hl : l0.length < 17592186044416
  case neg => rw [if_neg hl] at h; cases h
  rw [if_pos hl] at h
  injection h with h
  have HR0 := Aside0.mk hr0
  clear hr0
  have CON := contains_c A0 c0 l0 w HR0.out hl
  have HL := Aside0.mk hl
  clear hl
  by_cases h1 : (l0.length : Int) > 65536
  · rw [if_pos h1] at h
    subst h
    have b1 : decide (65536 < (l0.length : Int)) = true := decide_eq_true h1
    go_enter Try.func21, Try.ntmps21
    go_wp2
    go_ret
    exact ⟨rfl, Below.refl _ _⟩
  · rw [if_neg h1] at h
    have b1 : decide (65536 < (l0.length : Int)) = false := decide_eq_false h1
    clear h1
    by_cases h2 : l0.any brBad = true
    · rw [if_pos h2] at h
      subst h
      rw [h2] at CON
      clear h2
      go_enter Try.func21, Try.ntmps21
      go_wp2_with (go_at_call 33; (with_reducible refine CON.mono ?_); rintro e w' ⟨rfl, hB⟩)
      go_ret
      exact ⟨rfl, hB⟩
    · rw [if_neg h2] at h
      subst h
      rw [Bool.eq_false_iff.mpr h2] at CON
      clear h2
      go_enter Try.func21, Try.ntmps21
      go_wp2_with (go_at_call 33; (with_reducible refine CON.mono ?_); rintro e w' ⟨rfl, hB⟩)
      go_ret
      exact ⟨rfl, hB⟩
end Go.Proofs.Ythckihfkhmoafaa.X
