import Derived.Test.YtnpcfiahmadkjaaT0
import Derived.Test.YtnpcfiahmadkjaaT1
namespace Go.Proofs.Ytnpcfiahmadkjaa.X
open Go.RowKit Go.Proofs.YtnpcfiahmadkjaaW.PrintWords Go.Proofs.YtnpcfiahmadkjaaW.PrintLast Go.Proofs.YtnpcfiahmadkjaaW.PrintMore
attribute [local go_sem] max2_int min2_int max_two min_two max_three min_three max_four min_four   -- for this text's walks alone
set_option linter.unusedVariables false
set_option linter.unusedSimpArgs false

def isoB (c : Int) : Bool := decide (20 ≤ c ∧ c ≤ 23)
theorem weak_isolate_some (c : Int) : weak_isolate.f c = some (isoB c) := by
  unfold weak_isolate.f isoB
  by_cases h1 : 20 ≤ c <;> by_cases h2 : c ≤ 23 <;> simp [h1, h2]
theorem iso_c (c : Int) (w : World) : Calls Try.prog 23 #[.int .u8 c] w fun e w' => e = .returned (.bool (isoB c)) ∧ Drawn0 w w' := weak_isolate.calls c (isoB c) w (weak_isolate_some c)
/-- W1 to W3, of one class: what it becomes, what a mark behind it gets, the last strong class. -/
def fst2 (n c : Int) : Int × Int × Int :=
  if isoB c then (c, 14, n) else if c = 1 ∨ c = 2 then (c, c, c) else if c = 3 then (2, 3, 3) else if c = 4 ∧ n = 3 then (7, 4, n) else (c, c, n)
def fst1 (b n c : Int) : Int × Int × Int := fst2 n (if c = 9 then b else c)
/-- What W1 to W3 leave. -/
def WFst (base : Nat) (W : World) (g : Nat) (vo vp : Value) (out pl : List Int) (x : Int × Int × Int) (e : Ending) (w' : World) : Prop := e = .returned (.int .u8 x.1) ∧ WRow base w' g vo vp out pl x.2.1 x.2.2 ∧ W.grownBy w' (some g)
set_option maxHeartbeats 4000000 in
set_option maxRecDepth 100000 in
theorem first_c {base : Nat} {W : World} {g : Nat} {vo vp : Value} {out pl : List Int} {b n : Int} (h : WRow base W g vo vp out pl b n) (c : Int) :
    Calls Try.prog 14 #[.pointer (some ⟨g, 0, none⟩), .int .u8 c] W (WFst base W g vo vp out pl (fst1 b n c)) := by
  obtain ⟨_, _, h2, h3⟩ := h.c
  have hu := Try.underlying36
  have hf0 : W.frozen? ⟨g, 2, none⟩ = false := blk_frozen h.cell 2
  have hf1 : W.frozen? ⟨g, 3, none⟩ = false := blk_frozen h.cell 3
  obtain ⟨d, hd⟩ : ∃ d, d = if c = 9 then b else c := ⟨_, rfl⟩
  rw [fst1, ← hd]
  obtain ⟨h1, hg1⟩ := (h.setF d).1
  have H1 := Aside0.mk h1
  have G1 := Aside0.mk hg1
  clear h1 hg1 h
  by_cases hc9 : c = 9
  · have b9 : (c == 9) = true := beq_iff_eq.mpr hc9
    rw [if_pos hc9] at hd
    subst hd
    clear hc9
    by_cases hi : isoB d = true
    · have b3 : (d == 3) = false := beq_eq_false_iff_ne.mpr (by rintro rfl; simp [isoB] at hi)
      rw [show fst2 n d = (d, 14, n) from by simp [fst2, *]]
      go_enter Try.func14, Try.ntmps14
      go_wp2_with (go_at_call 23; (with_reducible refine (iso_c _ _).mono ?_); rintro e w' ⟨rfl, ⟨m, rfl⟩⟩)
      go_ret
      exact ⟨rfl, ((H1.out.drewN m).setF 14).1.1, World.grownBy.trans (grownBy_drewN G1.out m) ((H1.out.drewN m).setF 14).1.2⟩
    have hi := Bool.eq_false_iff.mpr hi
    by_cases d1 : d = 1
    · have B1 : (d == 1) = true := beq_iff_eq.mpr d1
      have B2 : (d == 2) = false := by rw [d1]; rfl
      have B3 : (d == 3) = false := by rw [d1]; rfl
      have e : fst2 n d = (d, d, d) := by rw [fst2, hi, d1]; rfl
      rw [e]
      clear e d1
      go_enter Try.func14, Try.ntmps14
      go_wp2_with (go_at_call 23; (with_reducible refine (iso_c _ _).mono ?_); rintro e w' ⟨rfl, ⟨m, rfl⟩⟩)
      go_ret
      exact ⟨rfl, ((H1.out.drewN m).setF d).2.1, World.grownBy.trans (grownBy_drewN G1.out m) ((H1.out.drewN m).setF d).2.2⟩
    have B1 : (d == 1) = false := beq_eq_false_iff_ne.mpr d1
    by_cases d2 : d = 2
    · have B2 : (d == 2) = true := beq_iff_eq.mpr d2
      have B1 : (d == 1) = false := by rw [d2]; rfl
      have B3 : (d == 3) = false := by rw [d2]; rfl
      have e : fst2 n d = (d, d, d) := by rw [fst2, hi, d2]; rfl
      rw [e]
      clear e d2
      go_enter Try.func14, Try.ntmps14
      go_wp2_with (go_at_call 23; (with_reducible refine (iso_c _ _).mono ?_); rintro e w' ⟨rfl, ⟨m, rfl⟩⟩)
      go_ret
      exact ⟨rfl, ((H1.out.drewN m).setF d).2.1, World.grownBy.trans (grownBy_drewN G1.out m) ((H1.out.drewN m).setF d).2.2⟩
    have B2 : (d == 2) = false := beq_eq_false_iff_ne.mpr d2
    by_cases d3 : d = 3
    · have B3 : (d == 3) = true := beq_iff_eq.mpr d3
      have B1 : (d == 1) = false := by rw [d3]; rfl
      have B2 : (d == 2) = false := by rw [d3]; rfl
      have e : fst2 n d = (2, d, d) := by rw [fst2, hi, d3]; rfl
      rw [e]
      clear e d3
      go_enter Try.func14, Try.ntmps14
      go_wp2_with (go_at_call 23; (with_reducible refine (iso_c _ _).mono ?_); rintro e w' ⟨rfl, ⟨m, rfl⟩⟩)
      go_ret
      exact ⟨rfl, ((H1.out.drewN m).setF d).2.1, World.grownBy.trans (grownBy_drewN G1.out m) ((H1.out.drewN m).setF d).2.2⟩
    have B3 : (d == 3) = false := beq_eq_false_iff_ne.mpr d3
    by_cases d4 : d = 4
    · have B4 : (d == 4) = true := beq_iff_eq.mpr d4
      by_cases n3 : n = 3
      · have N3 : (n == 3) = true := beq_iff_eq.mpr n3
        have e : fst2 n d = (7, 4, n) := by rw [fst2, hi, d4, n3]; rfl
        rw [e]
        clear e d4 n3
        go_enter Try.func14, Try.ntmps14
        go_wp2_with (go_at_call 23; (with_reducible refine (iso_c _ _).mono ?_); rintro e w' ⟨rfl, ⟨m, rfl⟩⟩)
        go_ret
        exact ⟨rfl, ((H1.out.drewN m).setF 4).1.1, World.grownBy.trans (grownBy_drewN G1.out m) ((H1.out.drewN m).setF 4).1.2⟩
      · have N3 : (n == 3) = false := beq_eq_false_iff_ne.mpr n3
        have e : fst2 n d = (d, d, n) := by rw [fst2, hi, if_neg (by simp), if_neg (by omega), if_neg d3, if_neg (by omega)]
        rw [e]
        clear e d4 n3 d3
        go_enter Try.func14, Try.ntmps14
        go_wp2_with (go_at_call 23; (with_reducible refine (iso_c _ _).mono ?_); rintro e w' ⟨rfl, ⟨m, rfl⟩⟩)
        go_ret
        exact ⟨rfl, H1.out.drewN m, grownBy_drewN G1.out m⟩
    · have B4 : (d == 4) = false := beq_eq_false_iff_ne.mpr d4
      have e : fst2 n d = (d, d, n) := by rw [fst2, hi, if_neg (by simp), if_neg (by omega), if_neg d3, if_neg (by omega)]
      rw [e]
      clear e d1 d2 d3 d4
      go_enter Try.func14, Try.ntmps14
      go_wp2_with (go_at_call 23; (with_reducible refine (iso_c _ _).mono ?_); rintro e w' ⟨rfl, ⟨m, rfl⟩⟩)
      go_ret
      exact ⟨rfl, H1.out.drewN m, grownBy_drewN G1.out m⟩
  · have b9 : (c == 9) = false := beq_eq_false_iff_ne.mpr hc9
    rw [if_neg hc9] at hd
    subst hd
    clear hc9
    by_cases hi : isoB d = true
    · have b3 : (d == 3) = false := beq_eq_false_iff_ne.mpr (by rintro rfl; simp [isoB] at hi)
      rw [show fst2 n d = (d, 14, n) from by simp [fst2, *]]
      go_enter Try.func14, Try.ntmps14
      go_wp2_with (go_at_call 23; (with_reducible refine (iso_c _ _).mono ?_); rintro e w' ⟨rfl, ⟨m, rfl⟩⟩)
      go_ret
      exact ⟨rfl, ((H1.out.drewN m).setF 14).1.1, World.grownBy.trans (grownBy_drewN G1.out m) ((H1.out.drewN m).setF 14).1.2⟩
    have hi := Bool.eq_false_iff.mpr hi
    by_cases d1 : d = 1
    · have B1 : (d == 1) = true := beq_iff_eq.mpr d1
      have B2 : (d == 2) = false := by rw [d1]; rfl
      have B3 : (d == 3) = false := by rw [d1]; rfl
      have e : fst2 n d = (d, d, d) := by rw [fst2, hi, d1]; rfl
      rw [e]
      clear e d1
      go_enter Try.func14, Try.ntmps14
      go_wp2_with (go_at_call 23; (with_reducible refine (iso_c _ _).mono ?_); rintro e w' ⟨rfl, ⟨m, rfl⟩⟩)
      go_ret
      exact ⟨rfl, ((H1.out.drewN m).setF d).2.1, World.grownBy.trans (grownBy_drewN G1.out m) ((H1.out.drewN m).setF d).2.2⟩
    have B1 : (d == 1) = false := beq_eq_false_iff_ne.mpr d1
    by_cases d2 : d = 2
    · have B2 : (d == 2) = true := beq_iff_eq.mpr d2
      have B1 : (d == 1) = false := by rw [d2]; rfl
      have B3 : (d == 3) = false := by rw [d2]; rfl
      have e : fst2 n d = (d, d, d) := by rw [fst2, hi, d2]; rfl
      rw [e]
      clear e d2
      go_enter Try.func14, Try.ntmps14
      go_wp2_with (go_at_call 23; (with_reducible refine (iso_c _ _).mono ?_); rintro e w' ⟨rfl, ⟨m, rfl⟩⟩)
      go_ret
      exact ⟨rfl, ((H1.out.drewN m).setF d).2.1, World.grownBy.trans (grownBy_drewN G1.out m) ((H1.out.drewN m).setF d).2.2⟩
    have B2 : (d == 2) = false := beq_eq_false_iff_ne.mpr d2
    by_cases d3 : d = 3
    · have B3 : (d == 3) = true := beq_iff_eq.mpr d3
      have B1 : (d == 1) = false := by rw [d3]; rfl
      have B2 : (d == 2) = false := by rw [d3]; rfl
      have e : fst2 n d = (2, d, d) := by rw [fst2, hi, d3]; rfl
      rw [e]
      clear e d3
      go_enter Try.func14, Try.ntmps14
      go_wp2_with (go_at_call 23; (with_reducible refine (iso_c _ _).mono ?_); rintro e w' ⟨rfl, ⟨m, rfl⟩⟩)
      go_ret
      exact ⟨rfl, ((H1.out.drewN m).setF d).2.1, World.grownBy.trans (grownBy_drewN G1.out m) ((H1.out.drewN m).setF d).2.2⟩
    have B3 : (d == 3) = false := beq_eq_false_iff_ne.mpr d3
    by_cases d4 : d = 4
    · have B4 : (d == 4) = true := beq_iff_eq.mpr d4
      by_cases n3 : n = 3
      · have N3 : (n == 3) = true := beq_iff_eq.mpr n3
        have e : fst2 n d = (7, 4, n) := by rw [fst2, hi, d4, n3]; rfl
        rw [e]
        clear e d4 n3
        go_enter Try.func14, Try.ntmps14
        go_wp2_with (go_at_call 23; (with_reducible refine (iso_c _ _).mono ?_); rintro e w' ⟨rfl, ⟨m, rfl⟩⟩)
        go_ret
        exact ⟨rfl, ((H1.out.drewN m).setF 4).1.1, World.grownBy.trans (grownBy_drewN G1.out m) ((H1.out.drewN m).setF 4).1.2⟩
      · have N3 : (n == 3) = false := beq_eq_false_iff_ne.mpr n3
        have e : fst2 n d = (d, d, n) := by rw [fst2, hi, if_neg (by simp), if_neg (by omega), if_neg d3, if_neg (by omega)]
        rw [e]
        clear e d4 n3 d3
        go_enter Try.func14, Try.ntmps14
        go_wp2_with (go_at_call 23; (with_reducible refine (iso_c _ _).mono ?_); rintro e w' ⟨rfl, ⟨m, rfl⟩⟩)
        go_ret
        exact ⟨rfl, H1.out.drewN m, grownBy_drewN G1.out m⟩
    · have B4 : (d == 4) = false := beq_eq_false_iff_ne.mpr d4
      have e : fst2 n d = (d, d, n) := by rw [fst2, hi, if_neg (by simp), if_neg (by omega), if_neg d3, if_neg (by omega)]
      rw [e]
      clear e d1 d2 d3 d4
      go_enter Try.func14, Try.ntmps14
      go_wp2_with (go_at_call 23; (with_reducible refine (iso_c _ _).mono ?_); rintro e w' ⟨rfl, ⟨m, rfl⟩⟩)
      go_ret
      exact ⟨rfl, H1.out.drewN m, grownBy_drewN G1.out m⟩

end Go.Proofs.Ytnpcfiahmadkjaa.X
