import Derived.Test.YtofiflhjlohakaaT2
import Derived.Test.YtofiflhjlohakaaU1
import Derived.Test.YtofiflhjlohakaaE
/-! runs.removed, runs.initiator (they do not draw); the closure 'ends'. -/
namespace Go.Proofs.Ytofiflhjlohakaa.X
open Go.RowKit Go.Proofs.YtofiflhjlohakaaW.PrintWords Go.Proofs.YtofiflhjlohakaaW.PrintLast Go.Proofs.YtofiflhjlohakaaW.PrintMore
set_option linter.unusedVariables false
set_option linter.unusedSimpArgs false
section
attribute [local go_sem] Oper.semAt_some
theorem initiator_c (c : Int) (w : World) : Calls Try.prog 23 #[.int .u8 c] w fun e w' => e = .returned (.bool (iniC c)) ∧ w' = w := by
  unfold iniC
  by_cases h1 : 20 ≤ c
  · by_cases h2 : c ≤ 22
    · have b1 : decide (20 ≤ c) = true := decide_eq_true h1
      have b2 : decide (c ≤ 22) = true := decide_eq_true h2
      rw [show decide (20 ≤ c ∧ c ≤ 22) = true from decide_eq_true ⟨h1, h2⟩]
      go_enter Try.func23, Try.ntmps23
      go_wp2
      go_ret
      exact ⟨rfl, rfl⟩
    · have b1 : decide (20 ≤ c) = true := decide_eq_true h1
      have b2 : decide (c ≤ 22) = false := decide_eq_false h2
      rw [show decide (20 ≤ c ∧ c ≤ 22) = false from decide_eq_false (fun h => h2 h.2)]
      go_enter Try.func23, Try.ntmps23
      go_wp2
      go_ret
      exact ⟨rfl, rfl⟩
  · have b1 : decide (20 ≤ c) = false := decide_eq_false h1
    rw [show decide (20 ≤ c ∧ c ≤ 22) = false from decide_eq_false (fun h => h1 h.1)]
    go_enter Try.func23, Try.ntmps23
    go_wp2
    go_ret
    exact ⟨rfl, rfl⟩
theorem removed_c (c : Int) (w : World) : Calls Try.prog 24 #[.int .u8 c] w fun e w' => e = .returned (.bool (remC c)) ∧ w' = w := by
  unfold remC
  by_cases h1 : 15 ≤ c
  · have b1 : decide (15 ≤ c) = true := decide_eq_true h1
    have h3 : ¬ c = 10 := by omega
    have b3 : (c == 10) = false := beq_eq_false_iff_ne.mpr h3
    by_cases h2 : c ≤ 19
    · have b2 : decide (c ≤ 19) = true := decide_eq_true h2
      rw [show decide (15 ≤ c ∧ c ≤ 19) = true from decide_eq_true ⟨h1, h2⟩, Bool.true_or]
      go_enter Try.func24, Try.ntmps24
      go_wp2
      go_ret
      exact ⟨rfl, rfl⟩
    · have b2 : decide (c ≤ 19) = false := decide_eq_false h2
      rw [show decide (15 ≤ c ∧ c ≤ 19) = false from decide_eq_false (fun h => h2 h.2), show decide (c = 10) = false from decide_eq_false h3]
      go_enter Try.func24, Try.ntmps24
      go_wp2
      go_ret
      exact ⟨rfl, rfl⟩
  · have b1 : decide (15 ≤ c) = false := decide_eq_false h1
    rw [show decide (15 ≤ c ∧ c ≤ 19) = false from decide_eq_false (fun h => h1 h.1)]
    by_cases h3 : c = 10
    · have b3 : (c == 10) = true := beq_iff_eq.mpr h3
      rw [show decide (c = 10) = true from decide_eq_true h3]
      have hc := Aside0.mk h3
      clear h3
      go_enter Try.func24, Try.ntmps24
      go_wp2
      go_ret
      exact ⟨rfl, rfl⟩
    · have b3 : (c == 10) = false := beq_eq_false_iff_ne.mpr h3
      rw [show decide (c = 10) = false from decide_eq_false h3]
      go_enter Try.func24, Try.ntmps24
      go_wp2
      go_ret
      exact ⟨rfl, rfl⟩
end
/-- What 'ends' leaves: the map, and nothing else, may have turned. -/
def EndsP (W : World) (bm n : Nat) (f : Int → Option Nat) (e : Ending) (w' : World) : Prop := e = .returned (.tuple #[]) ∧ mapIs w' bm n f ∧ W.mapTurned w' bm
theorem mapIs.turned {w : World} {b n : Nat} {f : Int → Option Nat} (h : mapIs w b n f) : w.mapTurned w b := by
  obtain ⟨D, h1, _⟩ := h
  exact h1.turned_refl
section
attribute [local go_sem] Oper.semAt_some
set_option maxHeartbeats 4000000 in
/-- No place yet. -/
theorem ends_none (g14 g8 g3 g13 g11 : Nat) (last : Int) (hl : last < 0) (W : World) (H14 : W.heap[g14]? = some (.cells #[.int .i64 last] 3 (0, 0))) :
    Calls Try.prog 22 #[.pointer (some ⟨g14, 0, none⟩), .pointer (some ⟨g8, 0, none⟩), .pointer (some ⟨g3, 0, none⟩), .pointer (some ⟨g13, 0, none⟩), .pointer (some ⟨g11, 0, none⟩)] W fun e w' => e = .returned (.tuple #[]) ∧ w' = W := by
  have c14 := (blk_cell H14 0).trans rfl
  have b : decide (last < 0) = true := decide_eq_true hl
  clear hl H14
  go_enter Try.func22, Try.ntmps22
  go_wp2
  refine bodyPost_ret (results_none rfl _ _ _) rfl ?_
  exact ⟨rfl, rfl⟩
set_option maxHeartbeats 4000000 in
theorem ends_some (g14 g8 g3 g13 g11 bm n c0 cm : Nat) (A0 Am : Option Addr) (l m : List Int) (f : Int → Option Nat) (p : Option Nat) (last : Int) (hl0 : 0 ≤ last) (hl1 : last < l.length) (hml : m.length = l.length) (hmv : ∀ x ∈ m, -1 ≤ x ∧ x ≤ 1000000) (hn : n ≤ 1000000) (W : World)
    (H14 : W.heap[g14]? = some (.cells #[.int .i64 last] 3 (0, 0)))
    (H8 : W.heap[g8]? = some (.cells #[.slice Am m.length cm] 33 (0, 0)))
    (H3 : W.heap[g3]? = some (.cells #[.slice A0 l.length c0] 22 (0, 0)))
    (H13 : W.heap[g13]? = some (.cells #[ptrV p] 60 (0, 0)))
    (H11 : W.heap[g11]? = some (.cells #[.map (some bm)] 58 (0, 0)))
    (hl : Kd.C (Kd.int .u8) W A0 l.length l) (hm : Kd.C (Kd.int .i64) W Am m.length m) (hM : mapIs W bm n f) :
    Calls Try.prog 22 #[.pointer (some ⟨g14, 0, none⟩), .pointer (some ⟨g8, 0, none⟩), .pointer (some ⟨g3, 0, none⟩), .pointer (some ⟨g13, 0, none⟩), .pointer (some ⟨g11, 0, none⟩)] W
      (EndsP W bm (n + 1) (if iniC (rd l last) = true ∧ 0 ≤ rd m last then upW f (rd m last) p else f)) := by
  have c14 := (blk_cell H14 0).trans rfl
  have c8 := (blk_cell H8 0).trans rfl
  have c3 := (blk_cell H3 0).trans rfl
  have c13 := (blk_cell H13 0).trans rfl
  have c11 := (blk_cell H11 0).trans rfl
  have b : decide (last < 0) = false := decide_eq_false (by omega)
  have d0 : decide (0 ≤ last) = true := decide_eq_true hl0
  have dl : decide (last < (l.length : Int)) = true := decide_eq_true hl1
  have dm : decide (last < (m.length : Int)) = true := decide_eq_true (by omega)
  have hr := hmv (rd m last) (E.rd_mem hl0 (by omega))
  obtain ⟨al, el, hxl, pl, ql⟩ := atI hl last
  cases el
  obtain ⟨am, em, hxm, pm, qm⟩ := atI hm last
  cases em
  have hwf : (Lit.int .i64 (rd m last)).wf = true := by simp [Lit.wf, IntKind.min, IntKind.max, IntKind.signed, IntKind.bits]; omega
  have hT := hM.turned
  have HX := Aside0.mk (And.intro hM (And.intro hT hwf))
  obtain ⟨c, hc⟩ : ∃ c, rd l last = c := ⟨_, rfl⟩
  obtain ⟨q, hq⟩ : ∃ q, rd m last = q := ⟨_, rfl⟩
  rw [hc] at hxl ⊢
  rw [hq] at hxm hr HX ⊢
  have hr0 := Aside0.mk hr
  clear hM hT hwf hmv hl hm hr hc hq hl0 hl1
  cases hi : iniC c with
  | false =>
    rw [if_neg (show ¬ (false = true ∧ 0 ≤ q) from fun h => by cases h.1)]
    go_enter Try.func22, Try.ntmps22
    go_wp2_with (go_at_call 23; refine (initiator_c c _).mono ?_; rintro e w' ⟨rfl, rfl⟩; rw [hi])
    go_end0
    exact ⟨rfl, HX.out.1.mono (Nat.le_succ _), HX.out.2.1⟩
  | true =>
    by_cases hq0 : 0 ≤ q
    · rw [if_pos ⟨rfl, hq0⟩]
      have dq : decide (0 ≤ q) = true := decide_eq_true hq0
      clear hq0
      go_enter Try.func22, Try.ntmps22
      go_wp2_with (first | (go_at_call 23; refine (initiator_c c _).mono ?_; rintro e w' ⟨rfl, rfl⟩; rw [hi]) | (at_mapUpdate; refine wp_upd rfl _ _ _ rfl bm n f rfl HX.out.1 (by unfold maxLen; omega) q rfl HX.out.2.2 p rfl ?_; intro w1 h1 h2; have HY := Aside0.mk (And.intro h1 h2); clear h1 h2))
      go_end0
      exact ⟨rfl, HY.out.1, HY.out.2⟩
    · rw [if_neg (fun h => hq0 h.2)]
      have dq : decide (0 ≤ q) = false := decide_eq_false hq0
      clear hq0
      go_enter Try.func22, Try.ntmps22
      go_wp2_with (go_at_call 23; refine (initiator_c c _).mono ?_; rintro e w' ⟨rfl, rfl⟩; rw [hi])
      go_end0
      exact ⟨rfl, HX.out.1.mono (Nat.le_succ _), HX.out.2.1⟩
end
end Go.Proofs.Ytofiflhjlohakaa.X
