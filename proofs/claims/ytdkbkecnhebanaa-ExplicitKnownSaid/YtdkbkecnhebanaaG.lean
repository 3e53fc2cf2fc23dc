import Derived.Test.YtdkbkecnhebanaaX1
/-! The statements' small parts: works, same, plain. -/
namespace Go.Proofs.Ytdkbkecnhebanaa.X
open Go.RowKit Go.Proofs.YtdkbkecnhebanaaW.PrintWords Go.Proofs.YtdkbkecnhebanaaW.PrintLast Go.Proofs.YtdkbkecnhebanaaW.PrintMore
set_option linter.unusedVariables false
set_option linter.unusedSimpArgs false
theorem works_lv : explicit_Levels.f (([1, 21, 2, 17, 14, 23, 2] : List Int)) 2 = some (([0, 0, 1, 1, 2, 0, 0] : List Int), ([1, 21, 2, 10, 1, 23, 2] : List Int), 0, 0) := by decide +kernel
theorem works_ev : Ev (fun k => selvedgelaw14_works.f k) true := by
  refine E.bno works_lv (E.pos rfl (E.pos rfl (E.pos (by decide +kernel) (E.pos rfl (E.pos (by decide) (E.pos rfl (E.pos (by decide) (E.pos rfl ?_))))))))
  have hb := base_f [14, 3] (by decide)
  have e : (if dirS false [14, 3] 0 = true then (1 : Int) else 0) = 1 := by decide
  rw [e] at hb
  exact E.bnd hb (E.ret rfl)
theorem same_l (b : List Int) (hb : b.length ≤ 1000000) : ∀ (d : Nat) (i : Int), 0 ≤ i → i ≤ b.length → b.length - i.toNat ≤ d → Ev (fun k => selvedgelaw14_same.l0 k b b i) true := by
  intro d
  induction d with
  | zero => intro i h0 h1 h2; exact E.succ (E.neg (by omega) (E.ret rfl))
  | succ d ih =>
    intro i h0 h1 h2
    by_cases h : i < (b.length : Int)
    · refine E.succ (E.pos h (E.pos h0 (E.pos h (E.pos rfl ?_))))
      rw [E.w64 (by omega) (by omega)]
      exact ih (i + 1) (by omega) (by omega) (by omega)
    · exact E.succ (E.neg h (E.ret rfl))
theorem same_ev (a b : List Int) (hb : b.length ≤ 1000000) : Ev (fun k => selvedgelaw14_same.f k a b a b) true := by
  refine E.pos rfl ?_
  rw [show ((b.length : Int) != (b.length : Int)) = false by simp]
  refine E.succ ?_
  exact same_l b hb b.length 0 (by omega) (by omega) (by omega)
theorem works_out {g : Nat → Option Bool} (h : Ev g true) : ∃ k, g k = some true := E.out h
theorem works_then : Ev (fun k => (selvedgelaw14_works.f k).bind fun t => some t) true := E.bnd works_ev (E.ret rfl)
theorem lvRes_some (l : List Int) (base : Int) (h : 0 ≤ base) : explicit_Levels.f l base = some (lvRes l base) := if_pos h
theorem lvRef_some (l : List Int) (base : Int) (h : 0 ≤ base) : selvedgeref14_Levels.f l base = some (lvRes l base) := if_pos h
theorem lvRes_len (l : List Int) (base : Int) : (lvRes l base).2.1.length ≤ l.length := by
  unfold lvRes
  split
  · simp
  · split
    · simp
    · split
      · simp
      · simp [runL_len]
theorem lvRes_is (l : List Int) (base : Int) (hl : l.length ≤ 65536) (hv : l.all okC = true) (hb : base ≤ 2) : lvRes l base = ((runL (lvBase l base) l (newA (lvBase l base)) (lvBase l base)).map (fun x => x.1), (runL (lvBase l base) l (newA (lvBase l base)) (lvBase l base)).map (fun x => x.2), lvBase l base, 0) :=
  (if_neg (by omega)).trans ((if_neg (by rw [hv]; decide)).trans (if_neg (by omega)))
theorem lvRes_zero (l : List Int) (base : Int) (hl : l.length ≤ 65536) (h : (lvRes l base).2.2.2 = 0) : l.all okC = true ∧ base ≤ 2 ∧ lvRes l base = ((runL (lvBase l base) l (newA (lvBase l base)) (lvBase l base)).map (fun x => x.1), (runL (lvBase l base) l (newA (lvBase l base)) (lvBase l base)).map (fun x => x.2), lvBase l base, 0) := by
  have q1 : ¬ 65536 < l.length := by omega
  cases hv : l.all okC with
  | false =>
    have e : lvRes l base = ([], [], 0, 2) := (if_neg q1).trans (if_pos hv)
    rw [e] at h
    exact absurd h (by decide)
  | true =>
    by_cases q2 : 2 < base
    · have e : lvRes l base = ([], [], 0, 2) := (if_neg q1).trans ((if_neg (by rw [hv]; decide)).trans (if_pos q2))
      rw [e] at h
      exact absurd h (by decide)
    · exact ⟨rfl, by omega, lvRes_is l base hl hv (by omega)⟩
theorem lvBase01 (l : List Int) (base : Int) (h0 : 0 ≤ base) (h2 : base ≤ 2) : 0 ≤ lvBase l base ∧ lvBase l base ≤ 1 := by
  unfold lvBase
  split
  · split <;> omega
  · omega
theorem lvBase_own {l : List Int} (n : Int) (h : n ≤ 1) : lvBase l n = n := if_neg (by omega)
theorem u8_nonneg {x : Int} (h : (Lit.int .u8 x).wf = true) : 0 ≤ x := (E.u8_lo h).1
end Go.Proofs.Ytdkbkecnhebanaa.X
