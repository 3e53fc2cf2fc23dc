import Derived.Test.YtknfniggnobaaaaX3
import Derived.Test.YtknfniggnobaaaaX4
import Derived.Test.YtknfniggnobaaaaX5
import Derived.Test.YtknfniggnobaaaaX6
import Derived.Test.YtknfniggnobaaaaX7
import Derived.Test.YtknfniggnobaaaaE
/-! What the functions of chapter 18 come to. -/
namespace Go.Proofs.Ytknfniggnobaaaa.A
open Go.RowKit Go.Proofs.Ytknfniggnobaaaa.X Go.Proofs.YtknfniggnobaaaaW.PrintWords Go.Proofs.YtknfniggnobaaaaW.PrintLast Go.Proofs.Ytknfniggnobaaaa
set_option linter.unusedVariables false
set_option linter.unusedSimpArgs false

theorem is_self (l : List Int) (hl : l.length ≤ 140737488351232) : Ev (fun k => selvedgelaw18_is.f k l l) true := by
  unfold selvedgelaw18_is.f
  refine E.pos rfl ?_
  suffices h : ∀ (d : Nat) (i : Int), 0 ≤ i → i ≤ l.length → (l.length : Int) - i = d → Ev (fun k => selvedgelaw18_is.l0 k l l i) true from h l.length 0 (by omega) (by omega) (by omega)
  intro d
  induction d with
  | zero =>
    intro i h0 h1 h2
    refine E.succ ?_
    simp only [selvedgelaw18_is.l0]
    exact E.neg (by omega) (E.ret rfl)
  | succ d ih =>
    intro i h0 h1 h2
    refine E.succ ?_
    simp only [selvedgelaw18_is.l0]
    refine E.pos (by omega) (E.pos h0 (E.pos (by omega) (E.pos (by first | rfl | trivial) ?_)))
    rw [E.w64 (by omega) (by omega)]
    exact ih (i + 1) (by omega) (by omega) (by omega)
theorem is_eq {a b : List Int} (h : a = b) (hl : a.length ≤ 140737488351232) : Ev (fun k => selvedgelaw18_is.f k a b) true := by
  subst h
  exact is_self a hl
theorem works_ev : Ev (fun k => selvedgelaw18_works.f k) true := by
  refine E.of (fun k => selvedgelaw18_works.mono k) 20 ?_
  decide +kernel

/-! ### The levels -/
theorem tmod2 (x : Int) (h : 0 ≤ x) : Int.tmod x 2 = x % 2 := Int.tmod_eq_emod_of_nonneg h
theorem refLevels (l : List Int) (a : Int) (h0 : 0 ≤ a) (h1 : a ≤ 255) (hl : l.length ≤ 140737488351232) : Ev (fun k => selvedgeref18_Levels.f k l a) (nLev a l) := by
  unfold selvedgeref18_Levels.f
  suffices h : ∀ (rest dn : List Int), l = dn ++ rest → Ev (fun k => selvedgeref18_Levels.l0 k l a (nLev a dn) dn.length) (nLev a l) from h l [] rfl
  intro rest
  induction rest with
  | nil =>
    intro dn h
    refine E.succ ?_
    simp only [selvedgeref18_Levels.l0]
    have e : l = dn := by simpa using h
    exact E.neg (by rw [e]; omega) (E.ret (by rw [e]))
  | cons c rest ih =>
    intro dn h
    have hlen : (dn.length : Int) < l.length := by rw [h, List.length_append, List.length_cons]; omega
    have hc : rd l dn.length = c := by rw [h]; exact E.rd_mid _ _ _
    have hln : (nLev a dn).length = dn.length := by simp [nLev]
    have go : ∀ v : Int, v = (a + nMore c a) % 256 → Ev (fun k => selvedgeref18_Levels.l0 k l a (nLev a dn ++ [v]) (wrap64 (dn.length + 1))) (nLev a l) := by
      intro v hv
      rw [E.w64 (by omega) (by omega)]
      have := ih (dn ++ [c]) (by rw [h]; simp)
      rw [List.length_append, List.length_singleton] at this
      rw [hv]
      simpa [nLev] using this
    have hsz : (nLev a dn).length < 140737488355328 := by omega
    refine E.succ ?_
    simp only [selvedgeref18_Levels.l0]
    refine E.pos hlen (E.pos (by omega) ?_)
    rw [hc]
    have hb : Ev (fun k => selvedgeref18_Levels.j1 k l a (nLev a dn) dn.length a (decide (c = 4 ∨ c = 7))) (nLev a l) := by
      refine E.succ ?_
      simp only [selvedgeref18_Levels.j1, tmod2 a h0, hc]
      have j3t : a % 2 = 0 ∧ c = 2 ∨ a % 2 = 1 ∧ (c = 1 ∨ c = 4 ∨ c = 7) → ∀ x8, Ev (fun k => selvedgeref18_Levels.j3 k l a (nLev a dn) dn.length a x8 true) (nLev a l) := by
        intro hh x8
        refine E.succ ?_
        simp only [selvedgeref18_Levels.j3, tmod2 a h0]
        refine E.pos (by first | rfl | trivial) (E.pos hsz (go _ ?_))
        unfold nMore nMore0 nMore1
        rcases hh with ⟨h1, h2⟩ | ⟨h1, h2 | h2 | h2⟩ <;> subst h2 <;> simp [h1]
      have j3f : ¬ (a % 2 = 0 ∧ c = 2 ∨ a % 2 = 1 ∧ (c = 1 ∨ c = 4 ∨ c = 7)) → Ev (fun k => selvedgeref18_Levels.j3 k l a (nLev a dn) dn.length a (decide (c = 4 ∨ c = 7)) false) (nLev a l) := by
        intro hh
        refine E.succ ?_
        simp only [selvedgeref18_Levels.j3, tmod2 a h0]
        refine E.neg (by simp) ?_
        have hm : a % 2 = 0 ∨ a % 2 = 1 := by omega
        rcases hm with hm | hm
        · refine E.pos hm ?_
          by_cases hd : c = 4 ∨ c = 7
          · refine E.pos (by simpa using hd) (E.pos hsz (go _ ?_))
            unfold nMore nMore0 nMore1
            rcases hd with h2 | h2 <;> subst h2 <;> simp [hm]
          · refine E.neg (by simpa using hd) (E.pos hsz (go _ ?_))
            have h2 : c ≠ 2 := fun h2 => hh (.inl ⟨hm, h2⟩)
            have : nMore c a = 0 := by
              unfold nMore nMore0 nMore1
              rw [if_neg (by omega), if_neg h2]
              by_cases h1 : c = 1
              · rw [if_pos h1]
              · rw [if_neg h1, if_neg hd]
            rw [this]; omega
        · refine E.neg (by omega) (E.pos hsz (go _ ?_))
          have : nMore c a = 0 := by
            unfold nMore nMore0 nMore1
            rw [if_pos hm]
            by_cases h2 : c = 2
            · rw [if_pos h2]
            · rw [if_neg h2, if_neg (fun h => hh (.inr ⟨hm, .inl h⟩)), if_neg (fun h => hh (.inr ⟨hm, .inr h⟩))]
          rw [this]; omega
      have j2 : ∀ b : Bool, b = decide (a % 2 = 0 ∧ c = 2) → Ev (fun k => selvedgeref18_Levels.j2 k l a (nLev a dn) dn.length a (decide (c = 4 ∨ c = 7)) b) (nLev a l) := by
        intro b hb
        refine E.succ ?_
        simp only [selvedgeref18_Levels.j2, tmod2 a h0, hc]
        cases b with
        | true => exact E.pos (by first | rfl | trivial) (j3t (.inl (by simpa using hb.symm)) _)
        | false =>
          have hb' : ¬ (a % 2 = 0 ∧ c = 2) := by simpa using hb.symm
          refine E.neg (by simp) ?_
          by_cases hm : a % 2 = 1
          · refine E.pos hm (E.pos (by omega) (E.pos hlen ?_))
            by_cases h1 : c = 1
            · exact E.pos h1 (j3t (.inr ⟨hm, .inl h1⟩) _)
            · refine E.neg h1 ?_
              by_cases hd : c = 4 ∨ c = 7
              · have : decide (c = 4 ∨ c = 7) = true := by simpa using hd
                rw [this]
                exact j3t (.inr ⟨hm, .inr hd⟩) _
              · have h3 := j3f (fun h => h.elim hb' (fun h => h.2.elim h1 hd))
                have : decide (c = 4 ∨ c = 7) = false := by simpa using hd
                rw [this] at h3 ⊢
                exact h3
          · exact E.neg hm (j3f (fun h => h.elim hb' (fun h => hm h.1)))
      by_cases hm : a % 2 = 0
      · refine E.pos hm (E.pos (by omega) (E.pos hlen (j2 _ ?_)))
        by_cases h2 : c = 2 <;> simp [hm, h2]
      · exact E.neg hm (j2 _ (by simp [hm]))
    by_cases h4 : c = 4
    · refine E.pos h4 ?_
      rw [show decide (c = 4 ∨ c = 7) = true by simp [h4]] at hb
      exact hb
    · refine E.neg h4 ?_
      rw [show decide (c = 4 ∨ c = 7) = (c == 7) by simp [h4]; rfl] at hb
      exact hb
end Go.Proofs.Ytknfniggnobaaaa.A
