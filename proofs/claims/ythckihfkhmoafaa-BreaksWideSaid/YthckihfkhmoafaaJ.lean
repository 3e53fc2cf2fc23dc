import Derived.Test.YthckihfkhmoafaaH
/-! The law BreaksAgain, for any items. -/
namespace Go.Proofs.Ythckihfkhmoafaa.A
open Go.RowKit Go.Proofs.Ythckihfkhmoafaa.X Go.Proofs.YthckihfkhmoafaaW.PrintWords Go.Proofs.YthckihfkhmoafaaW.PrintLast Go.Proofs.YthckihfkhmoafaaW.PrintMore Go.Proofs.Ythckihfkhmoafaa
set_option linter.unusedVariables false
set_option linter.unusedSimpArgs false

theorem rd_dropN (l : List S36) (s : Nat) (k : Int) (h : 0 ≤ k) : rd_T36 (l.drop s) k = rd_T36 l (k + s) := by
  unfold rd_T36
  rw [List.getD_eq_getElem?_getD, List.getD_eq_getElem?_getD, List.getElem?_drop]
  congr 2
  omega
theorem mTo_drop (l : List S36) (s t : Nat) : ∀ (m : Nat) (e : Bool), mTo (l.drop s) t m e = mTo l (t + s) m e := by
  intro m
  induction m with
  | zero => intro e; rfl
  | succ m ih =>
    intro e
    rw [mTo, mTo, rd_dropN l s _ (by omega), ih]
    have : ((t + m : Nat) : Int) + s = ((t + s + m : Nat) : Int) := by omega
    rw [this]
theorem brM_drop (l : List S36) (s : Nat) (t k : Int) (h0 : 0 ≤ t) (h1 : t ≤ k) : brM (l.drop s) t k = brM l (t + s) (k + s) := by
  unfold brM
  rw [mTo_drop]
  have e1 : t.toNat + s = (t + s).toNat := by omega
  have e2 : k.toNat - t.toNat = (k + s).toNat - (t + s).toNat := by omega
  rw [e1, e2]
theorem brF_drop (l : List S36) (s : Nat) (hs : s ≤ l.length) (k : Int) (h : 1 ≤ k) : brF (l.drop s) k ↔ brF l (k + s) := by
  unfold brF brMust
  rw [rd_dropN l s (k - 1) (by omega), List.length_drop, show k - 1 + s = k + s - 1 by omega]
  constructor
  · rintro ⟨a, b, c⟩; exact ⟨by omega, by omega, c⟩
  · rintro ⟨a, b, c⟩; exact ⟨by omega, by omega, c⟩
theorem brC_drop (l : List S36) (s : Nat) (hs : s ≤ l.length) (k : Int) (h : 1 ≤ k) : brC (l.drop s) k ↔ brC l (k + s) := by
  unfold brC brMust brMay
  rw [rd_dropN l s (k - 1) (by omega), rd_dropN l s k (by omega), List.length_drop, show k - 1 + s = k + s - 1 by omega]
  constructor
  · rintro (a | ⟨a, b, c⟩)
    · exact .inl (by omega)
    · exact .inr ⟨by omega, by omega, c⟩
  · rintro (a | ⟨a, b, c⟩)
    · exact .inl (by omega)
    · exact .inr ⟨by omega, by omega, c⟩
theorem Nx.shift {l : List S36} {wd s n : Int} {b : Nat} (h : Nx l wd s n) (hb : (b : Int) ≤ s) : Nx (l.drop b) wd (s - b) (n - b) := by
  have h0 := h.lo
  have h1 := h.hi
  have hbl : b ≤ l.length := by omega
  have hlen : ((l.drop b).length : Int) = l.length - b := by rw [List.length_drop]; omega
  have eb : ∀ x : Int, x - b + b = x := fun x => by omega
  refine ⟨by omega, by omega, ?_, fun j a c hf => ?_, ?_, ?_⟩
  · rw [brC_drop l b hbl _ (by omega), eb]; exact h.c
  · rw [brF_drop l b hbl _ (by omega)] at hf
    exact h.free (j + b) (by omega) (by omega) hf
  · rcases h.fit with q | q
    · left; rw [brM_drop l b _ _ (by omega) (by omega), eb, eb]; exact q
    · right
      intro j a c hc
      rw [brC_drop l b hbl _ (by omega)] at hc
      exact q (j + b) (by omega) (by omega) hc
  · rcases h.far with q | q
    · left; rw [brF_drop l b hbl _ (by omega), eb]; exact q
    · right
      intro j a c hc
      rw [brC_drop l b hbl _ (by omega)] at hc
      rw [brM_drop l b _ _ (by omega) (by omega), eb]
      exact q (j + b) (by omega) (by omega) hc
theorem Chain.shift {l : List S36} {wd s : Int} {L : List Int} {b : Nat} (h : Chain l wd s L) (hb : (b : Int) ≤ s) : Chain (l.drop b) wd (s - b) (L.map (fun x => x - b)) := by
  induction h with
  | past s hs => exact .past _ (by rw [List.length_drop]; omega)
  | last s n =>
    have := n.lo
    refine .last _ ?_
    have e := n.shift hb
    rwa [show (l.length : Int) - b = ((l.drop b).length : Int) by rw [List.length_drop]; omega] at e
  | more s n L q h1 _ ih =>
    have := q.lo
    exact .more _ _ _ (q.shift hb) (show n - (b : Int) < ((l.drop b).length : Int) by have := q.hi; rw [List.length_drop]; omega) (ih (by omega))
theorem Chain.at {l : List S36} {wd : Int} : ∀ (i : Nat) {s : Int} {L : List Int}, Chain l wd s L → 0 ≤ s → s ≤ l.length → i < (s :: L).length → ∃ r K, (s :: L).drop i = r :: K ∧ Chain l wd r K ∧ 0 ≤ r ∧ r ≤ l.length := by
  intro i
  induction i with
  | zero => intro s L h h0 h1 _; exact ⟨s, L, rfl, h, h0, h1⟩
  | succ i ih =>
    intro s L h h0 h1 hi
    cases h with
    | past _ _ => simp at hi
    | last _ _ => simp at hi
    | more _ n K q h2 h3 =>
      have := q.lo
      have := q.hi
      obtain ⟨r, M, a, b⟩ := ih h3 (by omega) (by omega) (by simpa using hi)
      exact ⟨r, M, by simpa using a, b⟩
theorem lines_some {l : List S36} {wd : Int} (hl : l.length ≤ 65536) : breaks_Lines.f l wd = some (if l.any brBad then ([], 2) else if wd < 1 ∨ 16777216 < wd then ([], 2) else (brLines l wd, 0)) := by
  unfold breaks_Lines.f
  rw [if_pos (by omega), if_neg (by omega)]
theorem Chain.len {l : List S36} {wd s : Int} {L : List Int} (h : Chain l wd s L) : (L.length : Int) ≤ l.length - s ∨ L = [] := by
  induction h with
  | past s _ => exact .inr rfl
  | last s _ => exact .inr rfl
  | more s n L q h1 _ ih =>
    have := q.lo
    left
    rcases ih with ih | ih
    · rw [List.length_cons]; omega
    · rw [ih]; simp; omega
theorem pick_in {n a : Int} (hn : 0 < n) (h2 : n ≤ 4611686018427387904) : ∃ r, selvedgekit_Pick.f a n = some r ∧ 0 ≤ r ∧ r < n := by
  unfold selvedgekit_Pick.f
  rw [if_neg (by omega), if_neg (by omega)]
  refine ⟨_, rfl, ?_⟩
  have h3 : -n < Int.tmod a n ∧ Int.tmod a n < n := by
    have e := Int.tmod_lt_of_pos a hn
    have e2 := Int.lt_tmod_of_pos a hn
    exact ⟨e2, e⟩
  rw [E.w64 (by omega) (by omega), Int.tmod_eq_emod_of_nonneg (by omega)]
  exact ⟨Int.emod_nonneg _ (by omega), Int.emod_lt_of_pos _ hn⟩
theorem breaksAgain (l : List S36) (wd n : Int) : Ev (fun k => selvedgelaw21_BreaksAgain.f k l wd n) true := by
  unfold selvedgelaw21_BreaksAgain.f
  by_cases hl : (l.length : Int) > 300
  · exact E.pos hl (E.bnd works_ev (E.ret rfl))
  refine E.neg hl (E.bno (lines_some (by omega)) ?_)
  have refused : ∀ c : Int, c ≠ 0 → Ev (fun k => selvedgelaw21_BreaksAgain.j0 k l wd n [] c true) true := by
    intro c hc
    refine E.succ ?_
    simp only [selvedgelaw21_BreaksAgain.j0]
    exact E.pos (by simp) (E.neg hc (E.bnd works_ev (E.ret rfl)))
  by_cases hb : l.any brBad = true
  · rw [if_pos hb]
    exact E.neg (by decide) (refused 2 (by decide))
  rw [if_neg hb]
  by_cases hw : wd < 1 ∨ 16777216 < wd
  · rw [if_pos hw]
    exact E.neg (by decide) (refused 2 (by decide))
  rw [if_neg hw]
  have hok : l.any brBad = false := Bool.eq_false_iff.mpr hb
  obtain ⟨L, hL, hc⟩ := lines_chain hok wd
  dsimp only
  rw [hL]
  have hlen := hc.len
  have hlenL : (L.length : Int) ≤ 300 := by
    rcases hlen with h | h
    · omega
    · rw [h]; simp
  refine E.pos rfl ?_
  have e0 : (((0 : Int) :: L).length : Int) = (L.length : Int) + 1 := by simp
  rw [show ((((0 : Int) :: L).length : Int) == 0) = false from beq_eq_false_iff_ne.mpr (by omega)]
  obtain ⟨i, hi, hi0, hi1⟩ := pick_in (n := (((0 : Int) :: L).length : Int)) (a := n) (by omega) (by omega)
  obtain ⟨r, K, hd, hK, hr0, hr1⟩ := hc.at i.toNat (Int.le_refl _) (by omega) (by omega)
  have hget : ∀ j : Nat, ((0 : Int) :: L)[i.toNat + j]? = (r :: K)[j]? := fun j => by rw [← hd, List.getElem?_drop]
  have hrd : ∀ j : Int, 0 ≤ j → rd ((0 : Int) :: L) (i + j) = rd (r :: K) j := by
    intro j hj
    unfold rd
    rw [List.getD_eq_getElem?_getD, List.getD_eq_getElem?_getD, ← hget, show (i + j).toNat = i.toNat + j.toNat by omega]
  have hri : rd ((0 : Int) :: L) i = r := by
    have := hrd 0 (by omega)
    rw [Int.add_zero] at this
    rw [this]; rfl
  have hlk : ((r :: K).length : Int) = (L.length : Int) + 1 - i := by rw [← hd, List.length_drop]; omega
  have hsub : (l.drop r.toNat).any brBad = false := by
    rw [List.any_eq_false] at hok ⊢
    intro x hx
    exact hok x (List.mem_of_mem_drop hx)
  obtain ⟨L2, hL2, hc2⟩ := lines_chain hsub wd
  have hs := hK.shift (b := r.toNat) (by omega)
  have e1 : r - (r.toNat : Int) = 0 := by omega
  rw [e1] at hs
  have e2 := hc2.uniq hs
  subst e2
  have e3 : (0 : Int) :: K.map (fun x => x - (r.toNat : Int)) = (r :: K).map (fun x => x - r) := by
    rw [List.map_cons, show (r.toNat : Int) = r by omega, Int.sub_self]
  rw [e3] at hL2
  refine E.succ ?_
  simp only [selvedgelaw21_BreaksAgain.j0]
  refine E.neg (by decide) (E.bno hi (E.pos hi0 (E.pos hi1 ?_)))
  rw [hri]
  refine E.pos hr0 (E.pos hr1 (E.bno (lines_some (by rw [List.length_drop]; omega)) ?_))
  rw [if_neg (by rw [hsub]; decide), if_neg hw, hL2]
  refine E.pos rfl ?_
  dsimp only
  have e4 : (((r :: K).map (fun x => x - r)).length : Int) = (r :: K).length := by simp
  rw [E.w64 (by omega) (by omega), show ((((r :: K).map (fun x => x - r)).length : Int) != ((((0 : Int) :: L).length : Int) - i)) = false from by rw [e4]; simp only [bne_eq_false_iff_eq]; omega]
  refine E.succ ?_
  simp only [selvedgelaw21_BreaksAgain.j1]
  refine E.neg (by decide) ?_
  have loop : ∀ (d : Nat) (x : Nat), x + d = (r :: K).length → Ev (fun k => selvedgelaw21_BreaksAgain.l0 k ((0 : Int) :: L) i ((r :: K).map (fun x => x - r)) x) true := by
    intro d
    induction d with
    | zero =>
      intro x hx
      refine E.succ ?_
      simp only [selvedgelaw21_BreaksAgain.l0]
      exact E.neg (by omega) (E.bnd works_ev (E.ret rfl))
    | succ d ih =>
      intro x hx
      have H := ih (x + 1) (by omega)
      rw [show ((x + 1 : Nat) : Int) = (x : Int) + 1 by omega] at H
      refine E.succ ?_
      simp only [selvedgelaw21_BreaksAgain.l0]
      have hm : rd ((r :: K).map (fun x => x - r)) x = rd (r :: K) x - r := by
        rw [E.rd_get (by simp; simpa using (by omega : x < (r :: K).length)), E.rd_get (by omega : x < (r :: K).length), List.getElem_map]
      have hb : -9223372036854775808 ≤ rd (r :: K) x ∧ rd (r :: K) x ≤ 9223372036854775807 := by
        obtain ⟨r2, K2, a, b, c, d⟩ := hK.at x hr0 hr1 (by omega)
        have : rd (r :: K) x = r2 := by
          rw [E.rd_nat, List.getD_eq_getElem?_getD]
          have := congrArg (fun l : List Int => l[0]?) a
          simp only [List.getElem?_drop] at this
          simp at this
          simp [this]
        omega
      rw [E.w64 (x := i + x) (by omega) (by omega), hri, hm, hrd x (by omega), E.w64 (x := rd (r :: K) x - r + r) (by omega) (by omega), E.w64 (x := (x : Int) + 1) (by omega) (by omega)]
      exact E.pos (by omega) (E.pos (by omega) (E.pos hi0 (E.pos hi1 (E.pos (by omega) (E.pos (by omega) (E.pos (by omega) H))))))
  exact loop (r :: K).length 0 (by omega)
end Go.Proofs.Ythckihfkhmoafaa.A
