import Derived.Test.YthckihfkhmoafaaT4
namespace Go.Proofs.Ythckihfkhmoafaa.X
open Go.RowKit Go.Proofs.YthckihfkhmoafaaW.PrintWords Go.Proofs.YthckihfkhmoafaaW.PrintLast Go.Proofs.YthckihfkhmoafaaW.PrintMore
set_option linter.unusedVariables false
set_option linter.unusedSimpArgs false

/-- The sums up to item i: of all, of blanks; where the row that hangs there begins. -/
def sA (l : List S36) : Nat → Int
  | 0 => 0
  | i + 1 => sA l i + (rd_T36 l i).f2 + (rd_T36 l i).f1 + (rd_T36 l i).f3
def sB (l : List S36) : Nat → Int
  | 0 => 0
  | i + 1 => sB l i + (if brBlank (rd_T36 l i) then (rd_T36 l i).f1 else 0)
def sR (l : List S36) : Nat → Int
  | 0 => 0
  | i + 1 => if brBlank (rd_T36 l i) || brSilent (rd_T36 l i) then sR l i else (i : Int) + 1
/-- Of n + 1 places the first i are told by f, the others are 0. -/
def partTo (f : Nat → Int) (n i : Nat) : List Int := (List.range (n + 1)).map fun j => if j ≤ i then f j else 0
theorem partTo_len (f : Nat → Int) (n i : Nat) : (partTo f n i).length = n + 1 := by simp [partTo]
theorem partTo_rd (f : Nat → Int) (n i : Nat) (k : Int) (h0 : 0 ≤ k) (h1 : k ≤ n) : rd (partTo f n i) k = if k.toNat ≤ i then f k.toNat else 0 := by
  obtain ⟨m, rfl⟩ := Int.eq_ofNat_of_zero_le h0
  have : m < n + 1 := by omega
  simp [rd, partTo, this]
theorem partTo_set (f : Nat → Int) (n i : Nat) (hi : i < n) (v : Int) (hv : v = f (i + 1)) : (partTo f n i).set (i + 1) v = partTo f n (i + 1) := by
  apply List.ext_getElem
  · simp [partTo]
  intro j h1 h2
  simp only [partTo, List.getElem_set, List.getElem_map, List.getElem_range]
  by_cases e : i + 1 = j
  · rw [if_pos e, if_pos (by omega), hv, e]
  · rw [if_neg e]
    by_cases h : j ≤ i
    · rw [if_pos h, if_pos (by omega)]
    · rw [if_neg h, if_neg (by omega)]
theorem partTo_zero (f : Nat → Int) (n : Nat) (h : f 0 = 0) : partTo f n 0 = List.replicate (n + 1) 0 := by
  apply List.ext_getElem
  · simp [partTo]
  intro j h1 h2
  simp only [partTo, List.getElem_map, List.getElem_range, List.getElem_replicate]
  split
  · rw [show j = 0 by omega, h]
  · rfl
def allOk (l : List S36) : Prop := ∀ x ∈ l, brBad x = false
theorem ok_item {l : List S36} (h : l.any brBad = false) (i : Nat) (hi : i < l.length) : 0 ≤ (rd_T36 l i).f1 ∧ (rd_T36 l i).f1 ≤ 4096 ∧ 0 ≤ (rd_T36 l i).f2 ∧ (rd_T36 l i).f2 ≤ 16777216 ∧ 0 ≤ (rd_T36 l i).f3 ∧ (rd_T36 l i).f3 ≤ 16777216 := by
  have hm : rd_T36 l i ∈ l := by
    have : rd_T36 l i = l[i] := by simp [rd_T36, hi]
    rw [this]; exact List.getElem_mem hi
  have := List.any_eq_false.1 h _ hm
  simp [brBad] at this
  omega
theorem sA_in {l : List S36} (h : l.any brBad = false) : ∀ i : Nat, i ≤ l.length → 0 ≤ sA l i ∧ sA l i ≤ 33558528 * i := by
  intro i
  induction i with
  | zero => intro _; simp [sA]
  | succ i ih => intro hi; have := ih (by omega); have := ok_item h i (by omega); rw [sA]; omega
theorem sB_in {l : List S36} (h : l.any brBad = false) : ∀ i : Nat, i ≤ l.length → 0 ≤ sB l i ∧ sB l i ≤ 4096 * i := by
  intro i
  induction i with
  | zero => intro _; simp [sB]
  | succ i ih => intro hi; have := ih (by omega); have := ok_item h i (by omega); rw [sB]; split <;> omega
theorem sR_in (l : List S36) : ∀ i : Nat, 0 ≤ sR l i ∧ sR l i ≤ i := by
  intro i
  induction i with
  | zero => simp [sR]
  | succ i ih => rw [sR]; split <;> omega
theorem sums_ok {l : List S36} (h : l.any brBad = false) (hl : l.length ≤ 65536) : BrSums l.length (partTo (sA l) l.length l.length) (partTo (sB l) l.length l.length) (partTo (sR l) l.length l.length) := by
  have out : ∀ (f : Nat → Int) (i : Int), ¬(0 ≤ i ∧ i ≤ (l.length : Int)) → (∀ j, j ≤ l.length → True) → (i < 0 → rd (partTo f l.length l.length) i = rd (partTo f l.length l.length) 0) ∧ (0 ≤ i → rd (partTo f l.length l.length) i = 0) := by
    intro f i hi _
    refine ⟨fun h => ?_, fun h => ?_⟩
    · unfold rd; rw [show i.toNat = 0 by omega]; rfl
    · unfold rd
      rw [List.getD_eq_getElem?_getD, List.getElem?_eq_none (by rw [partTo_len]; omega)]; rfl
  have rdf : ∀ (f : Nat → Int) (P : Int → Prop), P 0 → (∀ j, j ≤ l.length → P (f j)) → ∀ i : Int, P (rd (partTo f l.length l.length) i) := by
    intro f P h0 hP i
    by_cases hi : 0 ≤ i ∧ i ≤ (l.length : Int)
    · rw [partTo_rd f _ _ i hi.1 hi.2, if_pos (by omega)]
      exact hP _ (by omega)
    · obtain ⟨q1, q2⟩ := out f i hi (fun _ _ => trivial)
      by_cases hn : i < 0
      · rw [q1 hn, partTo_rd f _ _ 0 (by omega) (by omega), if_pos (by simp)]
        exact hP _ (by simp)
      · rw [q2 (by omega)]; exact h0
  refine ⟨partTo_len _ _ _, partTo_len _ _ _, partTo_len _ _ _, ?_, ?_, ?_⟩
  · exact rdf _ (fun v => 0 ≤ v ∧ v ≤ 1125899906842624) (by omega) (fun j hj => by have := sA_in h j hj; omega)
  · exact rdf _ (fun v => 0 ≤ v ∧ v ≤ 1125899906842624) (by omega) (fun j hj => by have := sB_in h j hj; omega)
  · exact rdf _ (fun v => 0 ≤ v ∧ v ≤ (l.length : Int)) (by omega) (fun j hj => by have := sR_in l j; omega)
end Go.Proofs.Ythckihfkhmoafaa.X
