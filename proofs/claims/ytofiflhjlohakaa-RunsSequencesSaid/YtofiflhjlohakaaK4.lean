import Derived.Test.YtofiflhjlohakaaK3
/-! The document's runs: which leads to which. -/
namespace Go.Proofs.Ytofiflhjlohakaa.X
open Go.RowKit Go.Proofs.YtofiflhjlohakaaW.PrintWords Go.Proofs.YtofiflhjlohakaaW.PrintLast Go.Proofs.YtofiflhjlohakaaW.PrintMore
set_option linter.unusedVariables false
set_option linter.unusedSimpArgs false
def rg (P : List Rn) (r : Nat) : Rn := P.getD r ⟨[], 0, false⟩
theorem rg_get (P : List Rn) (r : Nat) (h : r < P.length) : rg P r = P[r] := by simp [rg, h]
theorem rg_mem (P : List Rn) (r : Nat) (h : r < P.length) : rg P r ∈ P := by rw [rg_get P r h]; exact List.getElem_mem h
/-- Which run begins at a place (-1: none). -/
def bgF (P : List Rn) (n : Nat) : Nat → List Int
  | 0 => List.replicate n (-1)
  | k + 1 => (bgF P n k).set (rd (rg P k).pl 0).toNat k
theorem bgF_len (P : List Rn) (n : Nat) : ∀ k, (bgF P n k).length = n := by
  intro k
  induction k with
  | zero => simp [bgF]
  | succ k ih => simp [bgF, ih]
theorem bgF_spec (P : List Rn) (n : Nat) (hf : ∀ j : Nat, j < P.length → 0 ≤ rd (rg P j).pl 0 ∧ rd (rg P j).pl 0 < n) : ∀ k, k ≤ P.length → ∀ p : Int, 0 ≤ p → p < n →
    (∃ j : Nat, j < k ∧ rd (rg P j).pl 0 = p ∧ rd (bgF P n k) p = j) ∨ ((∀ j : Nat, j < k → rd (rg P j).pl 0 ≠ p) ∧ rd (bgF P n k) p = -1) := by
  intro k
  induction k with
  | zero =>
    intro _ p h0 h1
    refine .inr ⟨fun j h => absurd h (Nat.not_lt_zero j), ?_⟩
    obtain ⟨q, rfl⟩ := Int.eq_ofNat_of_zero_le h0
    have : q < n := by omega
    simp [bgF, rd, this]
  | succ k ih =>
    intro hk p h0 h1
    obtain ⟨f0, f1⟩ := hf k (by omega)
    have hs : rd (bgF P n (k + 1)) p = if p = rd (rg P k).pl 0 then (k : Int) else rd (bgF P n k) p := E.rd_set f0 (by rw [bgF_len]; exact f1) h0
    rw [hs]
    by_cases e : p = rd (rg P k).pl 0
    · rw [if_pos e]
      exact .inl ⟨k, by omega, e.symm, rfl⟩
    · rw [if_neg e]
      rcases ih (by omega) p h0 h1 with ⟨j, g1, g2, g3⟩ | ⟨g1, g2⟩
      · exact .inl ⟨j, by omega, g2, g3⟩
      · refine .inr ⟨fun j hj => ?_, g2⟩
        rcases Nat.lt_or_ge j k with q | q
        · exact g1 j q
        · have : j = k := by omega
          subst this
          exact fun e2 => e e2.symm
section
variable (l m : List Int) (P : List Rn)
/-- Which run the run j leads to (-1: none). -/
def toF (j : Nat) : Int := if iniC (rd l (lastP (rg P j).pl)) = true ∧ 0 ≤ rd m (lastP (rg P j).pl) then rd (bgF P l.length P.length) (rd m (lastP (rg P j).pl)) else -1
/-- Which run leads to j, of the first k. -/
def frF : Nat → Nat → Int
  | 0, _ => -1
  | k + 1, j => if toF l m P k = j then k else frF k j
def xF (k j : Nat) : S55 := ⟨(rg P j).pl, if j < k then toF l m P j else -1, frF l m P k j⟩
def xL (k : Nat) : List S55 := (List.range P.length).map (xF l m P k)
theorem xL_len (k : Nat) : (xL l m P k).length = P.length := by simp [xL]
theorem xL_at (k j : Nat) (h : j < P.length) : rd_T55 (xL l m P k) (j : Int) = xF l m P k j := by simp [rd_T55, xL, h]
end
theorem set_rangeG {α : Type} (n : Nat) (f g : Nat → α) (i : Nat) (v : α) (hi : g i = v) (hg : ∀ j, j < n → j ≠ i → g j = f j) : ((List.range n).map f).set i v = (List.range n).map g := by
  apply List.ext_getElem (by simp)
  intro j h1 h2
  simp at h1
  rw [List.getElem_set]
  by_cases e : i = j
  · subst e; simp [hi]
  · rw [if_neg e]; simp [hg j h1 (fun h => e h.symm)]
/-- What is known of the runs. -/
structure Rk (l m : List Int) (P : List Rn) : Prop where
  ne : ∀ c ∈ P, c.pl ≠ []
  inc : (P.flatMap (·.pl)).Pairwise (· < ·)
  bd : ∀ x ∈ P.flatMap (·.pl), 0 ≤ x ∧ x < (l.length : Int)
  ml : m.length = l.length
  mv : ∀ x ∈ m, x < (l.length : Int)
section
variable {l m : List Int} {P : List Rn} (h : Rk l m P) (hl : l.length ≤ 2000)
include h
theorem Rk.pl {j : Nat} (hj : j < P.length) {x : Int} (hx : x ∈ (rg P j).pl) : 0 ≤ x ∧ x < (l.length : Int) := h.bd x (List.mem_flatMap.mpr ⟨_, rg_mem P j hj, hx⟩)
theorem Rk.first {j : Nat} (hj : j < P.length) : 0 ≤ rd (rg P j).pl 0 ∧ rd (rg P j).pl 0 < (l.length : Int) := by
  have := List.length_pos_iff.mpr (h.ne _ (rg_mem P j hj))
  exact h.pl hj (E.rd_mem (by omega) (by omega))
theorem Rk.last {j : Nat} (hj : j < P.length) : 0 ≤ lastP (rg P j).pl ∧ lastP (rg P j).pl < (l.length : Int) := h.pl hj (lastP_mem _ (h.ne _ (rg_mem P j hj)))
theorem Rk.apart {a b : Nat} (hab : a < b) (hb : b < P.length) {x y : Int} (hx : x ∈ (rg P a).pl) (hy : y ∈ (rg P b).pl) : x < y := by
  have e : P = P.take b ++ P.drop b := (List.take_append_drop b P).symm
  have hi := h.inc
  rw [e, List.flatMap_append] at hi
  refine (List.pairwise_append.mp hi).2.2 x (List.mem_flatMap.mpr ⟨rg P a, ?_, hx⟩) y (List.mem_flatMap.mpr ⟨rg P b, ?_, hy⟩)
  · rw [rg_get P a (by omega)]
    exact List.mem_take_iff_getElem.mpr ⟨a, by omega, rfl⟩
  · rw [rg_get P b hb, List.drop_eq_getElem_cons hb]
    exact List.mem_cons_self
theorem Rk.first_inj {a b : Nat} (ha : a < P.length) (hb : b < P.length) (he : rd (rg P a).pl 0 = rd (rg P b).pl 0) : a = b := by
  have p1 := List.length_pos_iff.mpr (h.ne _ (rg_mem P a ha))
  have p2 := List.length_pos_iff.mpr (h.ne _ (rg_mem P b hb))
  have m1 := E.rd_mem (l := (rg P a).pl) (i := 0) (by omega) (by omega)
  have m2 := E.rd_mem (l := (rg P b).pl) (i := 0) (by omega) (by omega)
  rcases Nat.lt_trichotomy a b with q | q | q
  · have := h.apart q hb m1 m2; omega
  · exact q
  · have := h.apart q ha m2 m1; omega
/-- A run leads to another one just if the table says so. -/
theorem Rk.to_iff {j t : Nat} (hj : j < P.length) (ht : t < P.length) : toF l m P j = t ↔ Lk l m (rg P j) (rg P t) := by
  have hs := bgF_spec P l.length (fun j hj => h.first hj) P.length (Nat.le_refl _)
  have hla := h.last hj
  unfold toF Lk
  by_cases q : iniC (rd l (lastP (rg P j).pl)) = true ∧ 0 ≤ rd m (lastP (rg P j).pl)
  · rw [if_pos q]
    have hmv := h.mv (rd m (lastP (rg P j).pl)) (E.rd_mem hla.1 (by rw [h.ml]; exact hla.2))
    rcases hs _ q.2 hmv with ⟨u, g1, g2, g3⟩ | ⟨g1, g2⟩
    · rw [g3]
      constructor
      · intro e
        have : u = t := by omega
        subst this
        exact ⟨q.1, q.2, g2.symm⟩
      · rintro ⟨_, _, k3⟩
        have := h.first_inj g1 ht (by rw [g2, k3])
        omega
    · rw [g2]
      constructor
      · intro e; omega
      · rintro ⟨_, _, k3⟩
        exact absurd k3.symm (g1 t ht)
  · rw [if_neg q]
    constructor
    · intro e; omega
    · rintro ⟨k1, k2, _⟩
      exact absurd ⟨k1, k2⟩ q
theorem Rk.to_lt {j : Nat} (hj : j < P.length) : toF l m P j = -1 ∨ ∃ t : Nat, t < P.length ∧ toF l m P j = t := by
  have hs := bgF_spec P l.length (fun j hj => h.first hj) P.length (Nat.le_refl _)
  have hla := h.last hj
  unfold toF
  by_cases q : iniC (rd l (lastP (rg P j).pl)) = true ∧ 0 ≤ rd m (lastP (rg P j).pl)
  · rw [if_pos q]
    have hmv := h.mv (rd m (lastP (rg P j).pl)) (E.rd_mem hla.1 (by rw [h.ml]; exact hla.2))
    rcases hs _ q.2 hmv with ⟨u, g1, g2, g3⟩ | ⟨g1, g2⟩
    · exact .inr ⟨u, g1, g3⟩
    · exact .inl g2
  · rw [if_neg q]
    exact .inl rfl
omit h in
theorem frF_spec (j : Nat) : ∀ k, (frF l m P k j = -1 ∧ ∀ q, q < k → toF l m P q ≠ j) ∨ (0 ≤ frF l m P k j ∧ ∃ q, q < k ∧ toF l m P q = j) := by
  intro k
  induction k with
  | zero => exact .inl ⟨rfl, fun q hq => absurd hq (Nat.not_lt_zero q)⟩
  | succ k ih =>
    show ((if toF l m P k = j then (k : Int) else frF l m P k j) = -1 ∧ _) ∨ (0 ≤ (if toF l m P k = j then (k : Int) else frF l m P k j) ∧ _)
    by_cases e : toF l m P k = j
    · rw [if_pos e]
      exact .inr ⟨by omega, k, by omega, e⟩
    · rw [if_neg e]
      rcases ih with ⟨g1, g2⟩ | ⟨g1, q, g2, g3⟩
      · refine .inl ⟨g1, fun q hq => ?_⟩
        rcases Nat.lt_or_ge q k with w | w
        · exact g2 q w
        · have : q = k := by omega
          subst this
          exact e
      · exact .inr ⟨g1, q, by omega, g3⟩
include hl
theorem Rk.plen {j : Nat} (hj : j < P.length) : (rg P j).pl.length ≤ 2000 ∧ P.length ≤ 2000 := by
  have h2 := inc_len _ h.inc l.length h.bd
  have h3 : (rg P j).pl.length ≤ (P.flatMap (·.pl)).length := by
    have : ∀ (L : List Rn) (c : Rn), c ∈ L → c.pl.length ≤ (L.flatMap (·.pl)).length := by
      intro L
      induction L with
      | nil => intro c hc; cases hc
      | cons d L ihL =>
        intro c hc
        simp only [List.flatMap_cons, List.length_append]
        rcases List.mem_cons.mp hc with rfl | hc
        · omega
        · have := ihL c hc
          omega
    exact this P _ (rg_mem P j hj)
  have h4 : P.length ≤ (P.flatMap (·.pl)).length := by
    have : ∀ L : List Rn, (∀ d ∈ L, d.pl ≠ []) → L.length ≤ (L.flatMap (·.pl)).length := by
      intro L
      induction L with
      | nil => intro _; simp
      | cons d L ihL =>
        intro hd
        have := List.length_pos_iff.mpr (hd d (by simp))
        have := ihL (fun e he => hd e (by simp [he]))
        simp only [List.flatMap_cons, List.length_append, List.length_cons]
        omega
    exact this _ h.ne
  omega
end
end Go.Proofs.Ytofiflhjlohakaa.X
