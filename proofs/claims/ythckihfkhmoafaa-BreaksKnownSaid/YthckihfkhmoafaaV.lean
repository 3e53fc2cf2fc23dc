import Derived.Test.YthckihfkhmoafaaU
import Derived.Test.YthckihfkhmoafaaX8
import Derived.Test.YthckihfkhmoafaaX9


/-! Where lines begin: what 'the next line' is, by what is asked of it; that the program's lines are such. -/
namespace Go.Proofs.Ythckihfkhmoafaa.A
open Go.RowKit Go.Proofs.Ythckihfkhmoafaa.X Go.Proofs.YthckihfkhmoafaaW.PrintWords Go.Proofs.YthckihfkhmoafaaW.PrintLast Go.Proofs.YthckihfkhmoafaaW.PrintMore Go.Proofs.Ythckihfkhmoafaa
set_option linter.unusedVariables false
set_option linter.unusedSimpArgs false

/-- The measure from one place up to another one. -/
def brM (l : List S36) (s k : Int) : Int := mTo l s.toNat (k.toNat - s.toNat) true
/-- May a line end at a place? Must one begin there? -/
def brC (l : List S36) (k : Int) : Prop := k = l.length ∨ (1 ≤ k ∧ k < l.length ∧ (brMay l k || brMust l k) = true)
def brF (l : List S36) (k : Int) : Prop := 1 ≤ k ∧ k < l.length ∧ brMust l k = true
theorem brF_C {l : List S36} {k : Int} (h : brF l k) : brC l k := .inr ⟨h.1, h.2.1, by rw [h.2.2, Bool.or_true]⟩
structure Nx (l : List S36) (wd s n : Int) : Prop where
  lo : s < n
  hi : n ≤ l.length
  c : brC l n
  free : ∀ j, s < j → j < n → ¬ brF l j
  fit : brM l s n ≤ wd ∨ ∀ j, s < j → j < n → ¬ brC l j
  far : brF l n ∨ ∀ j, n < j → j ≤ l.length → brC l j → wd < brM l s j
theorem Nx.uniq {l : List S36} {wd s n m : Int} (h : Nx l wd s n) (k : Nx l wd s m) : n = m := by
  have no : ∀ {n m}, Nx l wd s n → Nx l wd s m → ¬ n < m := by
    intro n m h k hlt
    rcases k.fit with q | q
    · rcases h.far with p | p
      · exact k.free n h.lo hlt p
      · have := p m hlt k.hi k.c; omega
    · exact q n h.lo hlt h.c
  have h1 := no h k
  have h2 := no k h
  omega
theorem brM_mono {l : List S36} (h : l.any brBad = false) {s k j : Int} (h0 : 0 ≤ s) (h1 : s ≤ k) (h2 : k ≤ j) (h3 : j ≤ l.length) : brM l s k ≤ brM l s j := by
  unfold brM
  have := mTo_more h s.toNat (k.toNat - s.toNat) (j.toNat - k.toNat) (by omega)
  rwa [show k.toNat - s.toNat + (j.toNat - k.toNat) = j.toNat - s.toNat by omega] at this
theorem mTo_false_sA (l : List S36) (f : Nat) : ∀ m, mTo l f m false = sA l (f + m) - sA l f := by
  intro m
  induction m with
  | zero => simp [mTo]
  | succ m ih => rw [mTo, Bool.false_and, if_neg (by decide), ih, show f + (m + 1) = (f + m) + 1 by omega, sA]; omega
theorem mTo_sums {l : List S36} (f : Nat) : ∀ m, f + m ≤ l.length → mTo l f m true = sA l (f + m) - sA l f - (sB l (f + m) - sB l (if f < (sR l (f + m)).toNat then (sR l (f + m)).toNat else f)) := by
  intro m
  induction m with
  | zero => intro _; have := sR_in l f; rw [Nat.add_zero, if_neg (by omega)]; simp [mTo]
  | succ m ih =>
    intro hm
    have h1 := ih (by omega)
    have h2 := mTo_false_sA l f m
    have hr := sR_in l (f + m)
    have h3 : sB l (f + m + 1) = sB l (f + m) + (if brBlank (rd_T36 l ((f + m : Nat) : Int)) = true then (rd_T36 l ((f + m : Nat) : Int)).f1 else 0) := by rw [sB]
    rw [show f + (m + 1) = (f + m) + 1 by omega, mTo, sA, sB, sR]
    generalize rd_T36 l ((f + m : Nat) : Int) = x at *
    cases hq : mHang x with
    | true =>
      have hq' : (brBlank x || brSilent x) = true := hq
      rw [if_pos (c := (brBlank x || brSilent x) = true) hq', Bool.true_and, if_pos rfl, h1]
      by_cases hb : brBlank x = true
      · rw [if_pos hb]; omega
      · rw [if_neg hb]
        have hs : brSilent x = true := by rw [Bool.eq_false_iff.mpr hb] at hq'; simpa using hq'
        have : x.f1 = 0 := by unfold brSilent at hs; simp at hs; omega
        omega
    | false =>
      have hq' : (brBlank x || brSilent x) = false := hq
      have hb : brBlank x = false := by cases e : brBlank x with
        | true => rw [e] at hq'; simp at hq'
        | false => rfl
      rw [hb, if_neg (by decide)] at h3
      have : (((f + m : Nat) : Int) + 1).toNat = f + m + 1 := by omega
      simp only [hq', Bool.and_false, Bool.false_eq_true, if_false]
      simp only [hb, Bool.false_eq_true, if_false]
      rw [this, if_pos (by omega), h3, h2]
      omega
/-- The program's test is about the measure. -/
theorem fit_M {l : List S36} {wd s k : Int} (h0 : 0 ≤ s) (h1 : s ≤ k) (h2 : k ≤ l.length) : brFit (partTo (sA l) l.length l.length) (partTo (sB l) l.length l.length) (partTo (sR l) l.length l.length) wd s k = decide (brM l s k ≤ wd) := by
  have rdp : ∀ (f : Nat → Int) (i : Int), 0 ≤ i → i ≤ l.length → rd (partTo f l.length l.length) i = f i.toNat := by
    intro f i h0 h1
    rw [partTo_rd f _ _ i h0 h1, if_pos (by omega)]
  have hr := sR_in l k.toNat
  unfold brFit
  rw [rdp _ k (by omega) h2, rdp _ s h0 (by omega), rdp _ k (by omega) h2, rdp (sR l) k (by omega) h2]
  have hm := mTo_sums (l := l) s.toNat (k.toNat - s.toNat) (by omega)
  rw [show s.toNat + (k.toNat - s.toNat) = k.toNat by omega] at hm
  unfold brM
  rw [hm]
  by_cases c : s < sR l k.toNat
  · rw [if_pos c, if_pos (by omega), rdp _ _ (by omega) (by omega)]
  · rw [if_neg c, if_neg (by omega), rdp _ s h0 (by omega)]
/-- The lines that begin behind a place. -/
inductive Chain (l : List S36) (wd : Int) : Int → List Int → Prop where
  | past (s : Int) : (l.length : Int) ≤ s → Chain l wd s []
  | last (s : Int) : Nx l wd s l.length → Chain l wd s []
  | more (s n : Int) (L : List Int) : Nx l wd s n → n < (l.length : Int) → Chain l wd n L → Chain l wd s (n :: L)
theorem Chain.uniq {l : List S36} {wd s : Int} {L K : List Int} (h : Chain l wd s L) (k : Chain l wd s K) : L = K := by
  induction h generalizing K with
  | past s hs =>
    cases k with
    | past _ _ => rfl
    | last _ _ => rfl
    | more _ n L q _ _ => have := q.lo; have := q.hi; omega
  | last s hs =>
    cases k with
    | past _ _ => rfl
    | last _ _ => rfl
    | more _ n L q h2 _ => have := q.uniq hs; omega
  | more s n L q h1 _ ih =>
    cases k with
    | past _ h => have := q.lo; omega
    | last _ h2 => have := q.uniq h2; omega
    | more _ n' L' q' h2 k =>
      have := q.uniq q'
      subst this
      rw [ih k]
/-- The lines under way, when all places ahead of k are seen. -/
structure Way (l : List S36) (wd k s last : Int) (out : List Int) : Prop where
  s0 : 0 ≤ s
  s1 : s < k
  o : ∀ T, Chain l wd s T → ∃ L, out ++ T = 0 :: L ∧ Chain l wd 0 L
  f : ∀ j, s < j → j < k → ¬ brF l j
  c : (last = -1 ∧ ∀ j, s < j → j < k → ¬ brC l j) ∨ (s < last ∧ last < k ∧ brC l last ∧ brM l s last ≤ wd ∧ ∀ j, last < j → j < k → ¬ brC l j)
theorem Way.none {l : List S36} {wd k s last : Int} {out : List Int} (h : Way l wd k s last out) (hc : ¬ brC l k) : Way l wd (k + 1) s last out := by
  refine ⟨h.s0, by have := h.s1; omega, h.o, fun j h1 h2 hf => ?_, ?_⟩
  · by_cases e : j = k
    · subst e; exact hc (brF_C hf)
    · exact h.f j h1 (by omega) hf
  · rcases h.c with ⟨h1, h2⟩ | ⟨h1, h2, h3, h4, h5⟩
    · refine .inl ⟨h1, fun j a b hj => ?_⟩
      by_cases e : j = k
      · subst e; exact hc hj
      · exact h2 j a (by omega) hj
    · refine .inr ⟨h1, by omega, h3, h4, fun j a b hj => ?_⟩
      by_cases e : j = k
      · subst e; exact hc hj
      · exact h5 j a (by omega) hj
/-- Where the place at k doesn't fit, the line ends at the last one that does. -/
theorem Way.close {l : List S36} (hok : l.any brBad = false) {wd k s last : Int} {out : List Int} (h : Way l wd k s last out) (hk : k ≤ l.length) (hl : s < last) (hf : wd < brM l s k) : Nx l wd s last := by
  have hs0 := h.s0
  rcases h.c with ⟨h1, h2⟩ | ⟨h1, h2, h3, h4, h5⟩
  · omega
  · refine ⟨h1, by omega, h3, fun j a b => h.f j a (by omega), .inl h4, .inr fun j a b hc => ?_⟩
    have : ¬ j < k := fun hjk => h5 j a hjk hc
    have := brM_mono hok (s := s) (k := k) (j := j) h.s0 (by omega) (by omega) b
    omega
theorem Way.shut {l : List S36} {wd k s last : Int} {out : List Int} (h : Way l wd k s last out) (n : Nx l wd s last) (hk : k ≤ l.length) (h2 : last < k) (h5 : ∀ j, last < j → j < k → ¬ brC l j) : Way l wd k last (-1) (out ++ [last]) := by
  have hs0 := h.s0
  have hlo := n.lo
  refine ⟨by omega, h2, fun T hT => ?_, fun j a b hf => h5 j a b (brF_C hf), .inl ⟨rfl, h5⟩⟩
  have := h.o (last :: T) (.more s last T n (by omega) hT)
  simpa using this
theorem Way.step {l : List S36} (hok : l.any brBad = false) {wd k s last : Int} {out : List Int} (h : Way l wd k s last out) (hk : k < l.length) (hc : (brMay l k || brMust l k) = true) :
    let r := brS (partTo (sA l) l.length l.length) (partTo (sB l) l.length l.length) (partTo (sR l) l.length l.length) wd k (brMust l k) s last out
    Way l wd (k + 1) r.1 r.2.1 r.2.2 := by
  have hs0 := h.s0
  have hs1 := h.s1
  have hC : brC l k := .inr ⟨by omega, hk, hc⟩
  -- behind the first part: no place ahead of k is left, or k fits
  obtain ⟨u, hu, hw, hq⟩ : ∃ u : Int × Int × List Int, brW (partTo (sA l) l.length l.length) (partTo (sB l) l.length l.length) (partTo (sR l) l.length l.length) wd k s last out = u ∧ Way l wd k u.1 u.2.1 u.2.2 ∧ ((∀ j, u.1 < j → j < k → ¬ brC l j) ∨ brM l u.1 k ≤ wd) := by
    refine ⟨_, rfl, ?_⟩
    unfold brW
    by_cases c : s < last ∧ brFit (partTo (sA l) l.length l.length) (partTo (sB l) l.length l.length) (partTo (sR l) l.length l.length) wd s k = false
    · rw [if_pos c]
      have c2 := c.2
      rw [fit_M hs0 (by omega) (by omega)] at c2
      have hn := h.close hok (by omega) c.1 (by simpa using c2)
      rcases h.c with ⟨h1, h2⟩ | ⟨h1, h2, h3, h4, h5⟩
      · have := c.1; omega
      · exact ⟨h.shut hn (by omega) h2 h5, .inl h5⟩
    · rw [if_neg c]
      refine ⟨h, ?_⟩
      rcases h.c with ⟨h1, h2⟩ | ⟨h1, h2, h3, h4, h5⟩
      · exact .inl h2
      · right
        have : ¬ brFit (partTo (sA l) l.length l.length) (partTo (sB l) l.length l.length) (partTo (sR l) l.length l.length) wd s k = false := fun e => c ⟨h1, e⟩
        rw [fit_M hs0 (by omega) (by omega)] at this
        simpa using this
  intro r
  have hr : r = if brFit (partTo (sA l) l.length l.length) (partTo (sB l) l.length l.length) (partTo (sR l) l.length l.length) wd u.1 k = false ∨ brMust l k = true then (k, -1, u.2.2 ++ [k]) else (u.1, k, u.2.2) := by
    show brS _ _ _ _ _ _ _ _ _ = _
    unfold brS
    rw [hu]
  have u0 := hw.s0
  have u1 := hw.s1
  rw [fit_M u0 (by omega) (by omega)] at hr
  by_cases c : decide (brM l u.1 k ≤ wd) = false ∨ brMust l k = true
  · rw [if_pos c] at hr
    rw [hr]
    dsimp only
    have hn : Nx l wd u.1 k := by
      refine ⟨u1, by omega, hC, hw.f, ?_, ?_⟩
      · rcases hq with q | q
        · exact .inr q
        · exact .inl q
      · by_cases m : brMust l k = true
        · exact .inl ⟨by omega, hk, m⟩
        · rcases c with c | c
          · right
            intro j a b _
            have := brM_mono hok (s := u.1) (k := k) (j := j) u0 (by omega) (by omega) b
            have c' : ¬ brM l u.1 k ≤ wd := by simpa using c
            omega
          · exact absurd c m
    refine ⟨by omega, by omega, fun T hT => ?_, fun j a b => by omega, .inl ⟨rfl, fun j a b => by omega⟩⟩
    have := hw.o (k :: T) (.more u.1 k T hn hk hT)
    simpa using this
  · rw [if_neg c] at hr
    rw [hr]
    dsimp only
    have c1 : brM l u.1 k ≤ wd := by
      apply Decidable.byContradiction
      intro e
      exact c (.inl (decide_eq_false e))
    have c2 : ¬ brF l k := fun hf => c (.inr hf.2.2)
    refine ⟨u0, by omega, hw.o, fun j a b hf => ?_, .inr ⟨u1, by omega, hC, c1, fun j a b => by omega⟩⟩
    by_cases e : j = k
    · subst e; exact c2 hf
    · exact hw.f j a (by omega) hf
theorem way_run {l : List S36} (hok : l.any brBad = false) (wd : Int) : ∀ d : Nat, (d : Int) + 1 ≤ l.length → Way l wd ((d : Int) + 1) (brRun l wd (brTo l ((d : Int) + 1))).1 (brRun l wd (brTo l ((d : Int) + 1))).2.1 (brRun l wd (brTo l ((d : Int) + 1))).2.2 := by
  intro d
  induction d with
  | zero =>
    intro _
    rw [show ((0 : Nat) : Int) + 1 = 1 from rfl, brTo_one]
    exact ⟨by simp [brRun], by simp [brRun], fun T hT => ⟨T, rfl, hT⟩, fun j a b => by simp [brRun] at a; omega, .inl ⟨rfl, fun j a b => by simp [brRun] at a; omega⟩⟩
  | succ d ih =>
    intro hd
    have h := ih (by omega)
    have e : ((d + 1 : Nat) : Int) = (d : Int) + 1 := by omega
    rw [e, brTo_succ l ((d : Int) + 1) (by omega) (by omega)]
    by_cases c : (brMay l ((d : Int) + 1) || brMust l ((d : Int) + 1)) = true
    · rw [if_pos c, brRun_snoc]
      exact h.step hok (by omega) c
    · rw [if_neg c, List.append_nil]
      refine h.none ?_
      rintro (q | q)
      · omega
      · exact c q.2.2
/-- The program's lines. -/
theorem lines_chain {l : List S36} (hok : l.any brBad = false) (wd : Int) : ∃ L, brLines l wd = 0 :: L ∧ Chain l wd 0 L := by
  by_cases h0 : l.length = 0
  · have hb : brTo l l.length = [] := by rw [h0]; simp [brTo]
    refine ⟨[], ?_, .past 0 (by omega)⟩
    unfold brLines
    rw [hb]
    rfl
  have h := way_run hok wd (l.length - 1) (by omega)
  rw [show ((l.length - 1 : Nat) : Int) + 1 = l.length by omega] at h
  unfold brLines
  generalize (brRun l wd (brTo l l.length)) = st at h
  have hs0 := h.s0
  have hs1 := h.s1
  dsimp only
  rw [fit_M hs0 (by omega) (by omega)]
  by_cases c : st.1 < st.2.1 ∧ decide (brM l st.1 l.length ≤ wd) = false
  · rw [if_pos c]
    have hn := h.close hok (Int.le_refl _) c.1 (by simpa using c.2)
    rcases h.c with ⟨h1, h2⟩ | ⟨h1, h2, h3, h4, h5⟩
    · have := c.1; omega
    · refine h.o [st.2.1] (.more _ _ _ hn h2 (.last _ ⟨h2, Int.le_refl _, .inl rfl, fun j a b hf => h5 j a b (brF_C hf), .inr h5, .inr fun j a b => by omega⟩))
  · rw [if_neg c]
    have hn : Nx l wd st.1 l.length := by
      refine ⟨hs1, Int.le_refl _, .inl rfl, h.f, ?_, .inr fun j a b => by omega⟩
      rcases h.c with ⟨h1, h2⟩ | ⟨h1, h2, h3, h4, h5⟩
      · exact .inr h2
      · left
        apply Decidable.byContradiction
        intro e
        exact c ⟨h1, decide_eq_false e⟩
    simpa using h.o [] (.last _ hn)
end Go.Proofs.Ythckihfkhmoafaa.A

/-! The law BreaksAgain, for any items. -/
namespace Go.Proofs.Ythckihfkhmoafaa.A
open Go.RowKit Go.Proofs.Ythckihfkhmoafaa.X Go.Proofs.YthckihfkhmoafaaW.PrintWords Go.Proofs.YthckihfkhmoafaaW.PrintLast Go.Proofs.YthckihfkhmoafaaW.PrintMore Go.Proofs.Ythckihfkhmoafaa
set_option linter.unusedVariables false
set_option linter.unusedSimpArgs false

theorem rd_dropN (l : List S36) (s : Nat) (k : Int) (h : 0 ≤ k) : rd_T36 (l.drop s) k = rd_T36 l (k + s) := by
  unfold rd_T36
  rw [List.getD_eq_getElem?_getD, List.getD_eq_getElem?_getD, List.getElem?_drop]
  congr 2
  omega
theorem mTo_drop (l : List S36) (s t : Nat) : ∀ (m : Nat) (e : Bool), mTo (l.drop s) t m e = mTo l (t + s) m e := by
  intro m
  induction m with
  | zero => intro e; rfl
  | succ m ih =>
    intro e
    rw [mTo, mTo, rd_dropN l s _ (by omega), ih]
    have : ((t + m : Nat) : Int) + s = ((t + s + m : Nat) : Int) := by omega
    rw [this]
theorem brM_drop (l : List S36) (s : Nat) (t k : Int) (h0 : 0 ≤ t) (h1 : t ≤ k) : brM (l.drop s) t k = brM l (t + s) (k + s) := by
  unfold brM
  rw [mTo_drop]
  have e1 : t.toNat + s = (t + s).toNat := by omega
  have e2 : k.toNat - t.toNat = (k + s).toNat - (t + s).toNat := by omega
  rw [e1, e2]
theorem brF_drop (l : List S36) (s : Nat) (hs : s ≤ l.length) (k : Int) (h : 1 ≤ k) : brF (l.drop s) k ↔ brF l (k + s) := by
  unfold brF brMust
  rw [rd_dropN l s (k - 1) (by omega), List.length_drop, show k - 1 + s = k + s - 1 by omega]
  constructor
  · rintro ⟨a, b, c⟩; exact ⟨by omega, by omega, c⟩
  · rintro ⟨a, b, c⟩; exact ⟨by omega, by omega, c⟩
theorem brC_drop (l : List S36) (s : Nat) (hs : s ≤ l.length) (k : Int) (h : 1 ≤ k) : brC (l.drop s) k ↔ brC l (k + s) := by
  unfold brC brMust brMay
  rw [rd_dropN l s (k - 1) (by omega), rd_dropN l s k (by omega), List.length_drop, show k - 1 + s = k + s - 1 by omega]
  constructor
  · rintro (a | ⟨a, b, c⟩)
    · exact .inl (by omega)
    · exact .inr ⟨by omega, by omega, c⟩
  · rintro (a | ⟨a, b, c⟩)
    · exact .inl (by omega)
    · exact .inr ⟨by omega, by omega, c⟩
theorem Nx.shift {l : List S36} {wd s n : Int} {b : Nat} (h : Nx l wd s n) (hb : (b : Int) ≤ s) : Nx (l.drop b) wd (s - b) (n - b) := by
  have h0 := h.lo
  have h1 := h.hi
  have hbl : b ≤ l.length := by omega
  have hlen : ((l.drop b).length : Int) = l.length - b := by rw [List.length_drop]; omega
  have eb : ∀ x : Int, x - b + b = x := fun x => by omega
  refine ⟨by omega, by omega, ?_, fun j a c hf => ?_, ?_, ?_⟩
  · rw [brC_drop l b hbl _ (by omega), eb]; exact h.c
  · rw [brF_drop l b hbl _ (by omega)] at hf
    exact h.free (j + b) (by omega) (by omega) hf
  · rcases h.fit with q | q
    · left; rw [brM_drop l b _ _ (by omega) (by omega), eb, eb]; exact q
    · right
      intro j a c hc
      rw [brC_drop l b hbl _ (by omega)] at hc
      exact q (j + b) (by omega) (by omega) hc
  · rcases h.far with q | q
    · left; rw [brF_drop l b hbl _ (by omega), eb]; exact q
    · right
      intro j a c hc
      rw [brC_drop l b hbl _ (by omega)] at hc
      rw [brM_drop l b _ _ (by omega) (by omega), eb]
      exact q (j + b) (by omega) (by omega) hc
theorem Chain.shift {l : List S36} {wd s : Int} {L : List Int} {b : Nat} (h : Chain l wd s L) (hb : (b : Int) ≤ s) : Chain (l.drop b) wd (s - b) (L.map (fun x => x - b)) := by
  induction h with
  | past s hs => exact .past _ (by rw [List.length_drop]; omega)
  | last s n =>
    have := n.lo
    refine .last _ ?_
    have e := n.shift hb
    rwa [show (l.length : Int) - b = ((l.drop b).length : Int) by rw [List.length_drop]; omega] at e
  | more s n L q h1 _ ih =>
    have := q.lo
    exact .more _ _ _ (q.shift hb) (show n - (b : Int) < ((l.drop b).length : Int) by have := q.hi; rw [List.length_drop]; omega) (ih (by omega))
theorem Chain.at {l : List S36} {wd : Int} : ∀ (i : Nat) {s : Int} {L : List Int}, Chain l wd s L → 0 ≤ s → s ≤ l.length → i < (s :: L).length → ∃ r K, (s :: L).drop i = r :: K ∧ Chain l wd r K ∧ 0 ≤ r ∧ r ≤ l.length := by
  intro i
  induction i with
  | zero => intro s L h h0 h1 _; exact ⟨s, L, rfl, h, h0, h1⟩
  | succ i ih =>
    intro s L h h0 h1 hi
    cases h with
    | past _ _ => simp at hi
    | last _ _ => simp at hi
    | more _ n K q h2 h3 =>
      have := q.lo
      have := q.hi
      obtain ⟨r, M, a, b⟩ := ih h3 (by omega) (by omega) (by simpa using hi)
      exact ⟨r, M, by simpa using a, b⟩
theorem lines_some {l : List S36} {wd : Int} (hl : l.length ≤ 65536) : breaks_Lines.f l wd = some (if l.any brBad then ([], 2) else if wd < 1 ∨ 16777216 < wd then ([], 2) else (brLines l wd, 0)) := by
  unfold breaks_Lines.f
  rw [if_pos (by omega), if_neg (by omega)]
theorem Chain.len {l : List S36} {wd s : Int} {L : List Int} (h : Chain l wd s L) : (L.length : Int) ≤ l.length - s ∨ L = [] := by
  induction h with
  | past s _ => exact .inr rfl
  | last s _ => exact .inr rfl
  | more s n L q h1 _ ih =>
    have := q.lo
    left
    rcases ih with ih | ih
    · rw [List.length_cons]; omega
    · rw [ih]; simp; omega
theorem pick_in {n a : Int} (hn : 0 < n) (h2 : n ≤ 4611686018427387904) : ∃ r, selvedgekit_Pick.f a n = some r ∧ 0 ≤ r ∧ r < n := by
  unfold selvedgekit_Pick.f
  rw [if_neg (by omega), if_neg (by omega)]
  refine ⟨_, rfl, ?_⟩
  have h3 : -n < Int.tmod a n ∧ Int.tmod a n < n := by
    have e := Int.tmod_lt_of_pos a hn
    have e2 := Int.lt_tmod_of_pos a hn
    exact ⟨e2, e⟩
  rw [E.w64 (by omega) (by omega), Int.tmod_eq_emod_of_nonneg (by omega)]
  exact ⟨Int.emod_nonneg _ (by omega), Int.emod_lt_of_pos _ hn⟩
end Go.Proofs.Ythckihfkhmoafaa.A

/-! The law BreaksWide, for any items. -/
namespace Go.Proofs.Ythckihfkhmoafaa.A
open Go.RowKit Go.Proofs.Ythckihfkhmoafaa.X Go.Proofs.YthckihfkhmoafaaW.PrintWords Go.Proofs.YthckihfkhmoafaaW.PrintLast Go.Proofs.YthckihfkhmoafaaW.PrintMore Go.Proofs.Ythckihfkhmoafaa
set_option linter.unusedVariables false
set_option linter.unusedSimpArgs false

/-- The forced places behind i, of which d are left to be seen. -/
def fwd (l : List S36) : Nat → Nat → List Int
  | 0, _ => []
  | d + 1, i => if (rd_T36 l i).f0 = 8232 ∧ (i : Int) + 1 < l.length then ((i : Int) + 1) :: fwd l d (i + 1) else fwd l d (i + 1)
theorem sA_mono {l : List S36} (h : l.any brBad = false) : ∀ j i : Nat, i + j ≤ l.length → sA l i ≤ sA l (i + j) := by
  intro j
  induction j with
  | zero => intro i _; exact Int.le_refl _
  | succ j ih =>
    intro i hi
    have h1 := ih i (by omega)
    have h2 := ok_item h (i + j) (by omega)
    rw [show i + (j + 1) = (i + j) + 1 by omega, sA]
    omega
theorem brM_total {l : List S36} (h : l.any brBad = false) {s k : Int} (h0 : 0 ≤ s) (h1 : s ≤ k) (h2 : k ≤ l.length) : brM l s k ≤ sA l l.length := by
  unfold brM
  have h3 := mTo_bounds h s.toNat (k.toNat - s.toNat) (by omega)
  have h4 := mTo_false_sA l s.toNat (k.toNat - s.toNat)
  have h5 := sA_mono h (l.length - k.toNat) k.toNat (by omega)
  have h6 := sA_in h s.toNat (by omega)
  rw [show s.toNat + (k.toNat - s.toNat) = k.toNat by omega] at h4
  rw [show k.toNat + (l.length - k.toNat) = l.length by omega] at h5
  omega
theorem wide_chain {l : List S36} (h : l.any brBad = false) {wd : Int} (hw : sA l l.length ≤ wd) : ∀ (d i : Nat) (s : Int), i + d = l.length → 0 ≤ s → s ≤ i → (∀ j, s < j → j ≤ (i : Int) → ¬ brF l j) → Chain l wd s (fwd l d i) := by
  intro d
  induction d with
  | zero =>
    intro i s hi h0 h1 hf
    by_cases e : s = l.length
    · exact .past s (by omega)
    · refine .last s ⟨by omega, Int.le_refl _, .inl rfl, fun j a b => hf j a (by omega), .inl ?_, .inr fun j a b => by omega⟩
      have := brM_total h (s := s) (k := l.length) h0 (by omega) (Int.le_refl _)
      omega
  | succ d ih =>
    intro i s hi h0 h1 hf
    rw [fwd]
    by_cases c : (rd_T36 l i).f0 = 8232 ∧ (i : Int) + 1 < l.length
    · rw [if_pos c]
      have hF : brF l ((i : Int) + 1) := ⟨by omega, c.2, by unfold brMust; rw [show (i : Int) + 1 - 1 = i by omega]; exact beq_iff_eq.mpr c.1⟩
      refine .more s _ _ ⟨by omega, by omega, brF_C hF, fun j a b => hf j a (by omega), .inl ?_, .inl hF⟩ c.2 (ih (i + 1) _ (by omega) (by omega) (by omega) (fun j a b => by omega))
      have := brM_total h (s := s) (k := (i : Int) + 1) h0 (by omega) (by omega)
      omega
    · rw [if_neg c]
      refine ih (i + 1) s (by omega) h0 (by omega) (fun j a b hF => ?_)
      by_cases e : j ≤ (i : Int)
      · exact hf j a e hF
      · have : j = (i : Int) + 1 := by omega
        subst this
        have h3 := hF.2.2
        unfold brMust at h3
        rw [show (i : Int) + 1 - 1 = i by omega] at h3
        exact c ⟨beq_iff_eq.mp h3, hF.2.1⟩
theorem same_self (a : List Int) (ha : a.length ≤ 4611686018427387904) : Ev (fun k => selvedgekit_SameInts.f k a a) true := by
  unfold selvedgekit_SameInts.f
  refine E.pos (by simp) ?_
  have loop : ∀ d x : Nat, x + d = a.length → Ev (fun k => selvedgekit_SameInts.l0 k a a x) true := by
    intro d
    induction d with
    | zero =>
      intro x hx
      refine E.succ ?_
      simp only [selvedgekit_SameInts.l0]
      exact E.neg (by omega) (E.ret rfl)
    | succ d ih =>
      intro x hx
      have H := ih (x + 1) (by omega)
      rw [show ((x + 1 : Nat) : Int) = (x : Int) + 1 by omega] at H
      refine E.succ ?_
      simp only [selvedgekit_SameInts.l0]
      rw [E.w64 (by omega) (by omega)]
      exact E.pos (by omega) (E.pos (by omega) (E.pos (by omega) (E.pos (by simp) H)))
  exact loop a.length 0 (by omega)
/-- What the items up to i take, where each is small. -/
theorem sA_small {l : List S36} : ∀ i : Nat, i ≤ l.length → (∀ j, j < i → brBad (rd_T36 l (j : Nat)) = false ∧ (rd_T36 l (j : Nat)).f2 ≤ 4096 ∧ (rd_T36 l (j : Nat)).f3 ≤ 4096) → 0 ≤ sA l i ∧ sA l i ≤ 12288 * i := by
  intro i
  induction i with
  | zero => intro _ _; simp [sA]
  | succ i ih =>
    intro hi h
    have h1 := ih (by omega) (fun j hj => h j (by omega))
    obtain ⟨h2, h3, h4⟩ := h i (by omega)
    simp [brBad] at h2
    rw [sA]
    omega
end Go.Proofs.Ythckihfkhmoafaa.A

/-! The reference's lines and places. -/
namespace Go.Proofs.Ythckihfkhmoafaa.A
open Go.RowKit Go.Proofs.Ythckihfkhmoafaa.X Go.Proofs.YthckihfkhmoafaaW.PrintWords Go.Proofs.YthckihfkhmoafaaW.PrintLast Go.Proofs.YthckihfkhmoafaaW.PrintMore Go.Proofs.Ythckihfkhmoafaa
set_option linter.unusedVariables false
set_option linter.unusedSimpArgs false

theorem refMust {l : List S36} (hl : l.length ≤ 65536) {k : Int} (h0 : 0 ≤ k) (h1 : k ≤ l.length) : selvedgeref21_must.f (l.map c49) k = some (decide (1 ≤ k ∧ k < l.length) && brMust l k) := by
  unfold selvedgeref21_must.f
  rw [E.w64 (by omega) (by omega), List.length_map, rd49]
  by_cases c1 : k > 0
  · rw [if_pos c1]
    by_cases c2 : k < l.length
    · rw [if_pos c2, if_pos (by omega), if_pos (by omega), decide_eq_true ⟨by omega, c2⟩]
      rfl
    · rw [if_neg c2, decide_eq_false (fun h => c2 h.2)]
      rfl
  · rw [if_neg c1, decide_eq_false (fun h => by omega)]
    rfl
theorem refCan {l : List S36} (hl : l.length ≤ 65536) {k : Int} (h0 : 1 ≤ k) (h1 : k < l.length) : selvedgeref21_can.f (l.map c49) k = some (brMay l k || brMust l k) := by
  unfold selvedgeref21_can.f
  rw [refMust hl (by omega) (by omega), E.w64 (x := k - 1) (by omega) (by omega), List.length_map]
  simp only [Option.bind_some, rd49]
  rw [decide_eq_true ⟨h0, h1⟩, Bool.true_and]
  by_cases c : brMust l k = true
  · rw [if_pos c, c, Bool.or_true]
  · rw [if_neg c, Bool.eq_false_iff.mpr c, Bool.or_false, if_pos (by omega), if_pos h1, if_pos (by omega), if_pos (by omega), refBlank (rd_T36 l (k - 1)), Option.bind_some]
    have hz : (c49 (rd_T36 l (k - 1))).f0 = (rd_T36 l (k - 1)).f0 := rfl
    by_cases b : brBlank (rd_T36 l (k - 1)) = true
    · rw [if_pos b, if_pos (by omega), refBlank, Option.bind_some]
      unfold brMay
      rw [b]; simp
    · rw [if_neg b, hz]
      unfold brMay
      rw [Bool.eq_false_iff.mpr b]
      by_cases z : (rd_T36 l (k - 1)).f0 = 8203
      · rw [if_pos z, if_pos (by omega), refBlank, Option.bind_some]; simp [z]
      · rw [if_neg z]; simp [z]
/-- What the search for the next line has seen, when k is next. -/
structure Seen (l : List S36) (wd s k least best : Int) : Prop where
  c : (least = -1 ∧ best = -1 ∧ ∀ j, s < j → j < k → ¬ brC l j) ∨
    (s < least ∧ least < k ∧ brC l least ∧ (∀ j, s < j → j < least → ¬ brC l j) ∧
      ((best = -1 ∧ ∀ j, s < j → j < k → brC l j → wd < brM l s j) ∨ (s < best ∧ best < k ∧ brC l best ∧ brM l s best ≤ wd ∧ ∀ j, best < j → j < k → brC l j → wd < brM l s j)))
theorem Seen.skip {l : List S36} {wd s k least best : Int} (h : Seen l wd s k least best) (hc : ¬ brC l k) : Seen l wd s (k + 1) least best := by
  have q : ∀ {j}, j < k + 1 → brC l j → j < k := by
    intro j a b
    by_cases e : j = k
    · subst e; exact absurd b hc
    · omega
  rcases h.c with ⟨a, b, c⟩ | ⟨a, b, c, d, e⟩
  · exact ⟨.inl ⟨a, b, fun j x y z => c j x (q y z) z⟩⟩
  · refine ⟨.inr ⟨a, by omega, c, d, ?_⟩⟩
    rcases e with ⟨e, f⟩ | ⟨e, f, g, i, m⟩
    · exact .inl ⟨e, fun j x y z => f j x (q y z) z⟩
    · exact .inr ⟨e, by omega, g, i, fun j x y z => m j x (q y z) z⟩
theorem Seen.take {l : List S36} {wd s k least best : Int} (h : Seen l wd s k least best) (hs : 0 ≤ s) (hk : s < k) (hc : brC l k) : Seen l wd s (k + 1) (if least < 0 then k else least) (if brM l s k ≤ wd then k else best) := by
  by_cases f : brM l s k ≤ wd
  · rw [if_pos f]
    rcases h.c with ⟨a, b, c⟩ | ⟨a, b, c, d, e⟩
    · rw [if_pos (by omega)]
      exact ⟨.inr ⟨hk, by omega, hc, c, .inr ⟨hk, by omega, hc, f, fun j x y => by omega⟩⟩⟩
    · rw [if_neg (by omega)]
      exact ⟨.inr ⟨a, by omega, c, d, .inr ⟨hk, by omega, hc, f, fun j x y => by omega⟩⟩⟩
  · rw [if_neg f]
    rcases h.c with ⟨a, b, c⟩ | ⟨a, b, c, d, e⟩
    · rw [if_pos (by omega)]
      refine ⟨.inr ⟨hk, by omega, hc, c, .inl ⟨b, fun j x y z => ?_⟩⟩⟩
      by_cases e : j = k
      · subst e; omega
      · exact absurd z (c j x (by omega))
    · rw [if_neg (by omega)]
      refine ⟨.inr ⟨a, by omega, c, d, ?_⟩⟩
      rcases e with ⟨e, g⟩ | ⟨e, g, i, m, n⟩
      · refine .inl ⟨e, fun j x y z => ?_⟩
        by_cases e : j = k
        · subst e; omega
        · exact g j x (by omega) z
      · refine .inr ⟨e, by omega, i, m, fun j x y z => ?_⟩
        by_cases e : j = k
        · subst e; omega
        · exact n j x (by omega) z
theorem Seen.done {l : List S36} (hok : l.any brBad = false) {wd s k least best : Int} (h : Seen l wd s (k + 1) least best) (hs : 0 ≤ s) (hk : s < k) (hkl : k ≤ l.length) (hc : brC l k) (he : k = l.length ∨ brF l k) (hf : ∀ j, s < j → j < k → ¬ brF l j) :
    Nx l wd s (if best < 0 then least else best) := by
  have far : ∀ n, s < n → n ≤ k → (∀ j, n < j → j < k + 1 → brC l j → wd < brM l s j) → brF l n ∨ ∀ j, n < j → j ≤ l.length → brC l j → wd < brM l s j := by
    intro n h0 h1 h2
    by_cases e : n = k
    · subst e
      rcases he with he | he
      · exact .inr fun j x y => by omega
      · exact .inl he
    · refine .inr fun j x y z => ?_
      by_cases e2 : j < k + 1
      · exact h2 j x e2 z
      · have h3 := h2 k (by omega) (by omega) hc
        have h4 := brM_mono hok (s := s) (k := k) (j := j) hs (by omega) (by omega) y
        omega
  rcases h.c with ⟨a, b, c⟩ | ⟨a, b, c, d, e⟩
  · exact absurd hc (c k hk (by omega))
  · rcases e with ⟨e, g⟩ | ⟨e, g, i, m, n⟩
    · rw [if_pos (by omega)]
      exact ⟨a, by omega, c, fun j x y => hf j x (by omega), .inr d, far least a (by omega) (fun j x y z => g j (by omega) y z)⟩
    · rw [if_neg (by omega)]
      exact ⟨e, by omega, i, fun j x y => hf j x (by omega), .inl m, far best e (by omega) n⟩
theorem refM {l : List S36} (hok : l.any brBad = false) (hl : l.length ≤ 65536) {s k : Int} (h0 : 0 ≤ s) (h1 : s ≤ k) (h2 : k ≤ l.length) : Ev (fun n => selvedgeref21_Measured.f n (l.map c49) s k) (brM l s k) := by
  have H := refMeasured l hok hl s.toNat (k.toNat - s.toNat) true 0 (by omega) (by omega) (by omega)
  rw [show ((s.toNat : Nat) : Int) = s by omega, show s + ((k.toNat - s.toNat : Nat) : Int) - 1 = k - 1 by omega, Int.zero_add] at H
  unfold selvedgeref21_Measured.f
  rw [E.w64 (by omega) (by omega)]
  exact H
theorem ref_next {l : List S36} (hok : l.any brBad = false) (hl : l.length ≤ 65536) {wd s : Int} (hs : 0 ≤ s) (hsl : s < l.length) : ∀ (d : Nat) (k least best : Int), k + d = (l.length : Int) + 1 → s < k → k ≤ l.length → Seen l wd s k least best → (∀ j, s < j → j < k → ¬ brF l j) →
    ∃ n, Nx l wd s n ∧ Ev (fun q => selvedgeref21_next.l0 q (l.map c49) s wd least best k) n := by
  intro d
  induction d with
  | zero => intro k least best hd hk hkl hS hf; omega
  | succ d ih =>
    intro k least best hd hk hkl hS hf
    -- what follows where the place at k is one that may be taken
    have last : ∀ least', (least' = if least < 0 then k else least) → brC l k → ∃ n, Nx l wd s n ∧ Ev (fun q => selvedgeref21_next.j2 q (l.map c49) s wd least' best k) n := by
      intro least' hle hc
      have hT := hS.take hs hk hc
      rw [← hle] at hT
      have hM := refM hok hl hs (Int.le_of_lt hk) hkl
      have hmu := refMust hl (k := k) (by omega) hkl
      have goOn : ∀ best', best' = (if brM l s k ≤ wd then k else best) → (decide (1 ≤ k ∧ k < l.length) && brMust l k) = false → ∃ n, Nx l wd s n ∧ Ev (fun q => selvedgeref21_next.l0 q (l.map c49) s wd least' best' (wrap64 (k + 1))) n := by
        intro best' hb hm
        rw [← hb] at hT
        rw [E.w64 (by omega) (by omega)]
        have hnf : ¬ brF l k := by
          rintro ⟨a, b, c⟩
          rw [decide_eq_true ⟨a, b⟩, c] at hm
          cases hm
        by_cases e : k = l.length
        · refine ⟨_, hT.done hok hs hk hkl hc (.inl e) hf, ?_⟩
          refine E.succ ?_
          simp only [selvedgeref21_next.l0]
          refine E.neg (by rw [List.length_map]; omega) ?_
          by_cases c : best' < 0
          · rw [if_pos c, if_pos c]; exact E.ret rfl
          · rw [if_neg c, if_neg c]; exact E.ret rfl
        · refine ih (k + 1) _ _ (by omega) (by omega) (by omega) hT (fun j a b c => ?_)
          by_cases e : j = k
          · subst e; exact hnf c
          · exact hf j a (by omega) c
      have stop : ∀ best', best' = (if brM l s k ≤ wd then k else best) → (decide (1 ≤ k ∧ k < l.length) && brMust l k) = true → Nx l wd s (if best' < 0 then least' else best') := by
        intro best' hb hm
        rw [← hb] at hT
        rw [Bool.and_eq_true] at hm
        have h1 := of_decide_eq_true hm.1
        exact hT.done hok hs hk hkl hc (.inr ⟨h1.1, h1.2, hm.2⟩) hf
      cases hb : (decide (1 ≤ k ∧ k < l.length) && brMust l k) with
      | true =>
        rw [hb] at hmu
        refine ⟨_, stop _ rfl hb, ?_⟩
        refine E.succ ?_
        simp only [selvedgeref21_next.j2]
        refine E.bnd hM ?_
        by_cases c : brM l s k ≤ wd
        · rw [if_pos c]
          refine E.pos c (E.bno hmu (E.pos (by simp) ?_))
          rw [if_neg (by omega : ¬ k < 0), if_neg (by omega : ¬ k < 0)]
          exact E.ret rfl
        · rw [if_neg c]
          refine E.neg c (E.bno hmu (E.pos (by simp) ?_))
          by_cases c : best < 0
          · rw [if_pos c, if_pos c]; exact E.ret rfl
          · rw [if_neg c, if_neg c]; exact E.ret rfl
      | false =>
        rw [hb] at hmu
        by_cases c : brM l s k ≤ wd
        · obtain ⟨n, h1, h2⟩ := goOn k (by rw [if_pos c]) hb
          refine ⟨n, h1, ?_⟩
          refine E.succ ?_
          simp only [selvedgeref21_next.j2]
          exact E.bnd hM (E.pos c (E.bno hmu (E.neg (by decide) h2)))
        · obtain ⟨n, h1, h2⟩ := goOn best (by rw [if_neg c]) hb
          refine ⟨n, h1, ?_⟩
          refine E.succ ?_
          simp only [selvedgeref21_next.j2]
          exact E.bnd hM (E.neg c (E.bno hmu (E.neg (by decide) h2)))
    have at_ : brC l k → ∃ n, Nx l wd s n ∧ Ev (fun q => selvedgeref21_next.j1 q (l.map c49) s wd least best k false) n := by
      intro hc
      by_cases c : least < 0
      · obtain ⟨n, h1, h2⟩ := last k (by rw [if_pos c]) hc
        refine ⟨n, h1, ?_⟩
        refine E.succ ?_
        simp only [selvedgeref21_next.j1]
        exact E.neg (by decide) (E.pos c h2)
      · obtain ⟨n, h1, h2⟩ := last least (by rw [if_neg c]) hc
        refine ⟨n, h1, ?_⟩
        refine E.succ ?_
        simp only [selvedgeref21_next.j1]
        exact E.neg (by decide) (E.neg c h2)
    by_cases e : k = l.length
    · obtain ⟨n, h1, h2⟩ := at_ (.inl e)
      refine ⟨n, h1, ?_⟩
      refine E.succ ?_
      simp only [selvedgeref21_next.l0]
      exact E.pos (by rw [List.length_map]; omega) (E.neg (by rw [List.length_map]; omega) h2)
    · have hcn := refCan hl (k := k) (by omega) (by omega)
      cases hb : (brMay l k || brMust l k) with
      | true =>
        rw [hb] at hcn
        obtain ⟨n, h1, h2⟩ := at_ (.inr ⟨by omega, by omega, hb⟩)
        refine ⟨n, h1, ?_⟩
        refine E.succ ?_
        simp only [selvedgeref21_next.l0]
        exact E.pos (by rw [List.length_map]; omega) (E.pos (by rw [List.length_map]; omega) (E.bno hcn h2))
      | false =>
        rw [hb] at hcn
        have hnc : ¬ brC l k := by
          rintro (q | q)
          · exact e q
          · rw [hb] at q; exact absurd q.2.2 (by decide)
        obtain ⟨n, h1, h2⟩ := ih (k + 1) least best (by omega) (by omega) (by omega) (hS.skip hnc) (fun j a b c => by
          by_cases e : j = k
          · subst e; exact hnc (brF_C c)
          · exact hf j a (by omega) c)
        refine ⟨n, h1, ?_⟩
        refine E.succ ?_
        simp only [selvedgeref21_next.l0]
        refine E.pos (by rw [List.length_map]; omega) (E.pos (by rw [List.length_map]; omega) (E.bno hcn (E.succ ?_)))
        simp only [selvedgeref21_next.j1]
        rw [E.w64 (by omega) (by omega)]
        exact E.pos (by simp) h2
theorem refNext {l : List S36} (hok : l.any brBad = false) (hl : l.length ≤ 65536) {wd s n : Int} (hs : 0 ≤ s) (hsl : s < l.length) (h : Nx l wd s n) : Ev (fun q => selvedgeref21_next.f q (l.map c49) s wd) n := by
  unfold selvedgeref21_next.f
  rw [E.w64 (by omega) (by omega)]
  obtain ⟨m, h1, h2⟩ := ref_next hok hl (wd := wd) hs hsl (l.length - s.toNat) (s + 1) (-1) (-1) (by omega) (by omega) (by omega) ⟨.inl ⟨rfl, rfl, fun j a b => by omega⟩⟩ (fun j a b => by omega)
  rw [h.uniq h1]
  exact h2
theorem ref_lines {l : List S36} (hok : l.any brBad = false) (hl : l.length ≤ 65536) {wd s : Int} {L : List Int} (h : Chain l wd s L) : 0 ≤ s → s ≤ l.length → ∀ out : List Int, (out.length : Int) ≤ s + 1 → Ev (fun q => selvedgeref21_Lines.l0 q (l.map c49) wd out s) (out ++ L, 0) := by
  induction h with
  | past s hp =>
    intro h0 h1 out ho
    refine E.succ ?_
    simp only [selvedgeref21_Lines.l0]
    exact E.neg (by rw [List.length_map]; omega) (E.ret (by rw [List.append_nil]))
  | last s hn =>
    intro h0 h1 out ho
    have := hn.lo
    refine E.succ ?_
    simp only [selvedgeref21_Lines.l0]
    refine E.pos (by rw [List.length_map]; omega) (E.bnd (refNext hok hl h0 this hn) (E.neg (by rw [List.length_map]; omega) (E.succ ?_)))
    simp only [selvedgeref21_Lines.l0]
    exact E.neg (by rw [List.length_map]; omega) (E.ret (by rw [List.append_nil]))
  | more s n L q h1 _ ih =>
    intro h0 h2 out ho
    have := q.lo
    refine E.succ ?_
    simp only [selvedgeref21_Lines.l0]
    refine E.pos (by rw [List.length_map]; omega) (E.bnd (refNext hok hl h0 (by omega) q) (E.pos (by rw [List.length_map]; omega) (E.pos (by omega) ?_)))
    have := ih (by omega) (by omega) (out ++ [n]) (by simp; omega)
    simpa using this
/-- What both tell of lines. -/
def liV (l : List S36) (wd : Int) : List Int × Int := if (l.length : Int) > 65536 then ([], 3) else if l.any brBad then ([], 2) else if wd < 1 ∨ 16777216 < wd then ([], 2) else (brLines l wd, 0)
theorem progLines {l : List S36} (hl : l.length < 17592186044416) (wd : Int) : breaks_Lines.f l wd = some (liV l wd) := by
  unfold breaks_Lines.f liV
  rw [if_pos hl]
theorem refLines (l : List S36) (wd : Int) : Ev (fun q => selvedgeref21_Lines.f q (l.map c49) wd) (liV l wd) := by
  unfold selvedgeref21_Lines.f
  refine E.bnd (refMay l) ?_
  unfold liV mayV
  by_cases h1 : (l.length : Int) > 65536
  · rw [if_pos h1, if_pos h1]
    exact E.neg (by decide) (E.ret rfl)
  rw [if_neg h1, if_neg h1]
  by_cases h2 : l.any brBad = true
  · rw [if_pos h2, if_pos h2]
    exact E.neg (by decide) (E.ret rfl)
  rw [if_neg h2, if_neg h2]
  refine E.pos (by simp) ?_
  have off : ∀ c, c = true → Ev (fun q => selvedgeref21_Lines.j0 q (l.map c49) wd c) (([] : List Int), (2 : Int)) := by
    intro c hc
    subst hc
    refine E.succ ?_
    simp only [selvedgeref21_Lines.j0]
    exact E.pos (by simp) (E.ret rfl)
  by_cases w1 : wd < 1
  · rw [if_pos (.inl w1)]
    exact E.pos w1 (off _ rfl)
  refine E.neg w1 ?_
  by_cases w2 : wd > 16777216
  · rw [if_pos (.inr w2)]
    exact off _ (decide_eq_true w2)
  rw [if_neg (by omega), decide_eq_false w2]
  have hok := Bool.eq_false_iff.mpr h2
  obtain ⟨L, hL, hc⟩ := lines_chain hok wd
  rw [hL]
  refine E.succ ?_
  simp only [selvedgeref21_Lines.j0]
  exact E.neg (by decide) (ref_lines hok (by omega) hc (Int.le_refl _) (by omega) [0] (by simp))
theorem ref_places {l : List S36} (hl : l.length ≤ 65536) : ∀ (d : Nat) (k : Int), 1 ≤ k → k + d = l.length ∨ (k = 1 ∧ d = 0 ∧ l.length = 0) → ∀ out : List Int, out = (brTo l k).map (·.1.1) → (out.length : Int) < k → Ev (fun q => selvedgeref21_Places.l0 q (l.map c49) out k) ((brTo l l.length).map (·.1.1), 0) := by
  intro d
  induction d with
  | zero =>
    intro k hk hd out ho hlen
    refine E.succ ?_
    simp only [selvedgeref21_Places.l0]
    by_cases c : k < l.length
    · omega
    · refine E.neg (by rw [List.length_map]; exact c) (E.ret ?_)
      rw [ho]
      rcases hd with hd | hd
      · rw [show k = l.length by omega]
      · rw [hd.1, brTo_one]
        have : (l.length : Int) - 1 ≤ 0 := by omega
        rw [brTo, Int.toNat_of_nonpos this]; rfl
  | succ d ih =>
    intro k hk hd out ho hlen
    have hkl : k < l.length := by omega
    have hs := brTo_succ l k hk hkl
    have hcn := refCan hl hk hkl
    refine E.succ ?_
    simp only [selvedgeref21_Places.l0]
    rw [E.w64 (by omega) (by omega)]
    refine E.pos (by rw [List.length_map]; exact hkl) (E.bno hcn ?_)
    cases hb : (brMay l k || brMust l k) with
    | true =>
      rw [hb, if_pos rfl] at hs
      refine E.pos (by simp) (E.pos (by omega) (ih (k + 1) (by omega) (.inl (by omega)) _ ?_ (by simp; omega)))
      rw [hs, List.map_append, ho]
      rfl
    | false =>
      rw [hb, if_neg (by decide), List.append_nil] at hs
      exact E.neg (by decide) (ih (k + 1) (by omega) (.inl (by omega)) _ (by rw [hs, ho]) (by omega))
end Go.Proofs.Ythckihfkhmoafaa.A

/-! The law BreaksLines, for any items. -/
namespace Go.Proofs.Ythckihfkhmoafaa.A
open Go.RowKit Go.Proofs.Ythckihfkhmoafaa.X Go.Proofs.YthckihfkhmoafaaW.PrintWords Go.Proofs.YthckihfkhmoafaaW.PrintLast Go.Proofs.YthckihfkhmoafaaW.PrintMore Go.Proofs.Ythckihfkhmoafaa
set_option linter.unusedVariables false
set_option linter.unusedSimpArgs false

/-- What both tell of places. -/
def plV (l : List S36) : List Int × Int := if (l.length : Int) > 65536 then ([], 3) else if l.any brBad then ([], 2) else (brPlaces l, 0)
theorem progPlaces {l : List S36} (hl : l.length < 17592186044416) : breaks_Places.f l = some (plV l) := by
  unfold breaks_Places.f plV
  rw [if_pos hl]
theorem refPlaces (l : List S36) : Ev (fun q => selvedgeref21_Places.f q (l.map c49)) (plV l) := by
  unfold selvedgeref21_Places.f
  refine E.bnd (refMay l) ?_
  unfold plV mayV
  by_cases h1 : (l.length : Int) > 65536
  · rw [if_pos h1, if_pos h1]
    exact E.neg (by decide) (E.ret rfl)
  rw [if_neg h1, if_neg h1]
  by_cases h2 : l.any brBad = true
  · rw [if_pos h2, if_pos h2]
    exact E.neg (by decide) (E.ret rfl)
  rw [if_neg h2, if_neg h2]
  refine E.pos rfl ?_
  exact ref_places (by omega) (l.length - 1) 1 (Int.le_refl _) (by omega) [] (by rw [brTo_one]; rfl) (by simp)
theorem brPlaces_len (l : List S36) : (brPlaces l).length ≤ l.length := by
  unfold brPlaces
  rw [List.length_map]
  have := brTo_length l l.length
  omega
theorem brPlaces_mem {l : List S36} {k : Int} (h : k ∈ brPlaces l) : 1 ≤ k ∧ k < l.length ∧ (brMay l k || brMust l k) = true := by
  unfold brPlaces at h
  obtain ⟨x, hx, rfl⟩ := List.mem_map.1 h
  refine ⟨x.2.1, x.2.2, ?_⟩
  unfold brTo at hx
  obtain ⟨j, _, hj⟩ := List.mem_filterMap.1 hx
  split at hj
  · split at hj
    · rename_i hq
      injection hj with hj
      rw [← hj]
      exact hq
    · cases hj
  · cases hj
theorem liV_len (l : List S36) (wd : Int) : (liV l wd).1.length ≤ 65537 := by
  unfold liV
  split
  · simp
  · split
    · simp
    · split
      · simp
      · rename_i h1 h2 h3
        obtain ⟨L, hL, hc⟩ := lines_chain (Bool.eq_false_iff.mpr h2) wd
        dsimp only
        rw [hL]
        have := hc.len
        rcases this with h | h
        · rw [List.length_cons]; omega
        · rw [h]; simp
theorem plV_len (l : List S36) : (plV l).1.length ≤ 65537 := by
  unfold plV
  split
  · simp
  · split
    · simp
    · have := brPlaces_len l
      dsimp only
      omega
theorem breaksLines (l : List S36) (wd : Int) (hl : l.length < 4398046511104) : Ev (fun k => selvedgelaw21_BreaksLines.f k l wd) true := by
  have loop : ∀ (d i : Nat), i + d = l.length → Ev (fun k => selvedgelaw21_BreaksLines.l0 k l l i) true := by
    intro d
    induction d with
    | zero =>
      intro i hi
      refine E.succ ?_
      simp only [selvedgelaw21_BreaksLines.l0]
      exact E.neg (by omega) (E.bnd works_ev (E.ret rfl))
    | succ d ih =>
      intro i hi
      have H := ih (i + 1) (by omega)
      rw [show ((i + 1 : Nat) : Int) = (i : Int) + 1 by omega] at H
      refine E.succ ?_
      simp only [selvedgelaw21_BreaksLines.l0]
      rw [E.w64 (by omega) (by omega)]
      exact E.pos (by omega) (E.pos (by omega) (E.pos (by omega) (E.neg (by simp) H)))
  have j0 : ∀ c, Ev (fun k => selvedgelaw21_BreaksLines.j0 k l wd c) true := by
    intro c
    refine E.succ ?_
    simp only [selvedgelaw21_BreaksLines.j0]
    cases c with
    | true => exact E.pos (by simp) (E.bnd works_ev (E.ret rfl))
    | false =>
      refine E.neg (by decide) (E.pos (by simpa using hl) ?_)
      simp only [List.nil_append, Option.bind_some]
      refine E.bno (progLines (by omega) wd) (E.bnd (ref_ev l hl) (E.bnd (refLines l wd) (E.bno (progPlaces (by omega)) (E.bnd (ref_ev l hl) (E.bnd (refPlaces l) (E.pos (by simp) (E.pos (by simp) (E.bnd (same_self _ (by have := liV_len l wd; omega)) (E.pos (by simp) (E.bnd (same_self _ (by have := plV_len l; omega)) ?_))))))))))
      refine E.succ ?_
      simp only [selvedgelaw21_BreaksLines.j1]
      exact E.neg (by decide) (loop l.length 0 (by omega))
  unfold selvedgelaw21_BreaksLines.f
  by_cases h : (l.length : Int) > 400
  · exact E.pos h (j0 _)
  · exact E.neg h (j0 _)
end Go.Proofs.Ythckihfkhmoafaa.A
