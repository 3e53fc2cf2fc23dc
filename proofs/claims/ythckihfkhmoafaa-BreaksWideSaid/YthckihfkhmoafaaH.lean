import Derived.Test.YthckihfkhmoafaaG
/-! Where lines begin: what 'the next line' is, by what is asked of it; that the program's lines are such. -/
namespace Go.Proofs.Ythckihfkhmoafaa.A
open Go.RowKit Go.Proofs.Ythckihfkhmoafaa.X Go.Proofs.YthckihfkhmoafaaW.PrintWords Go.Proofs.YthckihfkhmoafaaW.PrintLast Go.Proofs.YthckihfkhmoafaaW.PrintMore Go.Proofs.Ythckihfkhmoafaa
set_option linter.unusedVariables false
set_option linter.unusedSimpArgs false

/-- The measure from one place up to another one. -/
def brM (l : List S36) (s k : Int) : Int := mTo l s.toNat (k.toNat - s.toNat) true
/-- May a line end at a place? Must one begin there? -/
def brC (l : List S36) (k : Int) : Prop := k = l.length ∨ (1 ≤ k ∧ k < l.length ∧ (brMay l k || brMust l k) = true)
def brF (l : List S36) (k : Int) : Prop := 1 ≤ k ∧ k < l.length ∧ brMust l k = true
theorem brF_C {l : List S36} {k : Int} (h : brF l k) : brC l k := .inr ⟨h.1, h.2.1, by rw [h.2.2, Bool.or_true]⟩
structure Nx (l : List S36) (wd s n : Int) : Prop where
  lo : s < n
  hi : n ≤ l.length
  c : brC l n
  free : ∀ j, s < j → j < n → ¬ brF l j
  fit : brM l s n ≤ wd ∨ ∀ j, s < j → j < n → ¬ brC l j
  far : brF l n ∨ ∀ j, n < j → j ≤ l.length → brC l j → wd < brM l s j
theorem Nx.uniq {l : List S36} {wd s n m : Int} (h : Nx l wd s n) (k : Nx l wd s m) : n = m := by
  have no : ∀ {n m}, Nx l wd s n → Nx l wd s m → ¬ n < m := by
    intro n m h k hlt
    rcases k.fit with q | q
    · rcases h.far with p | p
      · exact k.free n h.lo hlt p
      · have := p m hlt k.hi k.c; omega
    · exact q n h.lo hlt h.c
  have h1 := no h k
  have h2 := no k h
  omega
theorem brM_mono {l : List S36} (h : l.any brBad = false) {s k j : Int} (h0 : 0 ≤ s) (h1 : s ≤ k) (h2 : k ≤ j) (h3 : j ≤ l.length) : brM l s k ≤ brM l s j := by
  unfold brM
  have := mTo_more h s.toNat (k.toNat - s.toNat) (j.toNat - k.toNat) (by omega)
  rwa [show k.toNat - s.toNat + (j.toNat - k.toNat) = j.toNat - s.toNat by omega] at this
theorem mTo_false_sA (l : List S36) (f : Nat) : ∀ m, mTo l f m false = sA l (f + m) - sA l f := by
  intro m
  induction m with
  | zero => simp [mTo]
  | succ m ih => rw [mTo, Bool.false_and, if_neg (by decide), ih, show f + (m + 1) = (f + m) + 1 by omega, sA]; omega
theorem mTo_sums {l : List S36} (f : Nat) : ∀ m, f + m ≤ l.length → mTo l f m true = sA l (f + m) - sA l f - (sB l (f + m) - sB l (if f < (sR l (f + m)).toNat then (sR l (f + m)).toNat else f)) := by
  intro m
  induction m with
  | zero => intro _; have := sR_in l f; rw [Nat.add_zero, if_neg (by omega)]; simp [mTo]
  | succ m ih =>
    intro hm
    have h1 := ih (by omega)
    have h2 := mTo_false_sA l f m
    have hr := sR_in l (f + m)
    have h3 : sB l (f + m + 1) = sB l (f + m) + (if brBlank (rd_T36 l ((f + m : Nat) : Int)) = true then (rd_T36 l ((f + m : Nat) : Int)).f1 else 0) := by rw [sB]
    rw [show f + (m + 1) = (f + m) + 1 by omega, mTo, sA, sB, sR]
    generalize rd_T36 l ((f + m : Nat) : Int) = x at *
    cases hq : mHang x with
    | true =>
      have hq' : (brBlank x || brSilent x) = true := hq
      rw [if_pos (c := (brBlank x || brSilent x) = true) hq', Bool.true_and, if_pos rfl, h1]
      by_cases hb : brBlank x = true
      · rw [if_pos hb]; omega
      · rw [if_neg hb]
        have hs : brSilent x = true := by rw [Bool.eq_false_iff.mpr hb] at hq'; simpa using hq'
        have : x.f1 = 0 := by unfold brSilent at hs; simp at hs; omega
        omega
    | false =>
      have hq' : (brBlank x || brSilent x) = false := hq
      have hb : brBlank x = false := by cases e : brBlank x with
        | true => rw [e] at hq'; simp at hq'
        | false => rfl
      rw [hb, if_neg (by decide)] at h3
      have : (((f + m : Nat) : Int) + 1).toNat = f + m + 1 := by omega
      simp only [hq', Bool.and_false, Bool.false_eq_true, if_false]
      simp only [hb, Bool.false_eq_true, if_false]
      rw [this, if_pos (by omega), h3, h2]
      omega
/-- The program's test is about the measure. -/
theorem fit_M {l : List S36} {wd s k : Int} (h0 : 0 ≤ s) (h1 : s ≤ k) (h2 : k ≤ l.length) : brFit (partTo (sA l) l.length l.length) (partTo (sB l) l.length l.length) (partTo (sR l) l.length l.length) wd s k = decide (brM l s k ≤ wd) := by
  have rdp : ∀ (f : Nat → Int) (i : Int), 0 ≤ i → i ≤ l.length → rd (partTo f l.length l.length) i = f i.toNat := by
    intro f i h0 h1
    rw [partTo_rd f _ _ i h0 h1, if_pos (by omega)]
  have hr := sR_in l k.toNat
  unfold brFit
  rw [rdp _ k (by omega) h2, rdp _ s h0 (by omega), rdp _ k (by omega) h2, rdp (sR l) k (by omega) h2]
  have hm := mTo_sums (l := l) s.toNat (k.toNat - s.toNat) (by omega)
  rw [show s.toNat + (k.toNat - s.toNat) = k.toNat by omega] at hm
  unfold brM
  rw [hm]
  by_cases c : s < sR l k.toNat
  · rw [if_pos c, if_pos (by omega), rdp _ _ (by omega) (by omega)]
  · rw [if_neg c, if_neg (by omega), rdp _ s h0 (by omega)]
/-- The lines that begin behind a place. -/
inductive Chain (l : List S36) (wd : Int) : Int → List Int → Prop where
  | past (s : Int) : (l.length : Int) ≤ s → Chain l wd s []
  | last (s : Int) : Nx l wd s l.length → Chain l wd s []
  | more (s n : Int) (L : List Int) : Nx l wd s n → n < (l.length : Int) → Chain l wd n L → Chain l wd s (n :: L)
theorem Chain.uniq {l : List S36} {wd s : Int} {L K : List Int} (h : Chain l wd s L) (k : Chain l wd s K) : L = K := by
  induction h generalizing K with
  | past s hs =>
    cases k with
    | past _ _ => rfl
    | last _ _ => rfl
    | more _ n L q _ _ => have := q.lo; have := q.hi; omega
  | last s hs =>
    cases k with
    | past _ _ => rfl
    | last _ _ => rfl
    | more _ n L q h2 _ => have := q.uniq hs; omega
  | more s n L q h1 _ ih =>
    cases k with
    | past _ h => have := q.lo; omega
    | last _ h2 => have := q.uniq h2; omega
    | more _ n' L' q' h2 k =>
      have := q.uniq q'
      subst this
      rw [ih k]
/-- The lines under way, when all places ahead of k are seen. -/
structure Way (l : List S36) (wd k s last : Int) (out : List Int) : Prop where
  s0 : 0 ≤ s
  s1 : s < k
  o : ∀ T, Chain l wd s T → ∃ L, out ++ T = 0 :: L ∧ Chain l wd 0 L
  f : ∀ j, s < j → j < k → ¬ brF l j
  c : (last = -1 ∧ ∀ j, s < j → j < k → ¬ brC l j) ∨ (s < last ∧ last < k ∧ brC l last ∧ brM l s last ≤ wd ∧ ∀ j, last < j → j < k → ¬ brC l j)
theorem Way.none {l : List S36} {wd k s last : Int} {out : List Int} (h : Way l wd k s last out) (hc : ¬ brC l k) : Way l wd (k + 1) s last out := by
  refine ⟨h.s0, by have := h.s1; omega, h.o, fun j h1 h2 hf => ?_, ?_⟩
  · by_cases e : j = k
    · subst e; exact hc (brF_C hf)
    · exact h.f j h1 (by omega) hf
  · rcases h.c with ⟨h1, h2⟩ | ⟨h1, h2, h3, h4, h5⟩
    · refine .inl ⟨h1, fun j a b hj => ?_⟩
      by_cases e : j = k
      · subst e; exact hc hj
      · exact h2 j a (by omega) hj
    · refine .inr ⟨h1, by omega, h3, h4, fun j a b hj => ?_⟩
      by_cases e : j = k
      · subst e; exact hc hj
      · exact h5 j a (by omega) hj
/-- Where the place at k doesn't fit, the line ends at the last one that does. -/
theorem Way.close {l : List S36} (hok : l.any brBad = false) {wd k s last : Int} {out : List Int} (h : Way l wd k s last out) (hk : k ≤ l.length) (hl : s < last) (hf : wd < brM l s k) : Nx l wd s last := by
  have hs0 := h.s0
  rcases h.c with ⟨h1, h2⟩ | ⟨h1, h2, h3, h4, h5⟩
  · omega
  · refine ⟨h1, by omega, h3, fun j a b => h.f j a (by omega), .inl h4, .inr fun j a b hc => ?_⟩
    have : ¬ j < k := fun hjk => h5 j a hjk hc
    have := brM_mono hok (s := s) (k := k) (j := j) h.s0 (by omega) (by omega) b
    omega
theorem Way.shut {l : List S36} {wd k s last : Int} {out : List Int} (h : Way l wd k s last out) (n : Nx l wd s last) (hk : k ≤ l.length) (h2 : last < k) (h5 : ∀ j, last < j → j < k → ¬ brC l j) : Way l wd k last (-1) (out ++ [last]) := by
  have hs0 := h.s0
  have hlo := n.lo
  refine ⟨by omega, h2, fun T hT => ?_, fun j a b hf => h5 j a b (brF_C hf), .inl ⟨rfl, h5⟩⟩
  have := h.o (last :: T) (.more s last T n (by omega) hT)
  simpa using this
theorem Way.step {l : List S36} (hok : l.any brBad = false) {wd k s last : Int} {out : List Int} (h : Way l wd k s last out) (hk : k < l.length) (hc : (brMay l k || brMust l k) = true) :
    let r := brS (partTo (sA l) l.length l.length) (partTo (sB l) l.length l.length) (partTo (sR l) l.length l.length) wd k (brMust l k) s last out
    Way l wd (k + 1) r.1 r.2.1 r.2.2 := by
  have hs0 := h.s0
  have hs1 := h.s1
  have hC : brC l k := .inr ⟨by omega, hk, hc⟩
  -- behind the first part: no place ahead of k is left, or k fits
  obtain ⟨u, hu, hw, hq⟩ : ∃ u : Int × Int × List Int, brW (partTo (sA l) l.length l.length) (partTo (sB l) l.length l.length) (partTo (sR l) l.length l.length) wd k s last out = u ∧ Way l wd k u.1 u.2.1 u.2.2 ∧ ((∀ j, u.1 < j → j < k → ¬ brC l j) ∨ brM l u.1 k ≤ wd) := by
    refine ⟨_, rfl, ?_⟩
    unfold brW
    by_cases c : s < last ∧ brFit (partTo (sA l) l.length l.length) (partTo (sB l) l.length l.length) (partTo (sR l) l.length l.length) wd s k = false
    · rw [if_pos c]
      have c2 := c.2
      rw [fit_M hs0 (by omega) (by omega)] at c2
      have hn := h.close hok (by omega) c.1 (by simpa using c2)
      rcases h.c with ⟨h1, h2⟩ | ⟨h1, h2, h3, h4, h5⟩
      · have := c.1; omega
      · exact ⟨h.shut hn (by omega) h2 h5, .inl h5⟩
    · rw [if_neg c]
      refine ⟨h, ?_⟩
      rcases h.c with ⟨h1, h2⟩ | ⟨h1, h2, h3, h4, h5⟩
      · exact .inl h2
      · right
        have : ¬ brFit (partTo (sA l) l.length l.length) (partTo (sB l) l.length l.length) (partTo (sR l) l.length l.length) wd s k = false := fun e => c ⟨h1, e⟩
        rw [fit_M hs0 (by omega) (by omega)] at this
        simpa using this
  intro r
  have hr : r = if brFit (partTo (sA l) l.length l.length) (partTo (sB l) l.length l.length) (partTo (sR l) l.length l.length) wd u.1 k = false ∨ brMust l k = true then (k, -1, u.2.2 ++ [k]) else (u.1, k, u.2.2) := by
    show brS _ _ _ _ _ _ _ _ _ = _
    unfold brS
    rw [hu]
  have u0 := hw.s0
  have u1 := hw.s1
  rw [fit_M u0 (by omega) (by omega)] at hr
  by_cases c : decide (brM l u.1 k ≤ wd) = false ∨ brMust l k = true
  · rw [if_pos c] at hr
    rw [hr]
    dsimp only
    have hn : Nx l wd u.1 k := by
      refine ⟨u1, by omega, hC, hw.f, ?_, ?_⟩
      · rcases hq with q | q
        · exact .inr q
        · exact .inl q
      · by_cases m : brMust l k = true
        · exact .inl ⟨by omega, hk, m⟩
        · rcases c with c | c
          · right
            intro j a b _
            have := brM_mono hok (s := u.1) (k := k) (j := j) u0 (by omega) (by omega) b
            have c' : ¬ brM l u.1 k ≤ wd := by simpa using c
            omega
          · exact absurd c m
    refine ⟨by omega, by omega, fun T hT => ?_, fun j a b => by omega, .inl ⟨rfl, fun j a b => by omega⟩⟩
    have := hw.o (k :: T) (.more u.1 k T hn hk hT)
    simpa using this
  · rw [if_neg c] at hr
    rw [hr]
    dsimp only
    have c1 : brM l u.1 k ≤ wd := by
      apply Decidable.byContradiction
      intro e
      exact c (.inl (decide_eq_false e))
    have c2 : ¬ brF l k := fun hf => c (.inr hf.2.2)
    refine ⟨u0, by omega, hw.o, fun j a b hf => ?_, .inr ⟨u1, by omega, hC, c1, fun j a b => by omega⟩⟩
    by_cases e : j = k
    · subst e; exact c2 hf
    · exact hw.f j a (by omega) hf
theorem way_run {l : List S36} (hok : l.any brBad = false) (wd : Int) : ∀ d : Nat, (d : Int) + 1 ≤ l.length → Way l wd ((d : Int) + 1) (brRun l wd (brTo l ((d : Int) + 1))).1 (brRun l wd (brTo l ((d : Int) + 1))).2.1 (brRun l wd (brTo l ((d : Int) + 1))).2.2 := by
  intro d
  induction d with
  | zero =>
    intro _
    rw [show ((0 : Nat) : Int) + 1 = 1 from rfl, brTo_one]
    exact ⟨by simp [brRun], by simp [brRun], fun T hT => ⟨T, rfl, hT⟩, fun j a b => by simp [brRun] at a; omega, .inl ⟨rfl, fun j a b => by simp [brRun] at a; omega⟩⟩
  | succ d ih =>
    intro hd
    have h := ih (by omega)
    have e : ((d + 1 : Nat) : Int) = (d : Int) + 1 := by omega
    rw [e, brTo_succ l ((d : Int) + 1) (by omega) (by omega)]
    by_cases c : (brMay l ((d : Int) + 1) || brMust l ((d : Int) + 1)) = true
    · rw [if_pos c, brRun_snoc]
      exact h.step hok (by omega) c
    · rw [if_neg c, List.append_nil]
      refine h.none ?_
      rintro (q | q)
      · omega
      · exact c q.2.2
/-- The program's lines. -/
theorem lines_chain {l : List S36} (hok : l.any brBad = false) (wd : Int) : ∃ L, brLines l wd = 0 :: L ∧ Chain l wd 0 L := by
  by_cases h0 : l.length = 0
  · have hb : brTo l l.length = [] := by rw [h0]; simp [brTo]
    refine ⟨[], ?_, .past 0 (by omega)⟩
    unfold brLines
    rw [hb]
    rfl
  have h := way_run hok wd (l.length - 1) (by omega)
  rw [show ((l.length - 1 : Nat) : Int) + 1 = l.length by omega] at h
  unfold brLines
  generalize (brRun l wd (brTo l l.length)) = st at h
  have hs0 := h.s0
  have hs1 := h.s1
  dsimp only
  rw [fit_M hs0 (by omega) (by omega)]
  by_cases c : st.1 < st.2.1 ∧ decide (brM l st.1 l.length ≤ wd) = false
  · rw [if_pos c]
    have hn := h.close hok (Int.le_refl _) c.1 (by simpa using c.2)
    rcases h.c with ⟨h1, h2⟩ | ⟨h1, h2, h3, h4, h5⟩
    · have := c.1; omega
    · refine h.o [st.2.1] (.more _ _ _ hn h2 (.last _ ⟨h2, Int.le_refl _, .inl rfl, fun j a b hf => h5 j a b (brF_C hf), .inr h5, .inr fun j a b => by omega⟩))
  · rw [if_neg c]
    have hn : Nx l wd st.1 l.length := by
      refine ⟨hs1, Int.le_refl _, .inl rfl, h.f, ?_, .inr fun j a b => by omega⟩
      rcases h.c with ⟨h1, h2⟩ | ⟨h1, h2, h3, h4, h5⟩
      · exact .inr h2
      · left
        apply Decidable.byContradiction
        intro e
        exact c ⟨h1, decide_eq_false e⟩
    simpa using h.o [] (.last _ hn)
end Go.Proofs.Ythckihfkhmoafaa.A
