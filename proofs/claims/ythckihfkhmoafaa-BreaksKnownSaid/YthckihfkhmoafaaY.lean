import Derived.Test.YthckihfkhmoafaaV
import Derived.Test.YthckihfkhmoafaaX10
/-! The law BreaksFit, for any items. -/
namespace Go.Proofs.Ythckihfkhmoafaa.A
open Go.RowKit Go.Proofs.Ythckihfkhmoafaa.X Go.Proofs.YthckihfkhmoafaaW.PrintWords Go.Proofs.YthckihfkhmoafaaW.PrintLast Go.Proofs.YthckihfkhmoafaaW.PrintMore Go.Proofs.Ythckihfkhmoafaa
set_option linter.unusedVariables false
set_option linter.unusedSimpArgs false

theorem mTo_pos {l : List S36} (h : l.any brBad = false) (a : Nat) : ∀ (m : Nat) (e : Bool), a + m ≤ l.length → 0 ≤ mTo l a m e := by
  intro m
  induction m with
  | zero => intro e _; simp [mTo]
  | succ m ih =>
    intro e hm
    have h1 := ih (e && mHang (rd_T36 l ((a + m : Nat) : Int))) (by omega)
    have h2 := ok_item h (a + m) (by omega)
    rw [mTo]
    split <;> omega
theorem mTo_front {l : List S36} (h : l.any brBad = false) (a d : Nat) : ∀ (m : Nat) (e : Bool), a + d + m ≤ l.length → mTo l (a + d) m e ≤ mTo l a (d + m) e := by
  intro m
  induction m with
  | zero => intro e hm; simp only [mTo]; exact mTo_pos h a _ e (by omega)
  | succ m ih =>
    intro e hm
    have h1 := ih (e && mHang (rd_T36 l ((a + d + m : Nat) : Int))) (by omega)
    rw [mTo, show d + (m + 1) = (d + m) + 1 by omega, mTo, show a + (d + m) = a + d + m by omega]
    omega
theorem brM_front {l : List S36} (h : l.any brBad = false) {s t k : Int} (h0 : 0 ≤ s) (h1 : s ≤ t) (h2 : t ≤ k) (h3 : k ≤ l.length) : brM l t k ≤ brM l s k := by
  unfold brM
  have := mTo_front h s.toNat (t.toNat - s.toNat) (k.toNat - t.toNat) true (by omega)
  rwa [show s.toNat + (t.toNat - s.toNat) = t.toNat by omega, show t.toNat - s.toNat + (k.toNat - t.toNat) = k.toNat - s.toNat by omega] at this
theorem Nx.later {l : List S36} (hok : l.any brBad = false) {wd wd' s s' n n' : Int} (h : Nx l wd s n) (h' : Nx l wd' s' n') (h0 : 0 ≤ s) (hs : s ≤ s') (hw : wd ≤ wd') : n ≤ n' := by
  apply Decidable.byContradiction
  intro hlt
  have a := h'.lo
  rcases h.fit with f | f
  · rcases h'.far with g | g
    · exact h.free n' (by omega) (by omega) g
    · have := g n (by omega) h.hi h.c
      have := brM_front hok (s := s) (t := s') (k := n) h0 hs (by omega) h.hi
      omega
  · exact f n' (by omega) (by omega) h'.c
theorem Chain.fewer {l : List S36} (hok : l.any brBad = false) {wd wd' s' : Int} (hw : wd ≤ wd') {L' : List Int} (h' : Chain l wd' s' L') : ∀ {s : Int} {L : List Int}, Chain l wd s L → 0 ≤ s → s ≤ s' → L'.length ≤ L.length := by
  induction h' with
  | past s' _ => intro s L _ _ _; simp
  | last s' _ => intro s L _ _ _; simp
  | more s' n' K' q' h1 _ ih =>
    intro s L h h0 hs
    have a := q'.lo
    cases h with
    | past _ hp => omega
    | last _ q =>
      have := q.later hok q' h0 hs hw
      omega
    | more _ n K q h2 hc =>
      have hn := q.later hok q' h0 hs hw
      have b := q.lo
      have := ih hc (by omega) hn
      simp only [List.length_cons]
      omega
/-- Where the line behind r ends. -/
def endOf (l : List S36) : List Int → Int
  | [] => l.length
  | n :: _ => n
theorem chain_end {l : List S36} {wd r : Int} {K : List Int} (h : Chain l wd r K) (h1 : r ≤ l.length) : r ≤ endOf l K ∧ endOf l K ≤ l.length ∧ (r < l.length → Nx l wd r (endOf l K)) ∧ (K ≠ [] → r < l.length) := by
  cases h with
  | past _ hp => exact ⟨h1, Int.le_refl _, fun h => by omega, fun h => absurd rfl h⟩
  | last _ q => exact ⟨h1, Int.le_refl _, fun _ => q, fun h => absurd rfl h⟩
  | more _ n L q h2 _ =>
    have := q.lo
    exact ⟨by simp only [endOf]; omega, by simp only [endOf]; omega, fun _ => q, fun _ => by omega⟩
theorem meV_ok {l : List S36} (hok : l.any brBad = false) (hl : l.length ≤ 65536) {a b : Int} (h0 : 0 ≤ a) (h1 : a ≤ b) (h2 : b ≤ l.length) : meV l a b = (brM l a b, 0) := by
  unfold meV brM mayV
  rw [if_neg (c := (l.length : Int) > 65536) (by omega), if_neg (c := l.any brBad = true) (by rw [hok]; decide), if_neg (by decide), if_neg (by omega)]
theorem places_C {l : List S36} {k : Int} (h : k ∈ brPlaces l) : brC l k := .inr (brPlaces_mem h)
theorem rd_mem_of {p : List Int} {i : Int} (h0 : 0 ≤ i) (h1 : i < p.length) : rd p i ∈ p := E.rd_mem h0 h1
theorem breaksFit (l : List S36) (wd more : Int) (hm1 : more ≤ 9223372036854775807) : Ev (fun k => selvedgelaw21_BreaksFit.f k l wd more) true := by
  unfold selvedgelaw21_BreaksFit.f
  have off : ∀ c, c = true → Ev (fun k => selvedgelaw21_BreaksFit.j0 k l wd more c) true := by
    intro c hc
    subst hc
    refine E.succ ?_
    simp only [selvedgelaw21_BreaksFit.j0]
    exact E.pos (by simp) (E.bnd works_ev (E.ret rfl))
  by_cases hl : (l.length : Int) > 200
  · exact E.pos hl (off _ rfl)
  refine E.neg hl ?_
  by_cases hm : more < 0
  · exact off _ (decide_eq_true hm)
  rw [decide_eq_false hm]
  refine E.succ ?_
  simp only [selvedgelaw21_BreaksFit.j0]
  refine E.neg (by decide) (E.bno (progLines (by omega) wd) (E.bno (progPlaces (by omega)) ?_))
  have refused : ∀ (c : Bool) (p : List Int), c = true → Ev (fun k => selvedgelaw21_BreaksFit.j1 k l wd more [] p c) true := by
    intro c p hc
    subst hc
    refine E.succ ?_
    simp only [selvedgelaw21_BreaksFit.j1]
    exact E.pos (by simp) (E.pos (by simp) (E.bnd works_ev (E.ret rfl)))
  unfold liV
  rw [if_neg (by omega)]
  by_cases hb : l.any brBad = true
  · rw [if_pos hb]
    exact E.neg (by decide) (refused true _ rfl)
  rw [if_neg hb]
  by_cases hw : wd < 1 ∨ 16777216 < wd
  · rw [if_pos hw]
    exact E.neg (by decide) (refused true _ rfl)
  rw [if_neg hw]
  have hok : l.any brBad = false := Bool.eq_false_iff.mpr hb
  have hpl : plV l = (brPlaces l, 0) := by
    unfold plV
    rw [if_neg (by omega), if_neg hb]
  rw [hpl]
  obtain ⟨L, hL, hc⟩ := lines_chain hok wd
  dsimp only
  rw [hL]
  have hlenL : (L.length : Int) ≤ 200 := by
    rcases hc.len with h | h
    · omega
    · rw [h]; simp
  have hplen := brPlaces_len l
  have hmem : ∀ k ∈ brPlaces l, 1 ≤ k ∧ k < l.length ∧ (brMay l k || brMust l k) = true := fun k h => brPlaces_mem h
  generalize brPlaces l = p at hplen hmem
  refine E.pos (by simp) (E.succ ?_)
  simp only [selvedgelaw21_BreaksFit.j1]
  have e0 : (((0 : Int) :: L).length : Int) = (L.length : Int) + 1 := by simp
  refine E.neg (by simp) (E.neg (by omega) (E.pos (by omega) (E.succ ?_)))
  simp only [selvedgelaw21_BreaksFit.j2]
  refine E.neg (by rw [E.rd_cons_zero]; decide) ?_
  have loop : ∀ (d i : Nat), i + d = ((0 : Int) :: L).length → Ev (fun k => selvedgelaw21_BreaksFit.l0 k l wd more ((0 : Int) :: L) p i) true := by
    intro d
    induction d with
    | zero =>
      intro i hi
      refine E.succ ?_
      simp only [selvedgelaw21_BreaksFit.l0]
      rw [E.w64 (x := 16777216 - more) (by omega) (by omega)]
      refine E.neg (by omega) ?_
      by_cases q : wd > 16777216 - more
      · exact E.pos q (E.bnd works_ev (E.ret rfl))
      refine E.neg q ?_
      rw [E.w64 (x := wd + more) (by omega) (by omega)]
      refine E.bno (progLines (by omega) _) ?_
      unfold liV
      rw [if_neg (by omega), if_neg hb, if_neg (by omega)]
      obtain ⟨L2, hL2, hc2⟩ := lines_chain hok (wd + more)
      rw [hL2]
      have := hc2.fewer hok (wd := wd) (by omega) hc (Int.le_refl _) (Int.le_refl _)
      exact E.pos (by simp) (E.pos (by simp; omega) (E.bnd works_ev (E.ret rfl)))
    | succ d ih =>
      intro i hi
      have H := ih (i + 1) (by omega)
      rw [show ((i + 1 : Nat) : Int) = (i : Int) + 1 by omega] at H
      obtain ⟨r, K, hd, hK, hr0, hr1⟩ := hc.at i (Int.le_refl _) (by omega) (by omega)
      have hget : ∀ j : Nat, ((0 : Int) :: L)[i + j]? = (r :: K)[j]? := fun j => by rw [← hd, List.getElem?_drop]
      have hri : rd ((0 : Int) :: L) i = r := by
        rw [E.rd_nat, List.getD_eq_getElem?_getD, show i = i + 0 by omega, hget]; rfl
      have hlk : (r :: K).length = ((0 : Int) :: L).length - i := by rw [← hd, List.length_drop]
      obtain ⟨g0, g1, g2, g3⟩ := chain_end hK hr1
      -- lines rise
      have rise : 0 < i → rd ((0 : Int) :: L) ((i : Int) - 1) < r := by
        intro hip
        obtain ⟨r', K', hd', hK', hr0', hr1'⟩ := hc.at (i - 1) (Int.le_refl _) (by omega) (by omega)
        have hget' : ∀ j : Nat, ((0 : Int) :: L)[i - 1 + j]? = (r' :: K')[j]? := fun j => by rw [← hd', List.getElem?_drop]
        have e1 : rd ((0 : Int) :: L) ((i : Int) - 1) = r' := by
          rw [show (i : Int) - 1 = ((i - 1 : Nat) : Int) by omega, E.rd_nat, List.getD_eq_getElem?_getD, show i - 1 = i - 1 + 0 by omega, hget']; rfl
        have e2 : K'[0]? = some r := by
          have := hget' 1
          rw [show i - 1 + 1 = i + 0 by omega, hget] at this
          simpa using this.symm
        rw [e1]
        cases hK' with
        | past _ _ => simp at e2
        | last _ _ => simp at e2
        | more _ n M q _ _ =>
          have := q.lo
          simp at e2
          omega
      have at4 : ∀ tq, tq = endOf l K → Ev (fun k => selvedgelaw21_BreaksFit.j4 k l wd more ((0 : Int) :: L) p i tq) true := by
        intro tq hto
        refine E.succ ?_
        simp only [selvedgelaw21_BreaksFit.j4]
        rw [hri, E.w64 (x := (p.length : Int) - 1) (by omega) (by omega)]
        refine E.pos (by omega) (E.pos (by omega) (E.bnd (progMeasure l r tq (by omega)) ?_))
        rw [meV_ok hok (by omega) hr0 (by omega) (by omega)]
        -- behind the inner loop
        have fin : ∀ (within : Bool) (next : Int), (within = true → ∃ j ∈ p, r < j ∧ j < tq) → (next = l.length ∨ (next ∈ p ∧ tq < next)) → Ev (fun k => selvedgelaw21_BreaksFit.l1 k l wd more ((0 : Int) :: L) p i tq (brM l r tq) 0 within next (-1)) true := by
          intro within next hwi hne
          have tail : Ev (fun k => selvedgelaw21_BreaksFit.j6 k l wd more ((0 : Int) :: L) p i tq next false) true := by
            refine E.succ ?_
            simp only [selvedgelaw21_BreaksFit.j6]
            refine E.neg (by decide) ?_
            have on : Ev (fun k => selvedgelaw21_BreaksFit.j7 k l wd more ((0 : Int) :: L) p i next false) true := by
              refine E.succ ?_
              simp only [selvedgelaw21_BreaksFit.j7]
              rw [E.w64 (x := (i : Int) + 1) (by omega) (by omega)]
              exact E.neg (by decide) H
            by_cases q : tq < l.length
            · have hN : Nx l wd r tq := by rw [hto]; exact g2 (by omega)
              have hlo := hN.lo
              refine E.pos q ?_
              rw [E.w64 (x := tq - 1) (by omega) (by omega)]
              refine E.pos (by omega) (E.pos (by omega) ?_)
              by_cases q2 : (rd_T36 l (tq - 1)).f0 = 8232
              · rw [show ((rd_T36 l (tq - 1)).f0 != 8232) = false from bne_eq_false_iff_eq.mpr q2]
                exact on
              · rw [show ((rd_T36 l (tq - 1)).f0 != 8232) = true from bne_iff_ne.mpr q2]
                refine E.succ ?_
                simp only [selvedgelaw21_BreaksFit.j7]
                have hnx : brC l next ∧ tq < next ∧ next ≤ l.length := by
                  rcases hne with e | ⟨e, e2⟩
                  · exact ⟨.inl e, by omega, by omega⟩
                  · have := hmem _ e
                    exact ⟨.inr this, e2, by omega⟩
                have hfar : wd < brM l r next := by
                  rcases hN.far with z | z
                  · exact absurd (beq_iff_eq.mp z.2.2) q2
                  · exact z next hnx.2.1 hnx.2.2 hnx.1
                rw [hri, E.w64 (x := (i : Int) + 1) (by omega) (by omega)]
                refine E.pos (by simp) (E.pos (by omega) (E.pos (by omega) (E.bnd (progMeasure l r next (by omega)) ?_)))
                rw [meV_ok hok (by omega) hr0 (by omega) hnx.2.2]
                exact E.pos (by simp) (E.neg (by dsimp only; omega) H)
            · exact E.neg q on
          have six : ∀ c, c = decide (r ≤ rd ((0 : Int) :: L) ((i : Int) - 1)) → 0 < i → c = false := by
            intro c hc hi
            have := rise hi
            rw [hc]
            exact decide_eq_false (by omega)
          have rest : Ev (fun k => if (i : Int) > 0 then (if 0 ≤ (i : Int) then (if (i : Int) < (((0 : Int) :: L).length : Int) then (if 0 ≤ (i : Int) - 1 then (if (i : Int) - 1 < (((0 : Int) :: L).length : Int) then (selvedgelaw21_BreaksFit.j6 k l wd more ((0 : Int) :: L) p i tq next (decide (r ≤ rd ((0 : Int) :: L) ((i : Int) - 1)))) else none) else none) else none) else none) else selvedgelaw21_BreaksFit.j6 k l wd more ((0 : Int) :: L) p i tq next false) true := by
            by_cases q : (i : Int) > 0
            · refine E.pos q (E.pos (by omega) (E.pos (by omega) (E.pos (by omega) (E.pos (by omega) ?_))))
              rw [six _ rfl (by omega)]
              exact tail
            · exact E.neg q tail
          refine E.succ ?_
          simp only [selvedgelaw21_BreaksFit.l1]
          rw [hri, E.w64 (x := (i : Int) - 1) (by omega) (by omega)]
          refine E.neg (by decide) (E.pos (by simp) ?_)
          by_cases q : brM l r tq > wd
          · refine E.pos q ?_
            have hwf : within = false := by
              cases hwt : within with
              | false => rfl
              | true =>
                obtain ⟨j, j1, j2, j3⟩ := hwi hwt
                have hN : Nx l wd r tq := by rw [hto]; exact g2 (by omega)
                rcases hN.fit with z | z
                · omega
                · exact absurd (.inr (hmem j j1)) (z j j2 j3)
            exact E.neg (by rw [hwf]; decide) rest
          · exact E.neg q rest
        have inner : ∀ (m : Nat) (within : Bool) (next : Int), m ≤ p.length → (within = true → ∃ j ∈ p, r < j ∧ j < tq) → (next = l.length ∨ (next ∈ p ∧ tq < next)) → Ev (fun k => selvedgelaw21_BreaksFit.l1 k l wd more ((0 : Int) :: L) p i tq (brM l r tq) 0 within next ((m : Int) - 1)) true := by
          intro m
          induction m with
          | zero => intro within next _ h1 h2; exact fin within next h1 h2
          | succ m ihm =>
            intro within next hm h1 h2
            have hx := rd_mem_of (p := p) (i := (m : Int)) (by omega) (by omega)
            have e1 : ((m + 1 : Nat) : Int) - 1 = (m : Int) := by omega
            rw [e1]
            have nx : ∀ c : Bool, (c = true → ∃ j ∈ p, r < j ∧ j < tq) → Ev (fun k => if rd p m > tq then (selvedgelaw21_BreaksFit.l1 k l wd more ((0 : Int) :: L) p i tq (brM l r tq) 0 c (rd p m) ((m : Int) - 1)) else (selvedgelaw21_BreaksFit.l1 k l wd more ((0 : Int) :: L) p i tq (brM l r tq) 0 c next ((m : Int) - 1))) true := by
              intro c hc
              by_cases q : rd p m > tq
              · exact E.pos q (ihm c (rd p m) (by omega) hc (.inr ⟨hx, q⟩))
              · exact E.neg q (ihm c next (by omega) hc h2)
            refine E.succ ?_
            simp only [selvedgelaw21_BreaksFit.l1]
            rw [hri, E.w64 (x := (m : Int) - 1) (by omega) (by omega)]
            refine E.pos (by omega) ?_
            cases within with
            | true => exact E.pos (by simp) (E.pos (by omega) (E.pos (by omega) (nx true h1)))
            | false =>
              refine E.neg (by decide) (E.pos (by omega) (E.pos (by omega) (E.pos (by omega) (E.pos (by omega) ?_))))
              by_cases q : rd p m > r
              · exact E.pos q (nx _ (fun h => ⟨_, hx, q, of_decide_eq_true h⟩))
              · exact E.neg q (nx false (fun h => by cases h))
        exact inner p.length false l.length (Nat.le_refl _) (fun h => by cases h) (.inl rfl)
      refine E.succ ?_
      simp only [selvedgelaw21_BreaksFit.l0]
      rw [E.w64 (x := (i : Int) + 1) (by omega) (by omega)]
      refine E.pos (by omega) ?_
      by_cases q : (i : Int) + 1 < (((0 : Int) :: L).length : Int)
      · refine E.pos q (E.pos (by omega) (at4 _ ?_))
        cases K with
        | nil => simp only [List.length_cons, List.length_nil] at hlk; simp only [List.length_cons] at q; omega
        | cons n M =>
          have := hget 1
          rw [show (i : Int) + 1 = ((i + 1 : Nat) : Int) by omega, E.rd_nat, List.getD_eq_getElem?_getD, this]
          rfl
      · refine E.neg q (at4 _ ?_)
        cases K with
        | nil => rfl
        | cons n M => simp only [List.length_cons] at hlk; simp only [List.length_cons] at q; omega
  exact loop ((0 : Int) :: L).length 0 (by omega)
theorem i64_hi {x : Int} (h : (Lit.int .i64 x).wf = true) : x ≤ 9223372036854775807 := by
  simp [Lit.wf, IntKind.min, IntKind.max, IntKind.signed, IntKind.bits] at h
  omega
end Go.Proofs.Ythckihfkhmoafaa.A
