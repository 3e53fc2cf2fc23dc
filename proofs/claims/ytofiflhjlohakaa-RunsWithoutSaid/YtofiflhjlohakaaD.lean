import Derived.Test.YtofiflhjlohakaaC
/-! Removed classes put in: the sequences are the same places. -/
namespace Go.Proofs.Ytofiflhjlohakaa.X
open Go.RowKit Go.Proofs.YtofiflhjlohakaaW.PrintWords Go.Proofs.YtofiflhjlohakaaW.PrintLast Go.Proofs.YtofiflhjlohakaaW.PrintMore
set_option linter.unusedVariables false
set_option linter.unusedSimpArgs false
theorem rd_snoc_lt (a : List Int) (x : Int) (j : Nat) (h : j < a.length) : rd (a ++ [x]) (j : Int) = rd a j := E.rd_append_left (by omega) (by omega)
theorem rd_snoc_at (a : List Int) (x : Int) : rd (a ++ [x]) (a.length : Int) = x := E.rd_mid a [] x
theorem rd_set_at (a : List Int) (j : Nat) (v : Int) (h : j < a.length) : rd (a.set j v) (j : Int) = v := by simp [rd, h]
theorem rd_set_ne (a : List Int) (j k : Nat) (v : Int) (h : k ≠ j) : rd (a.set j v) (k : Int) = rd a k := by
  simp [rd, List.getD_eq_getElem?_getD, List.getElem?_set]
  rw [if_neg (fun e => h e.symm)]
theorem drop_rd (l : List Int) (j : Nat) (h : j < l.length) : l.drop j = rd l j :: l.drop (j + 1) := by
  rw [List.drop_eq_getElem_cons h, E.rd_get h]
/-- How many of the first are none of those put in. -/
def cntI (old : List Int) : Nat → Nat
  | 0 => 0
  | j + 1 => if rd old j = -1 then cntI old j else cntI old j + 1
theorem cntI_snoc (old : List Int) (x : Int) : ∀ j, j ≤ old.length → cntI (old ++ [x]) j = cntI old j := by
  intro j
  induction j with
  | zero => intro _; rfl
  | succ j ih =>
    intro h
    show (if rd (old ++ [x]) j = -1 then cntI (old ++ [x]) j else cntI (old ++ [x]) j + 1) = _
    rw [rd_snoc_lt _ _ _ (by omega), ih (by omega)]
    rfl
theorem cntI_mono (old : List Int) : ∀ a b, a ≤ b → cntI old a ≤ cntI old b := by
  intro a b
  induction b with
  | zero => intro h; rw [Nat.le_zero.mp h]; exact Nat.le_refl _
  | succ b ih =>
    intro h
    rcases Nat.lt_or_ge b a with q | q
    · rw [show a = b + 1 by omega]; exact Nat.le_refl _
    · have := ih q
      show _ ≤ if rd old b = -1 then cntI old b else cntI old b + 1
      split <;> omega
/-- The first m classes of l, with some put in. -/
structure Emb (l lev c nn old : List Int) (m : Nat) : Prop where
  hc : c.length = old.length
  hn : nn.length = old.length
  iN : cntI old old.length = m
  st : ∀ j, j < old.length → (rd old j = -1 ∧ remC (rd c j) = true) ∨ (rd old j = (cntI old j : Int) ∧ cntI old j < m ∧ rd c j = rd l (cntI old j) ∧ rd nn j = rd lev (cntI old j))
theorem Emb.nil (l lev : List Int) : Emb l lev [] [] [] 0 := ⟨rfl, rfl, rfl, fun j h => absurd h (Nat.not_lt_zero j)⟩
theorem Emb.ins {l lev c nn old : List Int} {m : Nat} (h : Emb l lev c nn old m) (r v : Int) (hr : remC r = true) : Emb l lev (c ++ [r]) (nn ++ [v]) (old ++ [-1]) m := by
  have hN : cntI (old ++ [-1]) (old.length + 1) = m := by
    show (if rd (old ++ [-1]) old.length = -1 then cntI (old ++ [-1]) old.length else cntI (old ++ [-1]) old.length + 1) = _
    rw [rd_snoc_at, if_pos rfl, cntI_snoc _ _ _ (Nat.le_refl _)]
    exact h.iN
  refine ⟨by simp [h.hc], by simp [h.hn], by rw [List.length_append]; exact hN, fun j hj => ?_⟩
  simp at hj
  rcases Nat.lt_or_ge j old.length with q | q
  · rw [rd_snoc_lt _ _ _ q, rd_snoc_lt c _ _ (by rw [h.hc]; exact q), rd_snoc_lt nn _ _ (by rw [h.hn]; exact q), cntI_snoc _ _ _ (by omega)]
    exact h.st j q
  · have : j = old.length := by omega
    subst this
    refine .inl ⟨rd_snoc_at _ _, ?_⟩
    rw [← h.hc, rd_snoc_at]
    exact hr
theorem Emb.put {l lev c nn old : List Int} {m : Nat} (h : Emb l lev c nn old m) : Emb l lev (c ++ [rd l m]) (nn ++ [rd lev m]) (old ++ [(m : Int)]) (m + 1) := by
  have hN : cntI (old ++ [(m : Int)]) (old.length + 1) = m + 1 := by
    show (if rd (old ++ [(m : Int)]) old.length = -1 then cntI (old ++ [(m : Int)]) old.length else cntI (old ++ [(m : Int)]) old.length + 1) = _
    rw [rd_snoc_at, if_neg (by omega), cntI_snoc _ _ _ (Nat.le_refl _), h.iN]
  refine ⟨by simp [h.hc], by simp [h.hn], by rw [List.length_append]; exact hN, fun j hj => ?_⟩
  simp at hj
  rcases Nat.lt_or_ge j old.length with q | q
  · rw [rd_snoc_lt _ _ _ q, rd_snoc_lt c _ _ (by rw [h.hc]; exact q), rd_snoc_lt nn _ _ (by rw [h.hn]; exact q), cntI_snoc _ _ _ (by omega)]
    rcases h.st j q with h1 | ⟨h1, h2, h3, h4⟩
    · exact .inl h1
    · exact .inr ⟨h1, by omega, h3, h4⟩
  · have : j = old.length := by omega
    subst this
    rw [cntI_snoc _ _ _ (Nat.le_refl _), h.iN]
    refine .inr ⟨rd_snoc_at _ _, by omega, ?_, ?_⟩
    · rw [← h.hc, rd_snoc_at]
    · rw [← h.hn, rd_snoc_at]
section
variable {l lev c nn old : List Int} (h : Emb l lev c nn old l.length) (hlv : lev.length = l.length)
include h
theorem Emb.ge {j : Nat} (hj : j < old.length) (h0 : 0 ≤ rd old j) : rd old j = (cntI old j : Int) ∧ cntI old j < l.length ∧ rd c j = rd l (cntI old j) ∧ rd nn j = rd lev (cntI old j) ∧ cntI old (j + 1) = cntI old j + 1 := by
  rcases h.st j hj with ⟨h1, _⟩ | ⟨h1, h2, h3, h4⟩
  · omega
  · exact ⟨h1, h2, h3, h4, if_neg (by omega)⟩
theorem Emb.inj {a b : Nat} (ha : a < old.length) (hb : b < old.length) (h0 : 0 ≤ rd old a) (he : rd old a = rd old b) : a = b := by
  have h1 := h.ge ha h0
  have h2 := h.ge hb (by omega)
  rcases Nat.lt_trichotomy a b with q | q | q
  · have := cntI_mono old (a + 1) b q
    omega
  · exact q
  · have := cntI_mono old (b + 1) a q
    omega
/-- One place in the longer row, and the same in the shorter one. -/
def Rl (old : List Int) (a b : Int) : Prop := (a = -1 ∧ b = -1) ∨ (0 ≤ a ∧ a < old.length ∧ 0 ≤ b ∧ rd old a = b)
theorem Emb.inj2 {a b a' b' : Int} (h1 : Rl old a b) (h2 : Rl old a' b') : a = a' ↔ b = b' := by
  rcases h1 with ⟨r1, r2⟩ | ⟨r1, r2, r3, r4⟩ <;> rcases h2 with ⟨s1, s2⟩ | ⟨s1, s2, s3, s4⟩
  · omega
  · omega
  · omega
  · obtain ⟨n, rfl⟩ := Int.eq_ofNat_of_zero_le r1
    obtain ⟨n', rfl⟩ := Int.eq_ofNat_of_zero_le s1
    constructor
    · intro e; rw [← r4, ← s4, e]
    · intro e
      have := h.inj (a := n) (b := n') (by omega) (by omega) (by omega) (by rw [r4, s4, e])
      rw [this]
/-- The matches so far. -/
def OutR (old : List Int) (J : Nat) (oy ox : List Int) : Prop := ∀ j : Nat, j < J → 0 ≤ rd old j → Rl old (rd oy j) (rd ox (rd old j))
theorem Emb.next {j : Nat} {oy ox : List Int} (hj : j < old.length) (h0 : 0 ≤ rd old j) (ly : oy.length = old.length) (lx : ox.length = l.length) (ho : OutR old j oy ox) {u v : Int} (hu : Rl old u v) :
    OutR old (j + 1) (oy.set j u) (ox.set (cntI old j) v) := by
  intro k hk hk0
  have hg := h.ge hj h0
  have hg2 := h.ge (by omega) hk0
  rcases Nat.lt_or_ge k j with q | q
  · have hne : cntI old k ≠ cntI old j := fun e => by
      have := h.inj (a := k) (b := j) (by omega) hj hk0 (by rw [hg.1, hg2.1, e])
      omega
    have := ho k q hk0
    rw [rd_set_ne _ _ _ _ (by omega)]
    rw [hg2.1] at this ⊢
    rw [rd_set_ne _ _ _ _ hne]
    exact this
  · have : k = j := by omega
    subst this
    rw [hg.1, rd_set_at _ _ _ (by omega), rd_set_at _ _ _ (by omega)]
    exact hu
theorem Emb.over {J : Nat} {oy ox : List Int} (hJ : J ≤ old.length) (ly : oy.length = old.length) (lx : ox.length = l.length) (ho : OutR old J oy ox) {a b u v : Int} (hab : Rl old a b) (hb : 0 ≤ b) (hu : Rl old u v) : OutR old J (oy.set a.toNat u) (ox.set b.toNat v) := by
  intro k hk hk0
  rcases hab with ⟨r1, r2⟩ | ⟨r1, r2, r3, r4⟩
  · omega
  obtain ⟨n, rfl⟩ := Int.eq_ofNat_of_zero_le r1
  have hg := h.ge (j := n) (by omega) (by omega)
  have hg2 := h.ge (by omega) hk0
  rw [← r4, hg.1, hg2.1, Int.toNat_natCast, Int.toNat_natCast]
  by_cases e : k = n
  · subst e
    rw [rd_set_at _ _ _ (by omega), rd_set_at _ _ _ (by omega)]
    exact hu
  · have hne : cntI old k ≠ cntI old n := fun e2 => e (h.inj (by omega) (by omega) hk0 (by rw [hg.1, hg2.1, e2]))
    rw [rd_set_ne _ _ _ _ e, rd_set_ne _ _ _ _ hne]
    have := ho k hk hk0
    rw [hg2.1] at this
    exact this
/-- The open ones. -/
def OpR (old : List Int) (j : Nat) (oy ox : List Int) : Prop := oy.length = ox.length ∧ ∀ k : Nat, k < ox.length → Rl old (rd oy k) (rd ox k) ∧ 0 ≤ rd ox k
omit h in
theorem OpR.snoc {old : List Int} {j : Nat} {oy ox : List Int} (ho : OpR old j oy ox) {a b : Int} (hab : Rl old a b) (hb : 0 ≤ b) : OpR old (j + 1) (oy ++ [a]) (ox ++ [b]) := by
  refine ⟨by simp [ho.1], fun k hk => ?_⟩
  simp at hk
  rcases Nat.lt_or_ge k ox.length with q | q
  · rw [rd_snoc_lt _ _ _ q, rd_snoc_lt _ _ _ (by rw [ho.1]; exact q)]
    exact ho.2 k q
  · have : k = ox.length := by omega
    subst this
    rw [rd_snoc_at, ← ho.1, rd_snoc_at]
    exact ⟨hab, hb⟩
omit h in
theorem OpR.take {old : List Int} {j : Nat} {oy ox : List Int} (ho : OpR old j oy ox) (n : Nat) : OpR old (j + 1) (oy.take n) (ox.take n) := by
  refine ⟨by simp [ho.1], fun k hk => ?_⟩
  rw [List.length_take] at hk
  have hk1 : k < n := by omega
  have hk2 : k < ox.length := by omega
  have e : ∀ a : List Int, k < a.length → rd (a.take n) (k : Int) = rd a k := fun a ha => by simp [rd, List.getElem?_take, hk1]
  rw [e _ hk2, e _ (by rw [ho.1]; exact hk2)]
  exact ho.2 k hk2
theorem Emb.mt : ∀ (t j : Nat) (opy opx oy ox : List Int), j + t = old.length → OpR old j opy opx → oy.length = old.length → ox.length = l.length → OutR old j oy ox →
    OutR old old.length (mtF (c.drop j) j opy oy) (mtF (l.drop (cntI old j)) (cntI old j) opx ox) := by
  intro t
  induction t with
  | zero =>
    intro j opy opx oy ox hj hop ly lx ho
    have hj : j = old.length := by omega
    subst hj
    rw [List.drop_of_length_le (by rw [h.hc]; exact Nat.le_refl _), h.iN, List.drop_of_length_le (Nat.le_refl _)]
    exact ho
  | succ t ih =>
    intro j opy opx oy ox hj hop ly lx ho
    have hc := h.hc
    have w : (j : Int) + 1 = ((j + 1 : Nat) : Int) := by omega
    rw [drop_rd c j (by omega)]
    rcases h.st j (by omega) with ⟨h1, h2⟩ | ⟨h1, h2, h3, h4⟩
    · have hcn : cntI old (j + 1) = cntI old j := if_pos h1
      have hr : rd c (j : Int) = 10 ∨ 15 ≤ rd c (j : Int) ∧ rd c (j : Int) ≤ 19 := by
        simp [remC] at h2
        omega
      have e1 : mtF (rd c j :: c.drop (j + 1)) j opy oy = mtF (c.drop (j + 1)) ((j + 1 : Nat) : Int) opy (oy.set j (-1)) := by
        rw [← w]
        exact (if_neg (by omega)).trans ((if_neg (by omega)).trans (if_neg (by omega)))
      rw [e1, ← hcn]
      refine ih (j + 1) opy opx _ ox (by omega) ⟨hop.1, hop.2⟩ (by simpa using ly) lx (fun k hk hk0 => ?_)
      have hkj : k ≠ j := fun e => by rw [e] at hk0; omega
      rw [rd_set_ne _ _ _ _ hkj]
      exact ho k (by omega) hk0
    · have hcn : cntI old (j + 1) = cntI old j + 1 := if_neg (by omega)
      have w2 : (cntI old j : Int) + 1 = ((cntI old j + 1 : Nat) : Int) := by omega
      have hjj : Rl old (j : Int) (cntI old j : Int) := .inr ⟨by omega, by omega, by omega, h1⟩
      rw [drop_rd l (cntI old j) h2, ← h3]
      have hm1 : Rl old (-1) (-1) := .inl ⟨rfl, rfl⟩
      have ho1 := h.next (by omega) (by omega) ly lx ho hm1
      unfold mtF
      rw [Int.toNat_natCast, Int.toNat_natCast, w, w2, ← hcn]
      by_cases q1 : 20 ≤ rd c (j : Int) ∧ rd c (j : Int) ≤ 22
      · rw [if_pos q1, if_pos q1]
        exact ih (j + 1) _ _ _ _ (by omega) (hop.snoc hjj (by omega)) (by simpa using ly) (by simpa using lx) ho1
      · rw [if_neg q1, if_neg q1]
        by_cases q2 : rd c (j : Int) = 11
        · rw [if_pos q2, if_pos q2]
          exact ih (j + 1) _ _ _ _ (by omega) ⟨rfl, fun k hk => absurd hk (Nat.not_lt_zero k)⟩ (by simpa using ly) (by simpa using lx) ho1
        · rw [if_neg q2, if_neg q2]
          by_cases q3 : rd c (j : Int) = 23 ∧ 0 < opx.length
          · have q4 : rd c (j : Int) = 23 ∧ 0 < opy.length := by rw [hop.1]; exact q3
            rw [if_pos q3, if_pos q4]
            have hla := hop.2 (opx.length - 1) (by omega)
            have e1 : ((opx.length - 1 : Nat) : Int) = (opx.length : Int) - 1 := by omega
            rw [e1] at hla
            have e2 : (opy.length : Int) - 1 = (opx.length : Int) - 1 := by rw [hop.1]
            rw [e2]
            have ho2 := h.next (j := j) (by omega) (by omega) (oy := oy.set j (-1)) (ox := ox.set (cntI old j) (-1)) (by simpa using ly) (by simpa using lx) (fun k hk hk0 => ho1 k (by omega) hk0) hla.1
            exact ih (j + 1) _ _ _ _ (by omega) (hop.take _) (by simpa using ly) (by simpa using lx) (h.over (by omega) (by simpa using ly) (by simpa using lx) ho2 hla.1 hla.2 hjj)
          · have q4 : ¬ (rd c (j : Int) = 23 ∧ 0 < opy.length) := by rw [hop.1]; exact q3
            rw [if_neg q3, if_neg q4]
            exact ih (j + 1) _ _ _ _ (by omega) ⟨hop.1, hop.2⟩ (by simpa using ly) (by simpa using lx) ho1
theorem Emb.mtOf_ : OutR old old.length (mtOf c) (mtOf l) := by
  have := h.mt old.length 0 [] [] (List.replicate c.length 0) (List.replicate l.length 0) (by omega) ⟨rfl, fun k hk => absurd hk (Nat.not_lt_zero k)⟩ (by simp [h.hc]) (by simp) (fun k hk => absurd hk (Nat.not_lt_zero k))
  exact this
theorem Emb.ah (base : Int) : ∀ j, j ≤ old.length → aAt c nn base j = aAt l lev base (cntI old j) := by
  intro j
  induction j with
  | zero => intro _; rfl
  | succ j ih =>
    intro hj
    have ih := ih (by omega)
    show (if remC (rd c j) = true then aAt c nn base j else rd nn j) = _
    rcases h.st j (by omega) with ⟨h1, h2⟩ | ⟨h1, h2, h3, h4⟩
    · have hcn : cntI old (j + 1) = cntI old j := if_pos h1
      rw [if_pos h2, hcn]
      exact ih
    · have hcn : cntI old (j + 1) = cntI old j + 1 := if_neg (by omega)
      rw [hcn, h3, h4, ih]
      rfl
theorem Emb.be (base : Int) : ∀ t j, j + t = old.length → bAt c nn base t = bAt l lev base (l.length - cntI old j) := by
  intro t
  induction t with
  | zero =>
    intro j hj
    have hj : j = old.length := by omega
    rw [hj, h.iN, Nat.sub_self]
    rfl
  | succ t ih =>
    intro j hj
    have ih := ih (j + 1) (by omega)
    have e1 : (c.length : Int) - 1 - (t : Int) = (j : Int) := by rw [h.hc]; omega
    show (if remC (rd c ((c.length : Int) - 1 - t)) = true then bAt c nn base t else rd nn ((c.length : Int) - 1 - t)) = _
    rw [e1]
    rcases h.st j (by omega) with ⟨h1, h2⟩ | ⟨h1, h2, h3, h4⟩
    · have hcn : cntI old (j + 1) = cntI old j := if_pos h1
      rw [if_pos h2, ih, hcn]
    · have hcn : cntI old (j + 1) = cntI old j + 1 := if_neg (by omega)
      rw [hcn] at ih
      obtain ⟨s, hs⟩ : ∃ s, l.length - cntI old j = s + 1 := ⟨l.length - cntI old j - 1, by omega⟩
      have e2 : (l.length : Int) - 1 - (s : Int) = (cntI old j : Int) := by omega
      rw [hs]
      show _ = if remC (rd l ((l.length : Int) - 1 - s)) = true then bAt l lev base s else rd lev ((l.length : Int) - 1 - s)
      rw [e2, h3, h4, ih, show l.length - (cntI old j + 1) = s by omega]
/-- A sequence, told by the places of the shorter row. -/
def ren (old : List Int) (s : S36) : S36 := ⟨s.f0.map (fun p => rd old p), s.f1, s.f2, s.f3⟩
structure SqR (old : List Int) (j : Nat) (y x : SqSt) : Prop where
  all : x.all = y.all.map (ren old)
  now : x.now = y.now
  last : Rl old y.last x.last
  wt : ∀ k : Nat, k < old.length → 0 ≤ rd old k → y.wt k = x.wt (rd old k)
  pl : ∀ s ∈ y.all, ∀ p ∈ s.f0, 0 ≤ p ∧ p < old.length ∧ 0 ≤ rd old p
  lt : y.last < j
theorem Emb.wait {j : Nat} {y x : SqSt} (hr : SqR old j y x) (my mx_ : List Int) (hm : OutR old old.length my mx_) : ∀ k : Nat, k < old.length → 0 ≤ rd old k → sqWait c my y k = sqWait l mx_ x (rd old k) := by
  intro k hk hk0
  unfold sqWait
  rcases hr.last with ⟨r1, r2⟩ | ⟨r1, r2, r3, r4⟩
  · rw [if_neg (by omega), if_neg (by omega)]
    exact hr.wt k hk hk0
  · obtain ⟨n, hn⟩ := Int.eq_ofNat_of_zero_le r1
    rw [hn] at r2 r4
    have hg := h.ge (j := n) (by omega) (by omega)
    have hR := hm n (by omega) (by omega)
    rw [hn, ← r4, hg.2.2.1]
    have hR2 := hR
    rw [hg.1] at hR2 ⊢
    have e : (0 ≤ rd my (n : Int)) ↔ (0 ≤ rd mx_ (cntI old n : Int)) := by
      rcases hR2 with ⟨s1, s2⟩ | ⟨s1, s2, s3, s4⟩
      · omega
      · omega
    by_cases q : 0 ≤ (n : Int) ∧ iniC (rd l (cntI old n : Int)) = true ∧ 0 ≤ rd my (n : Int)
    · rw [if_pos q, if_pos ⟨by omega, q.2.1, e.mp q.2.2⟩]
      unfold upW
      have := h.inj2 (a := (k : Int)) (b := rd old k) (.inr ⟨by omega, by omega, hk0, rfl⟩) hR2
      by_cases q2 : (k : Int) = rd my (n : Int)
      · rw [if_pos q2, if_pos (this.mp q2), hr.now]
      · rw [if_neg q2, if_neg (fun e => q2 (this.mpr e))]
        exact hr.wt k hk hk0
    · rw [if_neg q, if_neg (fun q2 => q ⟨by omega, q2.2.1, e.mpr q2.2.2⟩)]
      exact hr.wt k hk hk0
omit h in
theorem map_modify (old : List Int) (L : List S36) (n : Nat) (a b : Int) (hb : rd old a = b) : (L.modify n (fun s => { s with f0 := s.f0 ++ [a] })).map (ren old) = (L.map (ren old)).modify n (fun s => { s with f0 := s.f0 ++ [b] }) := by
  apply List.ext_getElem?
  intro i
  rw [List.getElem?_map, List.getElem?_modify, List.getElem?_modify, List.getElem?_map]
  cases L[i]? with
  | none => rfl
  | some s =>
    by_cases e : n = i
    · simp [e, ren, hb]
    · simp [e, ren]
theorem Emb.putR {j : Nat} (hj : j < old.length) (h0 : 0 ≤ rd old j) {y x : SqSt} (hr : SqR old j y x) : SqR old (j + 1) (sqPut j y) (sqPut (cntI old j) x) := by
  have hg := h.ge hj h0
  refine ⟨?_, hr.now, .inr ⟨by show (0 : Int) ≤ (j : Int); omega, by show (j : Int) < _; omega, by show (0 : Int) ≤ (cntI old j : Int); omega, hg.1⟩, hr.wt, fun s hs p hp => ?_, by show (j : Int) < _; omega⟩
  · show x.all.modify x.now _ = (y.all.modify y.now _).map (ren old)
    rw [map_modify old _ _ _ _ hg.1, ← hr.all, hr.now]
  · have hs : s ∈ y.all.modify y.now (fun s => { s with f0 := s.f0 ++ [(j : Int)] }) := hs
    obtain ⟨i, hi⟩ := List.mem_iff_getElem?.mp hs
    rw [List.getElem?_modify] at hi
    cases hz : y.all[i]? with
    | none => rw [hz] at hi; cases hi
    | some z =>
      rw [hz] at hi
      have hzm : z ∈ y.all := List.mem_iff_getElem?.mpr ⟨i, hz⟩
      by_cases e : y.now = i
      · simp [e] at hi
        rw [← hi] at hp
        rcases List.mem_append.mp hp with hp | hp
        · exact hr.pl z hzm p hp
        · rw [List.mem_singleton.mp hp]
          exact ⟨by omega, by omega, h0⟩
      · simp [e] at hi
        rw [← hi] at hp
        exact hr.pl z hzm p hp
theorem Emb.turnR {j : Nat} (hj : j < old.length) (h0 : 0 ≤ rd old j) {y x : SqSt} (hr : SqR old j y x) (my mx_ ahy ahx : List Int) (hm : OutR old old.length my mx_) (hah : rd ahy j = rd ahx (cntI old j)) :
    SqR old j (sqTurn c nn my ahy j y) (sqTurn l lev mx_ ahx (cntI old j) x) := by
  have hg := h.ge hj h0
  have hw := h.wait hr my mx_ hm
  have hup : ∀ k : Nat, k < old.length → 0 ≤ rd old k → upW (sqWait c my y) (j : Int) none k = upW (sqWait l mx_ x) (cntI old j : Int) none (rd old k) := by
    intro k hk hk0
    unfold upW
    have := h.inj2 (a := (k : Int)) (b := rd old k) (a' := (j : Int)) (b' := (cntI old j : Int)) (.inr ⟨by omega, by omega, hk0, rfl⟩) (.inr ⟨by omega, by omega, by omega, hg.1⟩)
    by_cases q : (k : Int) = (j : Int)
    · rw [if_pos q, if_pos (this.mp q)]
    · rw [if_neg q, if_neg (fun e => q (this.mpr e))]
      exact hw k hk hk0
  have hwj := hw j hj h0
  rw [hg.1] at hwj
  unfold sqTurn
  rw [← hwj]
  cases sqWait c my y (j : Int) with
  | some s => exact ⟨hr.all, rfl, hr.last, hup, hr.pl, hr.lt⟩
  | none =>
    refine ⟨?_, ?_, hr.last, hup, fun s hs p hp => ?_, hr.lt⟩
    · show x.all ++ _ = (y.all ++ _).map (ren old)
      rw [List.map_append, ← hr.all, hah, hg.2.2.2.1]
      rfl
    · show x.all.length = y.all.length
      rw [hr.all, List.length_map]
    · rcases List.mem_append.mp hs with hs | hs
      · exact hr.pl s hs p hp
      · rw [List.mem_singleton.mp hs] at hp
        cases hp
theorem Emb.seqs (my mx_ ahy ahx : List Int) (hm : OutR old old.length my mx_) (hah : ∀ j : Nat, j < old.length → 0 ≤ rd old j → rd ahy j = rd ahx (cntI old j)) : ∀ j, j ≤ old.length → SqR old j (sqAt c nn my ahy j) (sqAt l lev mx_ ahx (cntI old j)) := by
  intro j
  induction j with
  | zero => intro _; exact ⟨rfl, rfl, .inl ⟨rfl, rfl⟩, fun k _ _ => rfl, fun s hs => (by cases hs), (show (-1 : Int) < 0 by decide)⟩
  | succ j ih =>
    intro hj
    have hr := ih (by omega)
    show SqR old (j + 1) (sqStep c nn my ahy j (sqAt c nn my ahy j)) _
    rcases h.st j (by omega) with ⟨h1, h2⟩ | ⟨h1, h2, h3, h4⟩
    · have hcn : cntI old (j + 1) = cntI old j := if_pos h1
      rw [hcn]
      unfold sqStep
      rw [if_pos h2]
      exact ⟨hr.all, hr.now, hr.last, hr.wt, hr.pl, by have := hr.lt; omega⟩
    · have hcn : cntI old (j + 1) = cntI old j + 1 := if_neg (by omega)
      have h0 : 0 ≤ rd old j := by omega
      rw [hcn]
      show SqR old (j + 1) _ (sqStep l lev mx_ ahx (cntI old j) (sqAt l lev mx_ ahx (cntI old j)))
      unfold sqStep
      rw [h3]
      by_cases q1 : remC (rd l (cntI old j)) = true
      · rw [if_pos q1, if_pos q1]
        exact ⟨hr.all, hr.now, hr.last, hr.wt, hr.pl, by have := hr.lt; omega⟩
      · rw [if_neg q1, if_neg q1]
        have e : ((sqAt c nn my ahy j).last < 0 ∨ rd nn (sqAt c nn my ahy j).last ≠ rd nn j) ↔ ((sqAt l lev mx_ ahx (cntI old j)).last < 0 ∨ rd lev (sqAt l lev mx_ ahx (cntI old j)).last ≠ rd lev (cntI old j)) := by
          rcases hr.last with ⟨r1, r2⟩ | ⟨r1, r2, r3, r4⟩
          · rw [r1, r2]
            exact ⟨fun _ => .inl (by decide), fun _ => .inl (by decide)⟩
          · obtain ⟨n, hn⟩ := Int.eq_ofNat_of_zero_le r1
            rw [hn] at r2 r4
            have hg := h.ge (j := n) (by omega) (by omega)
            rw [hn, ← r4, hg.1, hg.2.2.2.1, h4]
            exact ⟨fun q => q.elim (fun q => by omega) .inr, fun q => q.elim (fun q => by omega) .inr⟩
        by_cases q2 : (sqAt c nn my ahy j).last < 0 ∨ rd nn (sqAt c nn my ahy j).last ≠ rd nn j
        · rw [if_pos q2, if_pos (e.mp q2)]
          exact h.putR (by omega) h0 (h.turnR (by omega) h0 hr my mx_ ahy ahx hm (hah j (by omega) h0))
        · rw [if_neg q2, if_neg (fun q => q2 (e.mpr q))]
          exact h.putR (by omega) h0 hr
/-- The whole answer. -/
theorem Emb.answer (base : Int) : (sqAt l lev (mtOf l) (ahF l lev base) l.length).all.map (sqEos l lev (mtOf l) (beF l lev base) base) = ((sqAt c nn (mtOf c) (ahF c nn base) c.length).all.map (sqEos c nn (mtOf c) (beF c nn base) base)).map (ren old) ∧
    ∀ s ∈ (sqAt c nn (mtOf c) (ahF c nn base) c.length).all, ∀ p ∈ s.f0, 0 ≤ p ∧ p < old.length ∧ 0 ≤ rd old p := by
  have hm := h.mtOf_
  have hr := h.seqs (mtOf c) (mtOf l) (ahF c nn base) (ahF l lev base) hm (fun j hj h0 => by
    have hg := h.ge hj h0
    have h1 := rd_range c.length (aAt c nn base) j (by rw [h.hc]; exact hj)
    have h2 := rd_range l.length (aAt l lev base) (cntI old j) hg.2.1
    exact h1.trans ((h.ah base j (by omega)).trans h2.symm)) old.length (Nat.le_refl _)
  rw [h.iN, ← h.hc] at hr
  refine ⟨?_, by have := hr.pl; exact this⟩
  rw [hr.all, List.map_map, List.map_map]
  refine List.map_congr_left (fun s hs => ?_)
  have hok := sqAt_ok c nn (mtOf c) (ahF c nn base) c.length
  obtain ⟨i, hi⟩ := List.mem_iff_getElem?.mp hs
  obtain ⟨_, hne, _⟩ := hok.pl i s hi
  have hlen : 0 < s.f0.length := List.length_pos_iff.mpr hne
  have hlp := hr.pl s hs (lastP s.f0) (E.rd_mem (by omega) (by omega))
  obtain ⟨n, hn⟩ := Int.eq_ofNat_of_zero_le hlp.1
  rw [hn] at hlp
  have hg := h.ge (j := n) (by omega) hlp.2.2
  have hl2 : lastP (ren old s).f0 = (cntI old n : Int) := by
    have e : lastP (ren old s).f0 = rd old (lastP s.f0) := by
      unfold lastP ren
      rw [List.length_map]
      obtain ⟨q, hq⟩ : ∃ q, s.f0.length = q + 1 := ⟨s.f0.length - 1, by omega⟩
      have e2 : ((q + 1 : Nat) : Int) - 1 = (q : Int) := by omega
      rw [hq, e2]
      simp [rd, hq]
    rw [e, hn, hg.1]
  have hbe : rd (beF c nn base) (n : Int) = rd (beF l lev base) (cntI old n : Int) := by
    have h1 := rd_range c.length (fun k => bAt c nn base (c.length - 1 - k)) n (by rw [h.hc]; omega)
    have h2 := rd_range l.length (fun k => bAt l lev base (l.length - 1 - k)) (cntI old n) hg.2.1
    refine h1.trans (Eq.trans ?_ h2.symm)
    have := h.be base (c.length - 1 - n) (n + 1) (by rw [h.hc]; omega)
    refine this.trans ?_
    rw [hg.2.2.2.2]
    congr 1
    omega
  have hmm : rd (mtOf c) (n : Int) < 0 ↔ rd (mtOf l) (cntI old n : Int) < 0 := by
    have := hm n (by omega) hlp.2.2
    rw [hg.1] at this
    rcases this with ⟨s1, s2⟩ | ⟨s1, s2, s3, s4⟩ <;> omega
  show sqEos l lev (mtOf l) (beF l lev base) base (ren old s) = ren old (sqEos c nn (mtOf c) (beF c nn base) base s)
  unfold sqEos
  rw [hl2, hn, hg.2.2.1, hg.2.2.2.1, hbe]
  by_cases q : iniC (rd l (cntI old n : Int)) = true ∧ rd (mtOf c) (n : Int) < 0
  · rw [if_pos q, if_pos ⟨q.1, hmm.mp q.2⟩]
    rfl
  · rw [if_neg q, if_neg (fun q2 => q ⟨q2.1, hmm.mpr q2.2⟩)]
    rfl
end
end Go.Proofs.Ytofiflhjlohakaa.X
