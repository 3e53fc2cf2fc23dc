import Derived.Test.YtiogpnefnapfeaaDoorA
/-! Chapter 17: what pairs become, plainly. -/
namespace Go.Proofs.YtiogpnefnapfeaaDoor.Pure
set_option linter.unusedVariables false
set_option linter.unusedSimpArgs false
def sideF (c : Int) : Int := if c = 1 then 1 else if c = 2 ∨ c = 4 ∨ c = 7 then 2 else 0
theorem sideF_or (c : Int) : sideF c = 0 ∨ sideF c = 1 ∨ sideF c = 2 := by
  unfold sideF
  split
  · simp
  · split <;> simp
/-- The last side ahead of place n. -/
def lookF (out : List Int) (sos : Int) : Nat → Int
  | 0 => if sos = 2 then 2 else 1
  | n + 1 => if sideF (out.getD n 0) ≠ 0 then sideF (out.getD n 0) else lookF out sos n
theorem lookF_or (out : List Int) (sos : Int) : ∀ n, lookF out sos n = 1 ∨ lookF out sos n = 2 := by
  intro n
  induction n with
  | zero => unfold lookF; split <;> simp
  | succ n ih =>
    unfold lookF
    split
    · next q => rcases sideF_or (out.getD n 0) with z | z | z <;> simp_all
    · exact ih
/-- A class of a side among these? -/
def hasF (l : List Int) (s : Int) : Bool := l.any fun c => sideF c == s
def midF (out : List Int) (p : Int × Int) : List Int := (out.take p.2.toNat).drop (p.1.toNat + 1)
def becF (out : List Int) (mine other sos : Int) (p : Int × Int) : Int :=
  if hasF (midF out p) mine = true then mine
  else if hasF (midF out p) other = true then lookF out sos p.1.toNat
  else 0
def runF (first : List Int) (c : Int) : Nat → Nat → List Int → List Int
  | 0, _, out => out
  | m + 1, i, out => if out.getD i 0 = 10 ∨ first.getD i 0 = 9 then runF first c m (i + 1) (if out.getD i 0 ≠ 10 then out.set i c else out) else out
def setF (first : List Int) (out : List Int) (at' : Nat) (c : Int) : List Int := runF first c (out.length - (at' + 1)) (at' + 1) (out.set at' c)
def stepF (first : List Int) (mine other sos : Int) (out : List Int) (p : Int × Int) : List Int :=
  if becF out mine other sos p ≠ 0 then setF first (setF first out p.1.toNat (becF out mine other sos p)) p.2.toNat (becF out mine other sos p) else out
def mineF (level : Int) : Int := if level % 2 = 1 then 2 else 1
def otherF (level : Int) : Int := if level % 2 = 1 then 1 else 2
def resF (l first now : List Int) (level sos : Int) : List Int := (pairsF l now).foldl (stepF first (mineF level) (otherF level) sos) now
def resolveF (l first now : List Int) (level sos : Int) : List Int × Int :=
  if 65536 < l.length then ([], 3) else if first.length ≠ l.length ∨ now.length ≠ l.length then ([], 2) else (resF l first now level sos, 0)
theorem runF_len (first : List Int) (c : Int) : ∀ (m i : Nat) (out : List Int), (runF first c m i out).length = out.length := by
  intro m
  induction m with
  | zero => intro i out; rfl
  | succ m ih =>
    intro i out
    unfold runF
    split
    · rw [ih]; split
      · rw [List.length_set]
      · rfl
    · rfl
theorem setF_len (first : List Int) (out : List Int) (a : Nat) (c : Int) : (setF first out a c).length = out.length := by
  unfold setF; rw [runF_len, List.length_set]
theorem stepF_len (first : List Int) (mine other sos : Int) (out : List Int) (p : Int × Int) : (stepF first mine other sos out p).length = out.length := by
  unfold stepF
  split
  · rw [setF_len, setF_len]
  · rfl
theorem fold_len (first : List Int) (mine other sos : Int) : ∀ (P : List (Int × Int)) (out : List Int), (P.foldl (stepF first mine other sos) out).length = out.length := by
  intro P
  induction P with
  | nil => intro out; rfl
  | cons p P ih => intro out; rw [List.foldl_cons, ih, stepF_len]
theorem getD_set (l : List Int) (i j : Nat) (c : Int) (h : i < l.length) : (l.set i c).getD j 0 = if i = j then c else l.getD j 0 := by
  rw [List.getD_eq_getElem?_getD, List.getElem?_set]
  split
  · next q => subst q; simp [h]
  · rw [List.getD_eq_getElem?_getD]
/-- What a run may change. -/
theorem runF_at (first : List Int) (c : Int) : ∀ (m i : Nat) (out : List Int), i + m ≤ out.length → ∀ j, (runF first c m i out).getD j 0 = out.getD j 0 ∨ ((runF first c m i out).getD j 0 = c ∧ first.getD j 0 = 9) := by
  intro m
  induction m with
  | zero => intro i out _ j; exact Or.inl rfl
  | succ m ih =>
    intro i out h j
    unfold runF
    split
    · next q =>
      by_cases q1 : out.getD i 0 ≠ 10
      · rw [if_pos q1]
        rcases ih (i + 1) (out.set i c) (by rw [List.length_set]; omega) j with z | z
        · rw [z, getD_set _ _ _ _ (by omega)]
          split
          · next e =>
            subst e
            rcases q with q | q
            · exact absurd q q1
            · exact Or.inr ⟨rfl, q⟩
          · exact Or.inl rfl
        · exact Or.inr z
      · rw [if_neg q1]
        exact ih (i + 1) out (by omega) j
    · exact Or.inl rfl
theorem setF_at (first : List Int) (out : List Int) (a : Nat) (c : Int) (h : a < out.length) (j : Nat) :
    ((setF first out a c).getD j 0 = if a = j then c else out.getD j 0) ∨ ((setF first out a c).getD j 0 = c ∧ first.getD j 0 = 9) := by
  unfold setF
  rcases runF_at first c (out.length - (a + 1)) (a + 1) (out.set a c) (by rw [List.length_set]; omega) j with z | z
  · rw [z, getD_set _ _ _ _ h]; exact Or.inl rfl
  · exact Or.inr z
theorem set2_at (first : List Int) (out : List Int) (x y : Nat) (c : Int) (hx : x < out.length) (hy : y < out.length) (j : Nat) :
    ((setF first (setF first out x c) y c).getD j 0 = if x = j ∨ y = j then c else out.getD j 0) ∨ ((setF first (setF first out x c) y c).getD j 0 = c ∧ first.getD j 0 = 9) := by
  rcases setF_at first (setF first out x c) y c (by rw [setF_len]; exact hy) j with z | z
  · rw [z]
    by_cases q : y = j
    · rw [if_pos q, if_pos (Or.inr q)]; exact Or.inl rfl
    · rw [if_neg q]
      rcases setF_at first out x c hx j with z1 | z1
      · rw [z1]
        by_cases q1 : x = j
        · rw [if_pos q1, if_pos (Or.inl q1)]; exact Or.inl rfl
        · rw [if_neg q1, if_neg (by rintro (w | w); exact q1 w; exact q w)]; exact Or.inl rfl
      · exact Or.inr z1
  · exact Or.inr z
theorem becF_or (out : List Int) (mine other sos : Int) (hm : mine = 1 ∨ mine = 2) (p : Int × Int) : becF out mine other sos p = 0 ∨ becF out mine other sos p = 1 ∨ becF out mine other sos p = 2 := by
  unfold becF
  split
  · exact Or.inr hm
  · split
    · exact Or.inr (lookF_or _ _ _)
    · exact Or.inl rfl
/-- What holds behind the pairs P, of all pairs A. -/
structure NestI (first now : List Int) (A : List (Int × Int)) (P : List (Int × Int)) (out : List Int) : Prop where
  len : out.length = now.length
  was : ∀ j, out.getD j 0 = now.getD j 0 ∨ ((out.getD j 0 = 1 ∨ out.getD j 0 = 2) ∧ (first.getD j 0 = 9 ∨ ∃ p ∈ P, p.1 = (j : Int) ∨ p.2 = (j : Int)))
  same : ∀ p ∈ A, first.getD p.1.toNat 0 ≠ 9 → first.getD p.2.toNat 0 ≠ 9 → out.getD p.1.toNat 0 = out.getD p.2.toNat 0
theorem NestI.step {l first now : List Int} {P : List (Int × Int)} {out : List Int} (h : NestI first now (pairsF l now) P out) (mine other sos : Int) (hm : mine = 1 ∨ mine = 2) (p : Int × Int) (hp : p ∈ pairsF l now) (hn : now.length = l.length) : NestI first now (pairsF l now) (P ++ [p]) (stepF first mine other sos out p) := by
  have hg := goF_mem ((mem_pairsF p).1 hp)
  have g1 := hg.1.nn
  have g2 := hg.1.lt
  have g3 := hg.2.1
  have hl := h.len
  unfold stepF
  split
  · next q =>
    have hc : becF out mine other sos p = 1 ∨ becF out mine other sos p = 2 := by
      rcases becF_or out mine other sos hm p with z | z
      · exact absurd z q
      · exact z
    generalize becF out mine other sos p = c at hc
    have hs := set2_at first out p.1.toNat p.2.toNat c (by omega) (by omega)
    refine ⟨by rw [setF_len, setF_len]; exact hl, fun j => ?_, fun r hr h1 h2 => ?_⟩
    · rcases hs j with z | z
      · by_cases q1 : p.1.toNat = j ∨ p.2.toNat = j
        · rw [if_pos q1] at z
          rw [z]
          exact Or.inr ⟨hc, Or.inr ⟨p, by simp, by omega⟩⟩
        · rw [if_neg q1] at z
          rw [z]
          rcases h.was j with w | ⟨w, w1⟩
          · exact Or.inl w
          · refine Or.inr ⟨w, ?_⟩
            rcases w1 with w1 | ⟨r, hr, w1⟩
            · exact Or.inl w1
            · exact Or.inr ⟨r, List.mem_append_left _ hr, w1⟩
      · rw [z.1]
        exact Or.inr ⟨hc, Or.inl z.2⟩
    · have a1 : (setF first (setF first out p.1.toNat c) p.2.toNat c).getD r.1.toNat 0 = if p.1.toNat = r.1.toNat ∨ p.2.toNat = r.1.toNat then c else out.getD r.1.toNat 0 := by
        rcases hs r.1.toNat with z | z
        · exact z
        · exact absurd z.2 h1
      have a2 : (setF first (setF first out p.1.toNat c) p.2.toNat c).getD r.2.toNat 0 = if p.1.toNat = r.2.toNat ∨ p.2.toNat = r.2.toNat then c else out.getD r.2.toNat 0 := by
        rcases hs r.2.toNat with z | z
        · exact z
        · exact absurd z.2 h2
      rw [a1, a2]
      have hg' := goF_mem ((mem_pairsF r).1 hr)
      have f1 := hg'.1.nn
      have f2 := hg'.1.lt
      by_cases e : p = r
      · subst e
        rw [if_pos (Or.inl rfl), if_pos (Or.inr rfl)]
      · obtain ⟨b1, b2, b3⟩ := pairsF_apart hp hr
        obtain ⟨c1, c2, c3⟩ := pairsF_apart hr hp
        have d1 : p.1 ≠ r.1 := fun w => e (b2 w)
        have d2 : p.2 ≠ r.2 := fun w => e (b3 w)
        rw [if_neg (by omega), if_neg (by omega)]
        exact h.same r hr h1 h2
  · exact ⟨hl, fun j => (h.was j).imp id fun ⟨w, w1⟩ => ⟨w, w1.imp id fun ⟨r, hr, w2⟩ => ⟨r, List.mem_append_left _ hr, w2⟩⟩, h.same⟩
theorem NestI.start (first now l : List Int) : NestI first now (pairsF l now) [] now := by
  refine ⟨rfl, fun j => Or.inl rfl, fun p hp _ _ => ?_⟩
  have hg := goF_mem ((mem_pairsF p).1 hp)
  rw [hg.1.a, hg.1.b]
theorem nest_all {l first now : List Int} (mine other sos : Int) (hm : mine = 1 ∨ mine = 2) (hn : now.length = l.length) : ∀ (Q P : List (Int × Int)) (out : List Int), (∀ p ∈ Q, p ∈ pairsF l now) → NestI first now (pairsF l now) P out → NestI first now (pairsF l now) (P ++ Q) (Q.foldl (stepF first mine other sos) out) := by
  intro Q
  induction Q with
  | nil => intro P out _ h; rw [List.append_nil]; exact h
  | cons p Q ih =>
    intro P out hQ h
    have := ih (P ++ [p]) _ (fun r hr => hQ r (List.mem_cons_of_mem _ hr)) (h.step mine other sos hm p (hQ p List.mem_cons_self) hn)
    rw [List.append_assoc] at this
    exact this
theorem mineF_or (level : Int) : mineF level = 1 ∨ mineF level = 2 := by unfold mineF; split <;> simp
theorem resF_nest {l first now : List Int} (level sos : Int) (hn : now.length = l.length) : NestI first now (pairsF l now) (pairsF l now) (resF l first now level sos) := by
  have := nest_all (first := first) (mineF level) (otherF level) sos (mineF_or level) hn (pairsF l now) [] now (fun p hp => hp) (NestI.start first now l)
  rw [List.nil_append] at this
  exact this
/-- No class of a side: it stays. -/
theorem hasF_none {l : List Int} (h : ∀ c ∈ l, sideF c = 0) {s : Int} (hs : s ≠ 0) : hasF l s = false := by
  unfold hasF
  rw [List.any_eq_false]
  intro c hc
  rw [h c hc]
  simp
  omega
theorem mid_mem {out : List Int} {p : Int × Int} {c : Int} (h : c ∈ midF out p) : c ∈ out := List.mem_of_mem_take (List.mem_of_mem_drop h)
theorem otherF_or (level : Int) : otherF level = 1 ∨ otherF level = 2 := by unfold otherF; split <;> simp
theorem resF_none {l first now : List Int} (level sos : Int) (h : ∀ c ∈ now, sideF c = 0) : resF l first now level sos = now := by
  unfold resF
  have hs : ∀ p, stepF first (mineF level) (otherF level) sos now p = now := by
    intro p
    unfold stepF becF
    rw [hasF_none (fun c hc => h c (mid_mem hc)) (by rcases mineF_or level with z | z <;> omega), hasF_none (fun c hc => h c (mid_mem hc)) (by rcases otherF_or level with z | z <;> omega)]
    simp
  generalize pairsF l now = P
  induction P with
  | nil => rfl
  | cons p P ih => rw [List.foldl_cons, hs]; exact ih
theorem go_none {l now : List Int} (h : ∀ i, i < l.length → (brk (l.getD i 0)).2.2 = false) : ∀ (m i : Nat), i + m ≤ l.length → go l now m i [] = [] := by
  intro m
  induction m with
  | zero => intro i _; rfl
  | succ m ih =>
    intro i hi
    unfold go
    rw [if_pos (Or.inl (h i (by omega)))]
    exact ih _ (by omega)
theorem scanF_zero : ∀ (n i : Nat), scanF (List.replicate n 0) i = [] := by
  intro n
  induction n with
  | zero => intro i; rfl
  | succ n ih => intro i; rw [List.replicate_succ]; unfold scanF; rw [if_neg (by decide)]; exact ih _
theorem pairsF_none {l now : List Int} (h : ∀ i, i < l.length → (brk (l.getD i 0)).2.2 = false) : pairsF l now = [] := by
  unfold pairsF goF
  rw [go_none h _ _ (by omega)]
  exact scanF_zero _ _
theorem resF_plain {l first now : List Int} (level sos : Int) (h : ∀ i, i < l.length → (brk (l.getD i 0)).2.2 = false) : resF l first now level sos = now := by
  unfold resF
  rw [pairsF_none h]
  rfl
end Go.Proofs.YtiogpnefnapfeaaDoor.Pure
