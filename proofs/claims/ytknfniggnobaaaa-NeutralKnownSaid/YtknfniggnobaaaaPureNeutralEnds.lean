/- NeutralEnds: for any row of classes, any level, sos and eos the law's function returns true: of a row that chapter 17 may leave, what is resolved is L, R, EN, AN or BN, with the levels that the statement asks. -/
import Derived.Test.YtknfniggnobaaaaT2
import Derived.Test.YtknfniggnobaaaaB
namespace Go.Proofs.Ytknfniggnobaaaa.Pure
open Go.RowKit Go.Proofs.Ytknfniggnobaaaa.X Go.Proofs.YtknfniggnobaaaaW.PrintWords Go.Proofs.YtknfniggnobaaaaW.PrintLast Go.Proofs.Ytknfniggnobaaaa
set_option linter.unusedVariables false
set_option linter.unusedSimpArgs false

def okc (c : Int) : Prop := c = 1 ∨ c = 2 ∨ c = 4 ∨ c = 7 ∨ c = 10 ∨ nIs c = true
def clr (c : Int) : Int := if c = 1 ∨ c = 2 ∨ c = 4 ∨ c = 7 ∨ c = 10 ∨ nIs c = true then c else 14
theorem clr_ok (c : Int) : okc (clr c) := by
  unfold clr okc
  split
  · assumption
  · right; right; right; right; right; decide
theorem cleared_ev (l : List Int) (hl : l.length ≤ 140737488351232) : Ev (fun k => selvedgelaw18_cleared.f k l) (l.map clr) := by
  unfold selvedgelaw18_cleared.f
  suffices h : ∀ (rest dn : List Int), l = dn ++ rest → Ev (fun k => selvedgelaw18_cleared.l0 k l (dn.map clr) dn.length) (l.map clr) from h l [] rfl
  intro rest
  induction rest with
  | nil =>
    intro dn h
    refine E.succ ?_
    simp only [selvedgelaw18_cleared.l0]
    have e : l = dn := by simpa using h
    exact E.neg (by rw [e]; omega) (E.ret (by rw [e]))
  | cons c rest ih =>
    intro dn h
    have hlen : (dn.length : Int) < l.length := by rw [h, List.length_append, List.length_cons]; omega
    have hc : rd l dn.length = c := by rw [h]; exact E.rd_mid _ _ _
    have hsz : (dn.map clr).length < 140737488355328 := by rw [List.length_map]; omega
    have go : ∀ v, v = clr c → Ev (fun k => selvedgelaw18_cleared.l0 k l (dn.map clr ++ [v]) (dn.length + 1)) (l.map clr) := by
      intro v hv
      have := ih (dn ++ [c]) (by rw [h]; simp)
      rw [List.length_append, List.length_singleton, List.map_append] at this
      rw [hv]
      exact this
    refine E.succ ?_
    simp only [selvedgelaw18_cleared.l0]
    rw [hc, E.w64 (by omega) (by omega)]
    refine E.pos hlen (E.pos (by omega) ?_)
    by_cases q1 : c = 1
    · exact E.pos q1 (E.pos hsz (go _ (by unfold clr; rw [if_pos (.inl q1)])))
    refine E.neg q1 ?_
    by_cases q2 : c = 2
    · exact E.pos q2 (E.pos hsz (go _ (by unfold clr; rw [if_pos (.inr (.inl q2))])))
    refine E.neg q2 ?_
    by_cases q3 : c = 4
    · exact E.pos q3 (E.pos hsz (go _ (by unfold clr; rw [if_pos (.inr (.inr (.inl q3)))])))
    refine E.neg q3 ?_
    by_cases q4 : c = 7
    · exact E.pos q4 (E.pos hsz (go _ (by unfold clr; rw [if_pos (.inr (.inr (.inr (.inl q4))))])))
    refine E.neg q4 ?_
    by_cases q5 : c = 10
    · exact E.pos q5 (E.pos hsz (go _ (by unfold clr; rw [if_pos (.inr (.inr (.inr (.inr (.inl q5)))))])))
    refine E.neg q5 (E.bno (A.refNeutral c) ?_)
    by_cases q6 : nIs c = true
    · refine E.pos q6 ?_
      first
        | exact E.pos hsz (go _ (by unfold clr; rw [if_pos (.inr (.inr (.inr (.inr (.inr q6)))))]))
        | exact E.neg (by simp [q6]) (E.pos hsz (go _ (by unfold clr; rw [if_pos (.inr (.inr (.inr (.inr (.inr q6)))))])))
    · refine E.neg q6 (E.pos hsz (go _ ?_))
      unfold clr
      rw [if_neg (by simp [q1, q2, q3, q4, q5, q6])]
theorem more_in {x a : Int} (ha : 0 ≤ a) (hx : x = 1 ∨ x = 2 ∨ x = 4 ∨ x = 7) : 0 ≤ nMore x a ∧ nMore x a ≤ 2 ∧ ((a + nMore x a) % 2 = 1 ↔ x = 2) := by
  have hm : a % 2 = 0 ∨ a % 2 = 1 := by omega
  unfold nMore nMore0 nMore1
  rcases hm with hm | hm <;> rcases hx with h | h | h | h <;> subst h <;> simp [hm] <;> omega
/-- What the walk asks of a place, of a class that comes of c. -/
theorem rd_ok {a sd c x b i : Int} (ha : 0 ≤ a) (ha2 : a ≤ 250) (hx : x = 1 ∨ x = 2 ∨ x = 4 ∨ x = 7) (hs : nIs c = false → x = c) (hn : nIs c = true → (x = 1 ∨ x = 2) ∧ (x ≠ sd → b > 0 → (b = 1 ↔ x = 1))) : neRd a sd c x ((a + nMore x a) % 256) b i = true := by
  obtain ⟨m0, m1, m2⟩ := more_in ha hx
  unfold neRd
  refine decide_eq_true (.inr ⟨by omega, hs, by omega, by omega, by omega, ?_, fun h => ⟨(hn h).1, fun h1 _ h2 => (hn h).2 h1 h2⟩⟩)
  rw [A.tmod2 _ (by omega)]
  have e : (a + nMore x a) % 256 = a + nMore x a := by omega
  rw [e]
  exact m2
theorem ne_ok {a sd e : Int} (ha : 0 ≤ a) (ha2 : a ≤ 250) (hsd : sd = 1 ∨ sd = 2) : ∀ (rest dc dr dn : List Int) (d b i : Int), (∀ c ∈ rest, okc c) → (dc.length : Int) = i → (dr.length : Int) = i → (dn.length : Int) = i → (d = 0 ∨ d = 1 ∨ d = 2) →
    (d = nBehind e rest → d ≠ 0 → b > 0 → (b = 1 ↔ d = 1)) → neOk a sd (dc ++ rest) (dr ++ nRes sd e d rest) (dn ++ nLev a (nRes sd e d rest)) rest.length i b = true := by
  intro rest
  induction rest with
  | nil => intro dc dr dn d b i _ _ _ _ _ _; rfl
  | cons c t ih =>
    intro dc dr dn d b i hok h1 h2 h3 hd hinv
    have step : ∀ x d', nRes sd e d (c :: t) = x :: nRes sd e d' t → neRd a sd c x ((a + nMore x a) % 256) b i = true → (d' = 0 ∨ d' = 1 ∨ d' = 2) → (d' = nBehind e t → d' ≠ 0 → neNx x b > 0 → (neNx x b = 1 ↔ d' = 1)) →
        neOk a sd (dc ++ c :: t) (dr ++ nRes sd e d (c :: t)) (dn ++ nLev a (nRes sd e d (c :: t))) (c :: t).length i b = true := by
      intro x d' hr hrd hd' hinv'
      rw [hr]
      have hl : nLev a (x :: nRes sd e d' t) = (a + nMore x a) % 256 :: nLev a (nRes sd e d' t) := rfl
      rw [hl, List.length_cons, neOk, E.rd_mid' h1.symm, E.rd_mid' h2.symm, E.rd_mid' h3.symm, hrd, Bool.true_and]
      have := ih (dc ++ [c]) (dr ++ [x]) (dn ++ [(a + nMore x a) % 256]) d' (neNx x b) (i + 1) (fun y hy => hok y (List.mem_cons_of_mem _ hy)) (by simp; omega) (by simp; omega) (by simp; omega) hd' hinv'
      simpa using this
    have hc := hok c (List.mem_cons_self ..)
    by_cases h10 : c = 10
    · subst h10
      refine step 10 d (by rw [nRes, if_pos rfl]) (by unfold neRd; exact decide_eq_true (.inl ⟨rfl, rfl⟩)) hd ?_
      have : neNx 10 b = b := by unfold neNx; rw [if_pos rfl]
      rw [this]
      exact hinv
    by_cases hn : nIs c = true
    · have hb : nBehind e (c :: t) = nBehind e t := by rw [nBehind, nStep, if_neg h10, if_pos hn]
      rw [hb] at hinv
      by_cases q : d = nBehind e t ∧ d ≠ 0
      · have hx : d = 1 ∨ d = 2 := by omega
        refine step d d (by rw [nRes, if_neg h10, if_pos hn, if_pos q]) (rd_ok ha ha2 (by omega) (fun h => by rw [hn] at h; cases h) (fun _ => ⟨hx, fun _ hb => hinv q.1 q.2 hb⟩)) hd ?_
        intro _ _ _
        unfold neNx
        rw [if_neg (by omega)]
        by_cases w : d = 1
        · rw [if_pos w]; simp [w]
        · rw [if_neg w]; simp [w]
      · refine step sd d (by rw [nRes, if_neg h10, if_pos hn, if_neg q]) (rd_ok ha ha2 (by omega) (fun h => by rw [hn] at h; cases h) (fun _ => ⟨hsd, fun h => absurd rfl h⟩)) hd ?_
        intro h4 h5
        exact absurd ⟨h4, h5⟩ q
    · have hx : c = 1 ∨ c = 2 ∨ c = 4 ∨ c = 7 := by
        rcases hc with h | h | h | h | h | h
        · exact .inl h
        · exact .inr (.inl h)
        · exact .inr (.inr (.inl h))
        · exact .inr (.inr (.inr h))
        · exact absurd h h10
        · exact absurd h hn
      refine step c (nDir c) (by rw [nRes, if_neg h10, if_neg hn]) (rd_ok ha ha2 hx (fun _ => rfl) (fun h => absurd h hn)) ?_ ?_
      · unfold nDir; rcases hx with h | h | h | h <;> subst h <;> simp
      · intro _ _ _
        unfold neNx nDir
        rcases hx with h | h | h | h <;> subst h <;> simp
theorem NeutralEnds : selvedgelaw18_NeutralEnds.Pure := by
  intro l a s e hm hy hw ha hs he
  have h0 := E.u8_lo ha
  refine E.out ?_
  unfold selvedgelaw18_NeutralEnds.f
  by_cases h : (l.length : Int) > 3000 ∨ a > 250
  · exact E.pos h A.works_ev
  · refine E.neg h (E.bnd (cleared_ev l (by omega)) ?_)
    have hl : (l.map clr).length < 140737488355328 := by rw [List.length_map]; omega
    refine E.bno (a := nRes (if a % 2 = 1 then 2 else 1) (nEdge e) (nEdge s) (l.map clr)) (by unfold neutral_Resolve.f; rw [if_pos ⟨hl, h0.1, h0.2⟩]) ?_
    refine E.bno (a := nLev a (nRes (if a % 2 = 1 then 2 else 1) (nEdge e) (nEdge s) (l.map clr))) (by unfold neutral_Levels.f; rw [if_pos ⟨by rw [A.nRes_length]; exact hl, h0.1, h0.2⟩]) ?_
    refine E.pos ⟨by simp, by rw [A.nRes_length]; simp, by unfold nLev; rw [List.length_map, A.nRes_length]; simp, ?_⟩ A.works_ev
    rw [A.tmod2 a h0.1]
    have hd : ∀ x, nEdge x = 0 ∨ nEdge x = 1 ∨ nEdge x = 2 := by intro x; unfold nEdge; split <;> simp
    have := ne_ok (a := a) (sd := if a % 2 = 1 then 2 else 1) (e := nEdge e) h0.1 (by omega) (by split <;> simp) (l.map clr) [] [] [] (nEdge s) 0 0 (fun c hc => by
      obtain ⟨x, _, rfl⟩ := List.mem_map.1 hc
      exact clr_ok x) rfl rfl rfl (hd s) (fun _ _ h => by omega)
    simpa using this
end Go.Proofs.Ytknfniggnobaaaa.Pure
