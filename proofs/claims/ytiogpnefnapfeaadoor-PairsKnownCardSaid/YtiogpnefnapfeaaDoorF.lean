import Derived.Test.YtiogpnefnapfeaaDoorD
/-! Chapter 17: the reference's Resolve, plainly. -/
namespace Go.Proofs.YtiogpnefnapfeaaDoor.Pure
open Go.RowKit Go.Proofs.YtiogpnefnapfeaaDoor.X Go.Proofs.YtiogpnefnapfeaaDoorW.PrintWords Go.Proofs.YtiogpnefnapfeaaDoorW.PrintLast
set_option linter.unusedSimpArgs false
set_option linter.unusedVariables false
set_option maxRecDepth 100000
theorem side_f (c : Int) : selvedgeref17_Side.f c = some (sideF c) := by
  unfold selvedgeref17_Side.f sideF
  by_cases q1 : c = 1
  · rw [if_pos q1, if_pos q1]
  · rw [if_neg q1, if_neg q1]
    by_cases q2 : c = 2
    · rw [if_pos q2, if_pos (Or.inl q2)]
    · rw [if_neg q2]
      by_cases q3 : c = 4
      · rw [if_pos q3, if_pos (Or.inr (Or.inl q3))]
      · rw [if_neg q3]
        by_cases q4 : c = 7
        · rw [if_pos q4, if_pos (Or.inr (Or.inr q4))]
        · rw [if_neg q4, if_neg (by rintro (z | z | z) <;> contradiction)]
theorem set_l0 (first : List Int) (c : Int) (n : Nat) (hn : n ≤ 65536) (hf : first.length = n) : ∀ (m i : Nat) (o : List Int), i + m = n → o.length = n → Ev (fun k => selvedgeref17_set.l0 k o first c (i : Int)) (runF first c m i o) := by
  intro m
  induction m with
  | zero =>
    intro i o h ho
    refine E.succ ?_
    simp only [selvedgeref17_set.l0]
    refine E.neg (by omega) (E.succ ?_)
    simp only [selvedgeref17_set.j1]
    exact E.neg (by decide) (E.ret rfl)
  | succ m ih =>
    intro i o h ho
    refine E.succ ?_
    simp only [selvedgeref17_set.l0]
    rw [rd_nat', rd_nat']
    have e : runF first c (m + 1) i o = if o.getD i 0 = 10 ∨ first.getD i 0 = 9 then runF first c m (i + 1) (if o.getD i 0 ≠ 10 then o.set i c else o) else o := rfl
    refine E.pos (by omega) (E.pos (by omega) ?_)
    by_cases q : o.getD i 0 = 10
    · refine E.pos q (E.succ ?_)
      simp only [selvedgeref17_set.j1]
      rw [rd_nat', nat1 _ (by omega), e, if_pos (Or.inl q), if_neg (by simpa using q)]
      exact E.pos (by trivial) (E.pos (by omega) (E.pos (by omega) (E.pos q (ih (i + 1) o (by omega) ho))))
    · refine E.neg q (E.pos (by omega) (E.succ ?_))
      simp only [selvedgeref17_set.j1]
      rw [rd_nat', nat1 _ (by omega), Int.toNat_natCast]
      by_cases q2 : first.getD i 0 = 9
      · rw [e, if_pos (Or.inr q2), if_pos q]
        exact E.pos (beq_iff_eq.mpr q2) (E.pos (by omega) (E.pos (by omega) (E.neg q (ih (i + 1) (o.set i c) (by omega) (by rw [List.length_set]; exact ho)))))
      · rw [e, if_neg (by rintro (z | z) <;> contradiction)]
        exact E.neg (by simpa using q2) (E.ret rfl)
theorem refset_ev (first out : List Int) (a : Nat) (c : Int) (ha : a < out.length) (hf : first.length = out.length) (hl : out.length ≤ 65536) : Ev (fun k => selvedgeref17_set.f k out first (a : Int) c) (setF first out a c) := by
  simp only [selvedgeref17_set.f]
  refine E.pos (by omega) (E.pos (by omega) ?_)
  rw [nat1 _ (by omega), Int.toNat_natCast]
  exact set_l0 first c out.length hl hf _ _ _ (by omega) (by rw [List.length_set])
theorem among_l0 (l : List Int) (s : Int) (hl : l.length ≤ 65536) : ∀ (d a : List Int), l = a ++ d → Ev (fun k => selvedgeref17_among.l0 k l s (a.length : Int)) (hasF d s) := by
  intro d
  induction d with
  | nil =>
    intro a h
    have : a.length = l.length := by rw [h]; simp
    refine E.succ ?_
    simp only [selvedgeref17_among.l0]
    exact E.neg (by omega) (E.ret rfl)
  | cons c d ih =>
    intro a h
    have hal : a.length + (d.length + 1) = l.length := by rw [h]; simp
    have hr : rd l (a.length : Int) = c := by rw [rd_nat', h, List.getD_eq_getElem?_getD, List.getElem?_append_right (Nat.le_refl _)]; simp
    have ih2 := ih (a ++ [c]) (by rw [h]; simp)
    rw [List.length_append, List.length_singleton] at ih2
    refine E.succ ?_
    simp only [selvedgeref17_among.l0, hr]
    rw [nat1 _ (by omega)]
    refine E.pos (by omega) (E.pos (by omega) (E.bno (side_f c) ?_))
    have e : hasF (c :: d) s = (sideF c == s || hasF d s) := rfl
    rw [e]
    by_cases q : sideF c = s
    · exact E.pos q (E.ret (by rw [beq_iff_eq.mpr q]; rfl))
    · refine E.neg q ?_
      rw [beq_eq_false_iff_ne.mpr q, Bool.false_or]
      exact ih2
theorem among_ev (l : List Int) (s : Int) (hl : l.length ≤ 65536) : Ev (fun k => selvedgeref17_among.f k l s) (hasF l s) := among_l0 l s hl l [] rfl
theorem ahead_l0 (l : List Int) (sos : Int) (hl : l.length ≤ 65536) : ∀ n : Nat, n ≤ l.length → Ev (fun k => selvedgeref17_ahead.l0 k l sos ((n : Int) - 1)) (lookF l sos n) := by
  intro n
  induction n with
  | zero =>
    intro _
    refine E.succ ?_
    simp only [selvedgeref17_ahead.l0]
    refine E.neg (by omega) ?_
    by_cases q : sos = 2
    · exact E.pos q (E.ret (by unfold lookF; rw [if_pos q]))
    · exact E.neg q (E.ret (by unfold lookF; rw [if_neg q]))
  | succ n ih =>
    intro h
    have e1 : ((n + 1 : Nat) : Int) - 1 = (n : Int) := by omega
    rw [e1]
    refine E.succ ?_
    simp only [selvedgeref17_ahead.l0]
    rw [rd_nat', E.w64 (by omega) (by omega)]
    have e : lookF l sos (n + 1) = if sideF (l.getD n 0) ≠ 0 then sideF (l.getD n 0) else lookF l sos n := rfl
    refine E.pos (by omega) (E.pos (by omega) (E.pos (by omega) (E.bno (side_f _) ?_)))
    rw [e]
    by_cases q : sideF (l.getD n 0) = 0
    · refine E.pos q ?_
      rw [if_neg (by simpa using q)]
      exact ih (by omega)
    · refine E.neg q (E.bno (side_f _) (E.ret ?_))
      rw [if_pos q]
theorem ahead_ev (l : List Int) (sos : Int) (hl : l.length ≤ 65536) : Ev (fun k => selvedgeref17_ahead.f k l sos) (lookF l sos l.length) := by
  simp only [selvedgeref17_ahead.f]
  rw [E.w64 (by omega) (by omega)]
  exact ahead_l0 l sos hl l.length (Nat.le_refl _)
theorem look_take (l : List Int) (sos : Int) (x : Nat) : ∀ n, n ≤ x → lookF (l.take x) sos n = lookF l sos n := by
  intro n
  induction n with
  | zero => intro _; rfl
  | succ n ih =>
    intro h
    have e : (l.take x).getD n 0 = l.getD n 0 := by
      rw [List.getD_eq_getElem?_getD, List.getElem?_take, if_pos (by omega), ← List.getD_eq_getElem?_getD]
    unfold lookF
    rw [e, ih (by omega)]
theorem rd31 (ps : List (Int × Int)) (i : Nat) (p : Int × Int) (h : ps[i]? = some p) : rd_T31 (ps.map m31) (i : Int) = m31 p := by
  unfold rd_T31
  rw [Int.toNat_natCast, List.getD_eq_getElem?_getD, List.getElem?_map, h]
  rfl
theorem res_l0 (l first now : List Int) (mine other sos : Int) (hm : (mine = 1 ∧ other = 2) ∨ (mine = 2 ∧ other = 1)) (hl : l.length ≤ 65536) (hf : first.length = l.length) (hn : now.length = l.length) :
    ∀ (m i : Nat) (out : List Int), i + m = (pairsF l now).length → out.length = l.length → Ev (fun k => selvedgeref17_Resolve.l0 k first sos out mine other ((pairsF l now).map m31) (i : Int)) (((pairsF l now).drop i).foldl (stepF first mine other sos) out, 0) := by
  have hpl := pairsF_len l now
  intro m
  induction m with
  | zero =>
    intro i out h ho
    refine E.succ ?_
    simp only [selvedgeref17_Resolve.l0]
    refine E.neg (by rw [List.length_map]; omega) (E.ret ?_)
    rw [List.drop_eq_nil_of_le (by omega)]
    rfl
  | succ m ih =>
    intro i out h ho
    have hil : i < (pairsF l now).length := by omega
    obtain ⟨p, hp⟩ : ∃ p, (pairsF l now)[i]? = some p := ⟨_, List.getElem?_eq_getElem hil⟩
    have hg := goF_mem ((mem_pairsF p).1 (List.mem_of_getElem? hp))
    obtain ⟨x, hx⟩ := Int.eq_ofNat_of_zero_le hg.1.nn
    obtain ⟨y, hy⟩ := Int.eq_ofNat_of_zero_le (Int.le_trans hg.1.nn (Int.le_of_lt hg.1.lt))
    have hxy := hg.1.lt
    have hyl := hg.2.1
    have hp2 : p = ((x : Int), (y : Int)) := Prod.ext hx hy
    rw [hx, hy] at hxy
    rw [hy] at hyl
    subst hp2
    have hr := rd31 (pairsF l now) i _ hp
    have hd : (pairsF l now).drop i = ((x : Int), (y : Int)) :: (pairsF l now).drop (i + 1) := by
      rw [List.drop_eq_getElem_cons hil, (List.getElem?_eq_some_iff.mp hp).2]
    rw [hd, List.foldl_cons]
    refine E.succ ?_
    simp only [selvedgeref17_Resolve.l0, hr, m31]
    rw [nat1 x (by omega), nat1 i (by omega), Int.toNat_natCast, Int.toNat_natCast, Int.toNat_natCast]
    refine E.pos (by rw [List.length_map]; omega) (E.pos (by omega) (E.pos (by omega) (E.pos (by omega) (E.pos (by omega) (E.bno rfl ?_)))))
    have hmid : (out.take y).drop (x + 1) = midF out ((x : Int), (y : Int)) := by unfold midF; dsimp only; rw [Int.toNat_natCast, Int.toNat_natCast]
    rw [hmid]
    have hml : (midF out ((x : Int), (y : Int))).length ≤ 65536 := by rw [← hmid, List.length_drop, List.length_take]; omega
    have hset : ∀ c, c ≠ 0 → becF out mine other sos ((x : Int), (y : Int)) = c → Ev (fun k => (selvedgeref17_set.f k out first (x : Int) c).bind fun t192 => (selvedgeref17_set.f k t192 first (y : Int) c).bind fun t193 => selvedgeref17_Resolve.l0 k first sos t193 mine other ((pairsF l now).map m31) ((i + 1 : Nat) : Int)) (((pairsF l now).drop (i + 1)).foldl (stepF first mine other sos) (stepF first mine other sos out ((x : Int), (y : Int))), 0) := by
      intro c hc hbc
      refine E.bnd (refset_ev first out x c (by omega) (by omega) (by omega)) (E.bnd (refset_ev first _ y c (by rw [setF_len]; omega) (by rw [setF_len]; omega) (by rw [setF_len]; omega)) ?_)
      have hs : stepF first mine other sos out ((x : Int), (y : Int)) = setF first (setF first out x c) y c := by
        unfold stepF
        rw [hbc, if_pos hc]
        rfl
      rw [hs]
      exact ih (i + 1) _ (by omega) (by rw [setF_len, setF_len]; exact ho)
    have hb0 : becF out mine other sos ((x : Int), (y : Int)) = if hasF (midF out ((x : Int), (y : Int))) mine = true then mine else if hasF (midF out ((x : Int), (y : Int))) other = true then lookF out sos x else 0 := rfl
    refine E.bnd (among_ev _ mine hml) ?_
    by_cases q : hasF (midF out ((x : Int), (y : Int))) mine = true
    · refine E.pos q (hset mine (by omega) ?_)
      rw [hb0, if_pos q]
    · rw [if_neg q] at hb0
      refine E.neg q (E.bnd (among_ev _ other hml) ?_)
      by_cases q2 : hasF (midF out ((x : Int), (y : Int))) other = true
      · rw [if_pos q2] at hb0
        refine E.pos q2 (E.pos (by omega) (E.pos (by omega) ?_))
        have ha := ahead_ev (out.take x) sos (by rw [List.length_take]; omega)
        rw [List.length_take, Nat.min_eq_left (by omega), look_take out sos x x (Nat.le_refl _)] at ha
        refine E.bnd ha ?_
        by_cases q3 : lookF out sos x = other
        · exact E.pos q3 (hset other (by omega) (by rw [hb0, q3]))
        · refine E.neg q3 (hset mine (by omega) ?_)
          rw [hb0]
          rcases lookF_or out sos x with z | z <;> omega
      · rw [if_neg q2] at hb0
        refine E.neg q2 ?_
        have hs : stepF first mine other sos out ((x : Int), (y : Int)) = out := by
          unfold stepF
          rw [hb0, if_neg (by simp)]
        rw [hs]
        exact ih (i + 1) out (by omega) ho
theorem refres_ev (l first now : List Int) (level sos : Int) (hlv : 0 ≤ level ∧ level ≤ 255) (hln : now.length ≤ 65536) : Ev (fun k => selvedgeref17_Resolve.f k l first now level sos) (resolveF l first now level sos) := by
  simp only [selvedgeref17_Resolve.f]
  unfold resolveF
  by_cases q : 65536 < l.length
  · rw [if_pos q]
    exact E.pos (by omega) (E.ret rfl)
  · rw [if_neg q]
    refine E.neg (by omega) ?_
    have hbad : (first.length ≠ l.length ∨ now.length ≠ l.length) → Ev (fun k => selvedgeref17_Resolve.j0 k l first now level sos true) (if first.length ≠ l.length ∨ now.length ≠ l.length then (([] : List Int), (2 : Int)) else (resF l first now level sos, 0)) := by
      intro hb
      refine E.succ ?_
      simp only [selvedgeref17_Resolve.j0]
      refine E.pos (by trivial) (E.ret ?_)
      rw [if_pos hb]
    by_cases q1 : first.length = l.length
    · refine E.pos (by omega) ?_
      by_cases q2 : now.length = l.length
      · have e1 : ((now.length : Int) != (l.length : Int)) = false := by rw [q2]; simp
        rw [e1, if_neg (by rintro (z | z) <;> contradiction)]
        refine E.succ ?_
        simp only [selvedgeref17_Resolve.j0]
        refine E.neg (by decide) (E.pos (by simp; omega) (E.bno rfl ?_))
        rw [List.nil_append, Int.tmod_eq_emod_of_nonneg hlv.1]
        have hj : ∀ m o : Int, (m = 1 ∧ o = 2) ∨ (m = 2 ∧ o = 1) → mineF level = m → otherF level = o → Ev (fun k => selvedgeref17_Resolve.j1 k l first now sos now m o) (resF l first now level sos, 0) := by
          intro m o hmo em eo
          refine E.succ ?_
          simp only [selvedgeref17_Resolve.j1]
          refine E.bnd (refpairs_ev l now (by omega)) ?_
          have := res_l0 l first now m o sos hmo (by omega) q1 q2 (pairsF l now).length 0 now (by omega) q2
          rw [List.drop_zero, ← em, ← eo] at this
          rw [← em, ← eo]
          exact this
        by_cases q3 : level % 2 = 1
        · exact E.pos q3 (hj 2 1 (Or.inr ⟨rfl, rfl⟩) (if_pos q3) (if_pos q3))
        · exact E.neg q3 (hj 1 2 (Or.inl ⟨rfl, rfl⟩) (if_neg q3) (if_neg q3))
      · have e1 : ((now.length : Int) != (l.length : Int)) = true := bne_iff_ne.mpr (by omega)
        rw [e1]
        exact hbad (Or.inr q2)
    · exact E.neg (by omega) (hbad (Or.inl q1))
end Go.Proofs.YtiogpnefnapfeaaDoor.Pure
